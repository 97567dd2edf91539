import Derived.WalkKit
import Derived.WalkSpells
import Derived.WalkLawsBesides
import Derived.Lib.Hide
import Derived.Deep.QuietTactic
import Derived.BigQuiet
import Derived.Test.YtgmahhdnjikdjaaGreatProg
import Derived.Laws.BytesArg
import Derived.RangeFuncNested
import Derived.RangeFuncBound
import Derived.RangeFuncCalls
import Derived.RangeFuncLeaves
import Derived.RangeFuncBox
import Derived.Shelf.Abstract
import Derived.Shelf.RegionOpen
import Derived.OwnWalkIn
import Derived.TacticsInMore
import Derived.LoopNIn
import Derived.LoopIn
import Derived.Lib.OthersKept
import Derived.Deep.LoopGhost
import Derived.ChangeKeysEq
import Derived.Deep.MidRow
import Derived.Deep.WholeRow
import Derived.StillTailTactics
import Derived.Deep.RegionHeld3
import Derived.Lib.Strings
import Derived.Lib.Slices
import Derived.Lib.Walk
import Derived.Lib.Bytealg
set_option linter.unusedVariables false
set_option linter.unusedSimpArgs false
/- Several texts in one: Base Mods Bytes BaseIn Chg Wire0 Wire1 Wire2 Wire3 Wire4 Wire5 Assert Arr Still Held ContR High. -/
namespace Go.Proofs.YtgmahhdnjikdjaaGreat
open Go.RowKit
set_option linter.unusedVariables false
/-- Where a slice's row lies behind an append: where it lay, or in a new block. -/
def SameOrNew (w : World) (v v' : Value) : Prop := v'.ownBlock = v.ownBlock ∨ ∃ g, v'.ownBlock = some g ∧ w.heap.size ≤ g
/-- Append to a slice that is nil or the call's own: what it leaves, and where. -/
theorem run_app {P : Program} (w : World) (base : Nat) (t ty e : TypeId) (i : TypeInfo) (z : Value) (size bytes : Nat) (ht : P.underlying t = some (.slice e)) (hi : P.info? e = some i) (hz : i.zero = some z)
  (hsize : i.size = size) (hby : i.bytes = bytes) (hzs : z.cells.size = size) (hsz : 0 < size)
  (v : Value) (n : Nat) (xs : List Value) (hown : w.ownsRow base e size v n xs)
  (a : Addr) (m c : Nat) (news : List Value) (hl : news.length = m * size) (hnews : ∀ j u, news[j]? = some u → w.cell? (a.add j) = some u) (h1 : ∀ u ∈ news, u.oneCell' = true)
  (h63 : n + m ≤ maxLen) (hbytes : (n + m) * bytes ≤ 140737488355328) (hbase : base ≤ w.heap.size) :
  ∃ v' w', (Builtin.append_ #[t, t] ty #[v, .slice (some a) m c]).run P w = .ok v' w' ∧ w'.ownsRow base e size v' (n + m) (xs ++ news) ∧ w.grownBy w' v.ownBlock ∧ SameOrNew w v v' ∧
   (v' = .slice none 0 0 ↔ v = .slice none 0 0 ∧ m = 0) := by
 subst hsize
 subst hby
 have hsmall : n + m ≤ 9223372036854775807 := by simp only [maxLen] at h63; omega
 have hlen : (xs ++ news).length = (n + m) * i.size := by rw [List.length_append, hown.1, hl, Nat.add_mul]
 have hnew : ∀ (old : Nat) (row : Option Nat),
   (w.drew.alloc (.cells (xs.toArray ++ news.toArray ++ Builtin.zeroCells z.cells (grownCap w (n + m) old e - (n + m))) e)).ownsRow base e i.size
    (.slice (some ⟨w.heap.size, 0, none⟩) (n + m) (grownCap w (n + m) old e)) (n + m) (xs ++ news) ∧
   w.grownBy (w.drew.alloc (.cells (xs.toArray ++ news.toArray ++ Builtin.zeroCells z.cells (grownCap w (n + m) old e - (n + m))) e)) row := by
  intro old row
  have hge := grownCap_ge w (n + m) old e
  have hcm : grownCap w (n + m) old e ≤ maxLen := grownCap_le_maxLen w (n + m) old e h63
  refine ⟨⟨hlen, .inr ⟨w.heap.size, _, _, rfl, hbase, heap_alloc_new w.drew _, hge, hcm, ?_, ?_⟩⟩, ⟨rfl, rfl, rfl, by simp, fun k hk _ => Below.heap_alloc w.drew _ k hk⟩⟩
  ·simp only [Array.size_append, List.size_toArray, size_zeroCells, hzs, hown.1, hl, ← Nat.add_mul]
   congr 1
   omega
  ·simp only [Array.toList_append, List.append_assoc]
   rw [← List.append_assoc, ← hlen]
   exact List.take_left
 rcases hown.2 with ⟨rfl, rfl⟩ | ⟨g, cap, cur, rfl, hbg, hg, hnc, hcm, hcs, htake⟩
 ·obtain rfl : xs = [] := List.eq_nil_of_length_eq_zero (by simpa using hown.1)
  by_cases hm : m = 0
  ·subst hm
   obtain rfl : news = [] := List.eq_nil_of_length_eq_zero (by simpa using hl)
   refine ⟨.slice none 0 0, w, ?_, World.ownsRow_nil w base e i.size, ⟨rfl, rfl, rfl, Nat.le_refl _, fun _ _ _ => rfl⟩, .inl rfl, by simp⟩
   simp [Builtin.append_, run_underlying ht, sizeOf, typeInfo, hi, Builtin.lenOf, Builtin.firstCells, loadCells, loadCellsFrom]
  ·have hr := run_append_nil (P := P) w t ty e i z ht hi hz a m c news hl hnews (by omega) (by omega) (by have hb := hbytes; simp only [Nat.zero_add] at hb; omega)
   have hgr := hnew 0 (Value.ownBlock (.slice none 0 0))
   simp only [Nat.zero_add, List.nil_append, Array.empty_append] at hgr ⊢
   exact ⟨_, _, hr, hgr.1, hgr.2, .inr ⟨_, rfl, Nat.le_refl _⟩, by simp [hm]⟩
 ·by_cases hroom : n + m ≤ cap
  ·have hfit : n * i.size + news.length ≤ cur.size := by rw [hl, hcs, ← Nat.add_mul]; exact Nat.mul_le_mul_right _ hroom
   have hr := run_append_room (P := P) w t ty e i ht hi g n cap cur hg a m c news hl hnews h1 hroom hfit
   refine ⟨_, _, hr, ⟨hlen, .inr ⟨g, cap, _, rfl, hbg, setRow_heap w g cur _ e _ hg, hroom, hcm, ?_, ?_⟩⟩, ⟨rfl, rfl, rfl, by simp, fun k _ hk => setRow_other w g k _ (fun e => hk (by simp [Value.ownBlock, e]))⟩, .inl rfl, by simp⟩
   ·simp only [List.size_toArray, List.length_append, List.length_take, List.length_drop, Array.length_toList]
    omega
   ·rw [htake, ← hlen]
    exact List.take_left
  ·have holds : ∀ j u, xs[j]? = some u → w.cell? ((⟨g, 0, none⟩ : Addr).add j) = some u := hown.cells (g := g) rfl
   have hr := run_append_grow (P := P) w t ty e i z ht hi hz ⟨g, 0, none⟩ n cap xs hown.1 holds a m c news hl hnews (by omega) (by omega) (growslice_fits (by omega) hbytes)
   have hgr := hnew cap (Value.ownBlock (.slice (some ⟨g, 0, none⟩) n cap))
   exact ⟨_, _, hr, hgr.1, hgr.2, .inr ⟨_, rfl, Nat.le_refl _⟩, by simp⟩
theorem wp_app {P : Program} (w : World) {o : Oper} {a : Act} {K : Act → World → Prop} {Q : Exit → Act → World → Prop} (s x : Operand) (t : TypeId)
  (ho : o.op = .call { callee := .builtin .append, args := #[s, x], argTypes := #[t, t] })
  (base : Nat) (e : TypeId) (i : TypeInfo) (z : Value) (size bytes : Nat) (ht : P.underlying t = some (.slice e)) (hi : P.info? e = some i) (hz : i.zero = some z)
  (hsize : i.size = size) (hby : i.bytes = bytes) (hzs : z.cells.size = size) (hsz : 0 < size)
  (v : Value) (n : Nat) (xs : List Value) (hs : a.eval s = v) (hown : w.ownsRow base e size v n xs)
  (ad : Addr) (m c : Nat) (news : List Value) (hx : a.eval x = .slice (some ad) m c) (hl : news.length = m * size) (hnews : ∀ j u, news[j]? = some u → w.cell? (ad.add j) = some u) (h1 : ∀ u ∈ news, u.oneCell' = true)
  (h63 : n + m ≤ maxLen) (hbytes : (n + m) * bytes ≤ 140737488355328) (hbase : base ≤ w.heap.size)
  (h : ∀ v' w', w'.ownsRow base e size v' (n + m) (xs ++ news) → w.grownBy w' v.ownBlock → SameOrNew w v v' → (v' = .slice none 0 0 ↔ v = .slice none 0 0 ∧ m = 0) → K (a.put o.dst v') w') : o.wp P a w K Q := by
 obtain ⟨v', w', hr, h2, h3, h4, h5⟩ := run_app (P := P) w base t o.type e i z size bytes ht hi hz hsize hby hzs hsz v n xs hown ad m c news hl hnews h1 h63 hbytes hbase
 unfold Oper.wp execOp
 simp only [ho, resolve, invoke, builtin, Sem.run_bind, Sem.run_pure, Result.andThen_ok, List.map_toArray, List.map_cons, List.map_nil, hs, hx, hr]
 exact h v' w' h2 h3 h4 h5
/-- The slice value v reads, in w, as n elements whose cells are xs. -/
def Rd (w : World) (size : Nat) (v : Value) (n : Nat) (xs : List Value) : Prop :=
 ∃ ao cap, v = .slice ao n cap ∧ xs.length = n * size ∧ n ≤ maxLen ∧ ((ao = none → cap = 0) ∧ n ≤ cap ∧ cap ≤ maxLen) ∧ ∀ j u, xs[j]? = some u → ∃ b off, ao = some ⟨b, off, none⟩ ∧ b < w.heap.size ∧ w.cell? ⟨b, off + j, none⟩ = some u
theorem Rd.below {w w' : World} {size n : Nat} {v : Value} {xs : List Value} (h : Rd w size v n xs) (hb : Below w.heap.size w w') : Rd w' size v n xs := by
 obtain ⟨ao, cap, hv, hl, hm, hn, hc⟩ := h
 refine ⟨ao, cap, hv, hl, hm, hn, fun j u hj => ?_⟩
 obtain ⟨b, off, ha, hlt, hcell⟩ := hc j u hj
 exact ⟨b, off, ha, Nat.lt_of_lt_of_le hlt hb.size, (hb.cell (p := ⟨b, off + j, none⟩) hlt).trans hcell⟩
theorem Rd.of_own {w : World} {base : Nat} {e : TypeId} {size n : Nat} {v : Value} {xs : List Value} (h : w.ownsRow base e size v n xs) : Rd w size v n xs := by
 rcases h.2 with ⟨rfl, rfl⟩ | ⟨g, cap, cur, rfl, hb, hg, hnc, hcm, hcs, htake⟩
 ·refine ⟨none, 0, rfl, h.1, by simp, ⟨fun _ => rfl, by simp, by simp⟩, fun j u hj => ?_⟩
  have : xs = [] := List.eq_nil_of_length_eq_zero (by simpa using h.1)
  simp [this] at hj
 ·refine ⟨_, cap, rfl, h.1, Nat.le_trans hnc hcm, ⟨(fun h => by cases h), hnc, hcm⟩, fun j u hj => ⟨g, 0, rfl, (Array.getElem?_eq_some_iff.1 hg).1, ?_⟩⟩
  rw [Nat.zero_add, cell_of_row w g j cur e (0, 0) hg]
  rw [← htake, List.getElem?_take] at hj
  split at hj
  ·simpa using hj
  ·cases hj
/-- 'out = append(out, y...)' with out the call's own (or nil) and y whatever slice can be read. -/
theorem wpList_apps {P : Program} {ops : Array Oper} {rest : List Oper} {o : Oper} {a : Act} {Q : Exit → Act → World → Prop} {w : World} (hgd : o.guard = none) (s x : Operand) (t : TypeId)
  (ho : o.op = .call { callee := .builtin .append, args := #[s, x], argTypes := #[t, t] })
  (base : Nat) (e : TypeId) (z : Value) (size bytes : Nat) (ht : P.underlying t = some (.slice e)) (hinfo : (P.info? e).map (fun i => (i.zero, i.size, i.bytes)) = some (some z, size, bytes))
  (hzs : z.cells.size = size) (hsz : 0 < size) (hby : 0 < bytes)
  (v : Value) (n : Nat) (xs : List Value) (hs : a.eval s = v) (hown : w.ownsRow base e size v n xs)
  (u : Value) (m : Nat) (news : List Value) (hx : a.eval x = u) (hrd : Rd w size u m news) (h1 : ∀ u ∈ news, u.oneCell' = true)
  (hbytes : (n + m) * bytes ≤ 140737488355328) (hbase : base ≤ w.heap.size)
  (h : ∀ v' w', w'.ownsRow base e size v' (n + m) (xs ++ news) → Below base w w' → w.grownBy w' v.ownBlock → SameOrNew w v v' → (v' = .slice none 0 0 ↔ v = .slice none 0 0 ∧ m = 0) → wpList P ops Q rest (a.put o.dst v') w') :
  wpList P ops Q (o :: rest) a w := by
 obtain ⟨i0, hi, hz0, hz1, hz2⟩ := info_parts hinfo
 have hn1 : n + m ≤ maxLen := by
  have : n + m ≤ (n + m) * bytes := Nat.le_mul_of_pos_right _ hby
  unfold maxLen; omega
 obtain ⟨ao, cap, rfl, hl, hm, hcap, hc⟩ := hrd
 cases ao with
 | none =>
  obtain rfl := hcap.1 rfl
  have hnews : news = [] := by
   cases news with
   | nil => rfl
   | cons y ys => obtain ⟨b, off, h0, _⟩ := hc 0 y rfl; cases h0
  subst hnews
  have hm0 : m = 0 := by
   rcases Nat.eq_zero_or_pos m with h | h
   ·exact h
   ·have := Nat.mul_pos h hsz; simp at hl; omega
  subst hm0
  refine wpList_plain hgd fun K hK => ?_
  have hrun := run_append_owned_none (P := P) w base t o.type e i0 size ht hi v n xs hown
  unfold Oper.wp
  simp [execOp, ho, resolve, invoke, builtin, hs, hx, hrun, Result.andThen]
  exact hK _ _ (h v w (by simpa using hown) (Below.refl _ _) (World.grownBy.refl _ _) (.inl rfl) (by simp))
 | some ad =>
  by_cases hm0 : m = 0
  ·subst hm0
   have hnews : news = [] := List.eq_nil_of_length_eq_zero (by simpa using hl)
   subst hnews
   refine wpList_plain hgd fun K hK => wp_app _ s x t ho base e i0 z size bytes ht hi hz0 hz1 hz2 hzs hsz v n xs hs hown ad 0 cap [] hx (by simp) (fun j u hj => by simp at hj) (by simp) hn1 hbytes hbase ?_
   intro v' w' ho' hg hsn hne
   exact hK _ _ (h v' w' ho' ((Below.refl base w).grown hg hbase (fun k hk => (hown.lt k hk).1)) hg hsn hne)
  ·have hpos : 0 < news.length := by rw [hl]; exact Nat.mul_pos (by omega) hsz
   obtain ⟨b, off, hb0, _⟩ := hc 0 news[0] (List.getElem?_eq_getElem hpos)
   obtain rfl := Option.some.inj hb0
   refine wpList_plain hgd fun K hK => wp_app _ s x t ho base e i0 z size bytes ht hi hz0 hz1 hz2 hzs hsz v n xs hs hown ⟨b, off, none⟩ m cap news hx hl ?_ h1 hn1 hbytes hbase ?_
   ·intro j u hj
    obtain ⟨b', off', hb1, _, hcell⟩ := hc j u hj
    obtain ⟨rfl, rfl⟩ : b = b' ∧ off = off' := by simpa using hb1
    rw [Addr.add_lit]
    exact hcell
   ·intro v' w' ho' hg hsn hne
    exact hK _ _ (h v' w' ho' ((Below.refl base w).grown hg hbase (fun k hk => (hown.lt k hk).1)) hg hsn hne)
/-- 'make([]T, n)', n a variable. -/
theorem wpList_mk {P : Program} {ops : Array Oper} {rest : List Oper} {o : Oper} {a : Act} {Q : Exit → Act → World → Prop} {w : World} (hgd : o.guard = none) (l c : Operand) (t : TypeId) (ho : o.op = Op.makeSlice t l c)
  (base : Nat) (e : TypeId) (z : Value) (size bytes : Nat) (ht : P.underlying t = some (.slice e)) (hinfo : (P.info? e).map (fun i => (i.zero, i.size, i.bytes)) = some (some z, size, bytes)) (hby : 0 < bytes)
  (kl kc : IntKind) (L C : Int) (n : Nat) (hl : a.eval l = .int kl L) (hc : a.eval c = .int kc C) (hL : L = (n : Int)) (hC : C = (n : Int)) (hb : bytes * n ≤ 281474976710656) (hbase : base ≤ w.heap.size)
  (h : ∀ w', w'.ownsRow base e size (.slice (some ⟨w.heap.size, 0, none⟩) n n) n (madeCells z.cells (n * size)).toList → Below base w w' → wpList P ops Q rest (a.put o.dst (.slice (some ⟨w.heap.size, 0, none⟩) n n)) w') :
  wpList P ops Q (o :: rest) a w := by
 obtain ⟨i0, hi, hz0, hz1, hz2⟩ := info_parts hinfo
 have hn1 : n ≤ maxLen := by
  have : n ≤ bytes * n := Nat.le_mul_of_pos_left _ hby
  unfold maxLen; omega
 exact wpList_make_full _ hgd l c t ho base e i0 z size ht hi hz0 hz1 kl kc L C n hl hc hL hC (by rw [hz2]; exact hb) hn1 hbase fun w' ho' hg => h w' ho' ((Below.refl base w).grown hg hbase (fun _ h => by cases h))
/-- What a callee leaves, behind what the caller has done so far. -/
theorem bthen {a w w' : World} (h : Below a.heap.size a w) (k : Below w.heap.size w w') : Below a.heap.size a w' := h.trans (k.mono h.size)
theorem balloc {a w : World} (h : Below a.heap.size a w) (o : Obj) : Below a.heap.size a (w.alloc o) := h.alloc h.size o
/-- Where a slice begins that is cut off ahead: 's[l:h]' (at the capacity's end Go keeps the old address). -/
def cutA (ao : Option Addr) (cap l size : Nat) : Option Addr := if cap = l then ao else ao.map (·.add (l * size))
/-- A cut of a slice that reads as xs reads as a cut of xs. -/
theorem Rd.cut {w : World} {size n cap : Nat} {ao : Option Addr} {xs : List Value} (h : Rd w size (.slice ao n cap) n xs) {l k : Nat} (h1 : l ≤ k) (h2 : k ≤ n) :
  Rd w size (.slice (cutA ao cap l size) (k - l) (cap - l)) (k - l) ((xs.drop (l * size)).take ((k - l) * size)) := by
 obtain ⟨ao', cap', he, hl, hm, ⟨hn, hnc, hcm⟩, hc⟩ := h
 simp only [Value.slice.injEq, true_and] at he
 obtain ⟨rfl, rfl⟩ := he
 have hlen : ((xs.drop (l * size)).take ((k - l) * size)).length = (k - l) * size := by
  rw [List.length_take, List.length_drop, hl]
  have : k * size ≤ n * size := Nat.mul_le_mul_right _ h2
  rw [Nat.sub_mul]
  omega
 refine ⟨_, _, rfl, hlen, by omega, ⟨fun hcut => ?_, by omega, by omega⟩, fun j u hj => ?_⟩
 ·unfold cutA at hcut
  split at hcut
  ·omega
  ·have : ao = none := by cases ao <;> simp_all
   have := hn this
   omega
 ·have hjl : j < (k - l) * size := by
   rw [← hlen]; exact (List.getElem?_eq_some_iff.1 hj).1
  rw [List.getElem?_take, if_pos hjl, List.getElem?_drop] at hj
  obtain ⟨b, off, ha, hb, hcell⟩ := hc _ u hj
  have hlk : cap ≠ l := by
   intro e
   have : k - l = 0 := by omega
   rw [this] at hjl
   simp at hjl
  refine ⟨b, off + l * size, ?_, hb, by rw [Nat.add_assoc]; exact hcell⟩
  unfold cutA
  rw [if_neg hlk, ha]
  simp only [Option.map_some, Option.some.injEq]
  exact Addr.add_lit _ _ _
end Go.Proofs.YtgmahhdnjikdjaaGreat
/- What a call may have changed: the blocks of a list, and new ones. -/
namespace Go.Proofs.YtgmahhdnjikdjaaGreat
open Go.RowKit
set_option linter.unusedVariables false
/-- Of the blocks that there were only those of F may have changed. -/
structure Mods (F : List Nat) (w w' : World) : Prop where
 os : w'.os = w.os
 tape : w'.tape = w.tape
 output : w'.output = w.output
 size : w.heap.size ≤ w'.heap.size
 block : ∀ k, k < w.heap.size → k ∉ F → w'.heap[k]? = w.heap[k]?
theorem Mods.refl (F : List Nat) (w : World) : Mods F w w := ⟨rfl, rfl, rfl, Nat.le_refl _, fun _ _ _ => rfl⟩
theorem Mods.trans {F G : List Nat} {a b c : World} (h : Mods F a b) (k : Mods G b c) (hG : ∀ i ∈ G, i ∈ F ∨ a.heap.size ≤ i) : Mods F a c :=
 ⟨k.os.trans h.os, k.tape.trans h.tape, k.output.trans h.output, Nat.le_trans h.size k.size, fun i hi hF =>
  (k.block i (Nat.lt_of_lt_of_le hi h.size) (fun hg => by rcases hG i hg with h1 | h1; exact hF h1; omega)).trans (h.block i hi hF)⟩
theorem Mods.of_below {F : List Nat} {w w' : World} (h : Below w.heap.size w w') : Mods F w w' := ⟨h.os, h.tape, h.output, h.size, fun k hk _ => h.block k hk⟩
theorem Mods.thenBelow {F : List Nat} {a b c : World} (h : Mods F a b) (k : Below b.heap.size b c) : Mods F a c :=
 ⟨k.os.trans h.os, k.tape.trans h.tape, k.output.trans h.output, Nat.le_trans h.size k.size, fun i hi hF => (k.block i (Nat.lt_of_lt_of_le hi h.size)).trans (h.block i hi hF)⟩
theorem Mods.alloc {F : List Nat} {a b : World} (h : Mods F a b) (o : Obj) : Mods F a (b.alloc o) := h.thenBelow (balloc (Below.refl _ b) o)
theorem Mods.drew {F : List Nat} {a b : World} (h : Mods F a b) : Mods F a b.drew := h.thenBelow (Below.refl _ b).drew
theorem Mods.drewN {F : List Nat} {a b : World} (h : Mods F a b) (n : Nat) : Mods F a (b.drewN n) := h.thenBelow (below_drewN (Below.refl _ b) n)
theorem Mods.setCell {F : List Nat} {a b : World} (h : Mods F a b) {p : Addr} (hp : p.block ∈ F) (u : Value) : Mods F a (b.setCell p u) :=
 ⟨h.os, h.tape, h.output, by simpa [World.setCell] using h.size, fun k hk hF => (Below.heap_setCell b p u k (fun e => hF (e ▸ hp))).trans (h.block k hk hF)⟩
theorem Mods.below {F : List Nat} {w w' : World} {B : Nat} (h : Mods F w w') (hF : ∀ k ∈ F, B ≤ k) (hB : B ≤ w.heap.size) : Below B w w' :=
 ⟨h.os, h.tape, h.output, h.size, fun k hk => h.block k (Nat.lt_of_lt_of_le hk hB) (fun hk2 => by have := hF k hk2; omega)⟩
theorem Mods.mono {F G : List Nat} {w w' : World} (h : Mods F w w') (hFG : ∀ k ∈ F, k ∈ G) : Mods G w w' := ⟨h.os, h.tape, h.output, h.size, fun k hk hn => h.block k hk (fun e => hn (hFG k e))⟩
/-- The blocks of F lie as they lay. -/
def SameAt (F : List Nat) (w w' : World) : Prop := ∀ k ∈ F, w'.heap[k]? = w.heap[k]?
theorem Mods.same {F G : List Nat} {w w' : World} (h : Mods F w w') (hG : ∀ k ∈ G, k < w.heap.size ∧ k ∉ F) : SameAt G w w' := fun k hk => h.block k (hG k hk).1 (hG k hk).2
theorem cellOf {w : World} {b : Nat} {cs : Array Value} {t : TypeId} {fr : Nat × Nat} (h : w.heap[b]? = some (.cells cs t fr)) (i : Nat) {v : Value} (hv : cs[i]? = some v) : w.cell? ⟨b, i, none⟩ = some v := by
 rw [cell_of_row w b i cs t fr h]; exact hv
theorem frozenOf {w : World} {b : Nat} {cs : Array Value} {t : TypeId} (h : w.heap[b]? = some (.cells cs t (0, 0))) (i : Nat) : w.frozen? ⟨b, i, none⟩ = false := frozen_of_row w b i cs t h
theorem setOf {w : World} {b : Nat} {cs : Array Value} {t : TypeId} {fr : Nat × Nat} (h : w.heap[b]? = some (.cells cs t fr)) (i : Nat) (u : Value) : (w.setCell ⟨b, i, none⟩ u).heap[b]? = some (.cells (cs.setIfInBounds i u) t fr) := by
 simp [World.setCell, Array.getElem?_modify, h]
theorem setOther {w : World} {b : Nat} (p : Addr) (u : Value) (hne : b ≠ p.block) : (w.setCell p u).heap[b]? = w.heap[b]? := Below.heap_setCell w p u b hne
end Go.Proofs.YtgmahhdnjikdjaaGreat
/- Bytes: how a slice of bytes reads as a list; its text; slices.Clone at []byte, walked. -/
namespace Go.Proofs.YtgmahhdnjikdjaaGreat
open Go.RowKit
set_option linter.unusedVariables false
theorem ownsRow_base {w : World} {base base' : Nat} {e : TypeId} {size n : Nat} {v : Value} {xs : List Value} (h : w.ownsRow base e size v n xs) (hb : base' ≤ base) : w.ownsRow base' e size v n xs := by
 refine ⟨h.1, ?_⟩
 rcases h.2 with h | ⟨g, cap, cur, hv, hg, r⟩
 ·exact .inl h
 ·exact .inr ⟨g, cap, cur, hv, Nat.le_trans hb hg, r⟩
theorem ownsRow_below {w w' : World} {base : Nat} {e : TypeId} {size n : Nat} {v : Value} {xs : List Value} (h : w.ownsRow base e size v n xs) (hb : Below w.heap.size w w') : w'.ownsRow base e size v n xs := by
 refine ⟨h.1, ?_⟩
 rcases h.2 with h | ⟨g, cap, cur, hv, hg, hh, r⟩
 ·exact .inl h
 ·exact .inr ⟨g, cap, cur, hv, hg, (hb.block g (Array.getElem?_eq_some_iff.1 hh).1).trans hh, r⟩
/-- Bytes as cells. -/
def bV (bs : List UInt8) : List Value := bs.map fun b => .int .u8 b.toNat
theorem bV_len (bs : List UInt8) : (bV bs).length = bs.length := by simp [bV]
theorem bV_get {bs : List UInt8} {j : Nat} {b : UInt8} (h : bs[j]? = some b) : (bV bs)[j]? = some (.int .u8 b.toNat) := by simp [bV, h]
theorem bV_one (bs : List UInt8) : ∀ u ∈ bV bs, u.oneCell' = true := by
 intro u hu
 obtain ⟨b, _, rfl⟩ := List.mem_map.1 hu
 rfl
theorem byte_lt (b : UInt8) : b.toNat < 256 := UInt8.toNat_lt b
/-- The text of bytes. -/
def strB (bs : List UInt8) : ByteArray := ⟨bs.toArray⟩
end Go.Proofs.YtgmahhdnjikdjaaGreat
/- The same small laws inside a fence (range over a function): an append; what a loop's body owes where it collects into a boxed slice; what a round keeps. -/
namespace Go.Proofs.YtgmahhdnjikdjaaGreat
open Go.RowKit
set_option linter.unusedVariables false
/-- What a round keeps: the rows of cells, but for those that Fp names (the body's own). -/
structure KpF (Fp : World → Nat → Prop) (W W' : World) : Prop where
 size : W.heap.size ≤ W'.heap.size
 good : (∀ k, Fp W k → k < W.heap.size) → ∀ k, Fp W' k → k < W'.heap.size
 keeps : ∀ k, k < W.heap.size → ¬ Fp W k → ∀ o, W.heap[k]? = some o → o.isCells = true → W'.heap[k]? = some o
 old : ∀ k, k < W.heap.size → Fp W' k → Fp W k
theorem KpF.trans {Fp : World → Nat → Prop} {A B C : World} (h : KpF Fp A B) (k : KpF Fp B C) : KpF Fp A C :=
 ⟨Nat.le_trans h.size k.size, fun g => k.good (h.good g),
  fun i h2 h3 o ho hc => k.keeps i (Nat.lt_of_lt_of_le h2 h.size) (fun hf => h3 (h.old i h2 hf)) o (h.keeps i h2 h3 o ho hc) hc,
  fun i hi hf => h.old i hi (k.old i (Nat.lt_of_lt_of_le hi h.size) hf)⟩
theorem KpF.put {Fp : World → Nat → Prop} {w : World} (hF : ∀ (W : World) (l : Nat) (o o' : Obj) (k : Nat), w.heap.size ≤ l → W.heap[l]? = some o → o.isCells = false → Fp (W.putObj l o') k → Fp W k)
  (W : World) (l : Nat) (o o' : Obj) (hl : w.heap.size ≤ l) (h : W.heap[l]? = some o) (hc : o.isCells = false) (_ : o.isWalk = false) : KpF Fp W (W.putObj l o') := by
 have hs : W.heap.size ≤ (W.putObj l o').heap.size := (grownBy_putObj' W l o').size
 refine ⟨hs, fun g k hk => Nat.lt_of_lt_of_le (g k (hF W l o o' k hl h hc hk)) hs, fun k hk _ o2 ho hcc => ?_, fun k _ hk => hF W l o o' k hl h hc hk⟩
 have hne : k ≠ l := by
  rintro rfl
  rw [h] at ho
  obtain rfl := Option.some.inj ho
  rw [hc] at hcc
  cases hcc
 exact (World.putObj_heap_other hne).trans ho
theorem KpF.refl (Fp : World → Nat → Prop) (W : World) : KpF Fp W W := ⟨Nat.le_refl _, fun g => g, fun _ _ _ _ ho _ => ho, fun _ _ h => h⟩
theorem KpF.alloc {Fp : World → Nat → Prop} {A W : World} (h : KpF Fp A W) (o : Obj) (hF : ∀ k, Fp (W.alloc o) k → Fp W k) : KpF Fp A (W.alloc o) :=
 h.trans ⟨by simp, fun g k hk => Nat.lt_of_lt_of_le (g k (hF k hk)) (by simp), fun k hk _ o2 ho _ => (Below.heap_alloc W o k hk).trans ho, fun k _ hk => hF k hk⟩
theorem KpF.setCell {Fp : World → Nat → Prop} {W : World} (p : Addr) (u : Value) (hp : Fp W p.block) (hF : ∀ k, Fp (W.setCell p u) k → Fp W k) : KpF Fp W (W.setCell p u) :=
 ⟨by simp [World.setCell], fun g k hk => by have := g k (hF k hk); simpa [World.setCell] using this,
  fun k _ hk o ho _ => (Below.heap_setCell W p u k (fun e => hk (e ▸ hp))).trans ho, fun k _ hk => hF k hk⟩
theorem cells_of_cell {w : World} {a : Addr} {v : Value} (h : w.cell? a = some v) : ∃ c e fr, w.heap[a.block]? = some (.cells c e fr) := by
 unfold World.cell? at h
 split at h
 ·exact ⟨_, _, _, by assumption⟩
 ·cases h
theorem KpF.cell {Fp : World → Nat → Prop} {W W' : World} (h : KpF Fp W W') {a : Addr} {v : Value} (hc : W.cell? a = some v) (hn : ¬ Fp W a.block) : W'.cell? a = some v := by
 obtain ⟨c, e, fr, hb⟩ := cells_of_cell hc
 have := h.keeps a.block (Array.getElem?_eq_some_iff.1 hb).1 hn _ hb rfl
 rw [World.cell?_of_block (w := W) (this.trans hb.symm)]
 exact hc
/-- The blocks of a body that collects into the slice variable whose box is B: the box; the slice's row. -/
def FpOut (B : Nat) (W : World) (k : Nat) : Prop := k = B ∨ ∃ n cap, W.cell? ⟨B, 0, none⟩ = some (.slice (some ⟨k, 0, none⟩) n cap)
theorem FpOut.alloc {B : Nat} {W : World} (hB : B < W.heap.size) (o : Obj) {k : Nat} (h : FpOut B (W.alloc o) k) : FpOut B W k := by
 rcases h with h | ⟨n, cap, h⟩
 ·exact .inl h
 ·exact .inr ⟨n, cap, by rw [← h]; exact (World.cell?_of_block (w := W) (Below.heap_alloc W o B hB)).symm⟩
theorem FpOut.put {B : Nat} {w : World} (hB : B < w.heap.size) (W : World) (l : Nat) (o o' : Obj) (k : Nat) (hl : w.heap.size ≤ l) (_ : W.heap[l]? = some o) (_ : o.isCells = false) (h : FpOut B (W.putObj l o') k) : FpOut B W k := by
 rcases h with h | ⟨n, cap, h⟩
 ·exact .inl h
 ·exact .inr ⟨n, cap, by rw [← h]; exact (World.cell?_of_block (w := W) (World.putObj_heap_other (show B ≠ l by omega))).symm⟩
/-- A round that appends to that variable keeps what it must. -/
theorem KpF.appended {W w1 : World} {n₀ B : Nat} {t e : TypeId} {size : Nat} {v v' : Value} {k : Nat} {xs : List Value} {tmp : Obj}
  (hv : Boxed W B t v) (hte : t ≠ e) (hrow : W.ownsRow n₀ e size v k xs) (hgrow : (W.alloc tmp).grownBy w1 v.ownBlock) (hsn : SameOrNew W v v') {m : Nat} {ys : List Value} (hown' : w1.ownsRow n₀ e size v' m ys) :
  KpF (FpOut B) W (w1.setCell ⟨B, 0, none⟩ v') := by
 have hv1 : Boxed w1 B t v := (hv.alloc tmp).kept hgrow (hv.not_row hte hrow)
 have hs1 : W.heap.size ≤ w1.heap.size := by have := hgrow.size; simp at this; omega
 have hc2 : (w1.setCell ⟨B, 0, none⟩ v').cell? ⟨B, 0, none⟩ = some v' := (hv1.set v').cell
 have hin : ∀ i, FpOut B (w1.setCell ⟨B, 0, none⟩ v') i → i = B ∨ v'.ownBlock = some i := by
  intro i hi
  rcases hi with h | ⟨n, cap, h⟩
  ·exact .inl h
  ·rw [hc2] at h
   obtain rfl := Option.some.inj h
   exact .inr rfl
 have hof : ∀ i, v.ownBlock = some i → FpOut B W i := by
  intro i hi
  rcases hrow.2 with ⟨rfl, _⟩ | ⟨g, cap, cur, rfl, _⟩
  ·simp [Value.ownBlock] at hi
  ·simp [Value.ownBlock] at hi
   subst hi
   exact .inr ⟨_, _, hv.cell⟩
 refine ⟨by simpa [World.setCell] using hs1, fun _ i hi => ?_, fun i hi hn o ho hc => ?_, fun i hi hf => ?_⟩
 ·have e : (w1.setCell ⟨B, 0, none⟩ v').heap.size = w1.heap.size := by simp [World.setCell]
  rw [e]
  rcases hin i hi with rfl | h
  ·exact hv1.lt
  ·exact (hown'.lt i h).2
 ·rw [Below.heap_setCell _ _ _ _ (fun e => hn (.inl e)), hgrow.block i (by simp; omega) (fun e => hn (hof i e.symm)), Below.heap_alloc _ _ _ hi]
  exact ho
 ·rcases hin i hf with rfl | h
  ·exact .inl rfl
  ·rcases hsn with h2 | ⟨g, h2, h3⟩
   ·exact hof i (h2 ▸ h)
   ·rw [h2] at h
    cases h
    omega
end Go.Proofs.YtgmahhdnjikdjaaGreat
/- What a call that changes what it owns leaves of the world. -/
namespace Go.Proofs.YtgmahhdnjikdjaaGreat
open Go.RowKit
set_option linter.unusedVariables false
/-- Of the blocks that there were only those of F may have changed; those of F' are of F, or new. -/
def Chg (F : List Nat) (w w' : World) (F' : List Nat) : Prop := Mods F w w' ∧ ∀ k ∈ F', k ∈ F ∨ w.heap.size ≤ k
theorem Chg.refl (F : List Nat) (w : World) : Chg F w w F := ⟨Mods.refl F w, fun k h => .inl h⟩
theorem Chg.trans {F G H : List Nat} {a b c : World} (h : Chg F a b G) (k : Chg G b c H) : Chg F a c H :=
 ⟨h.1.trans k.1 h.2, fun i hi => by
  rcases k.2 i hi with h1 | h1
  ·exact h.2 i h1
  ·exact .inr (Nat.le_trans h.1.size h1)⟩
theorem Chg.of_below {F : List Nat} {w w' : World} (h : Below w.heap.size w w') : Chg F w w' F := ⟨Mods.of_below h, fun k hk => .inl hk⟩
theorem Chg.below {F F' : List Nat} {w w' : World} {B : Nat} (h : Chg F w w' F') (hF : ∀ k ∈ F, B ≤ k) (hB : B ≤ w.heap.size) : Below B w w' := h.1.below hF hB
theorem Chg.cell {F F' : List Nat} {w w' : World} (h : Chg F w w' F') {p : Addr} (hp : p.block < w.heap.size) (hn : p.block ∉ F) : w'.cell? p = w.cell? p := World.cell?_of_block (h.1.block _ hp hn)
theorem Chg.size {F F' : List Nat} {w w' : World} (h : Chg F w w' F') : w.heap.size ≤ w'.heap.size := h.1.size
/-- A slice value's own block. -/
def ob (v : Value) : List Nat := v.ownBlock.toList
theorem ob_nil : ob (.slice none 0 0) = [] := rfl
theorem ob_some (g n c : Nat) : ob (.slice (some ⟨g, 0, none⟩) n c) = [g] := rfl
theorem Chg.of_grown {w w' : World} {v v' : Value} (hg : w.grownBy w' v.ownBlock) (hs : SameOrNew w v v') : Chg (ob v) w w' (ob v') := by
 refine ⟨⟨hg.os, hg.tape, hg.output, hg.size, fun k hk hn => hg.block k hk (fun e => hn (by simp [ob, ← e]))⟩, fun k hk => ?_⟩
 rcases hs with h | ⟨g, h1, h2⟩
 ·exact .inl (by unfold ob at hk ⊢; rwa [h] at hk)
 ·right
  unfold ob at hk
  rw [h1] at hk
  simp at hk
  omega
theorem Chg.pre {F F' : List Nat} {w0 w w' : World} (hb : Below w0.heap.size w0 w) (h : Chg F w w' F') : Chg F w0 w' F' := (Chg.of_below hb).trans h
theorem Chg.post {F F' : List Nat} {w w' w1 : World} (h : Chg F w w' F') (hb : Below w'.heap.size w' w1) : Chg F w w1 F' := h.trans (Chg.of_below hb)
theorem ownsRow_ge {w : World} {base : Nat} {e : TypeId} {size n : Nat} {v : Value} {xs : List Value} (h : w.ownsRow base e size v n xs) : ∀ k ∈ ob v, base ≤ k := by
 intro k hk
 unfold ob at hk
 rw [Option.mem_toList] at hk
 exact (h.lt k hk).1
theorem ownsRow_lt {w : World} {base : Nat} {e : TypeId} {size n : Nat} {v : Value} {xs : List Value} (h : w.ownsRow base e size v n xs) : ∀ k ∈ ob v, k < w.heap.size := by
 intro k hk
 unfold ob at hk
 rw [Option.mem_toList] at hk
 exact (h.lt k hk).2
/-- An owned row whose block has not changed. -/
theorem ownsRow_at {w w' : World} {base : Nat} {e : TypeId} {size n : Nat} {v : Value} {xs : List Value} (h : w.ownsRow base e size v n xs) (hs : ∀ k ∈ ob v, w'.heap[k]? = w.heap[k]?) : w'.ownsRow base e size v n xs := by
 refine ⟨h.1, ?_⟩
 rcases h.2 with h | ⟨g, cap, cur, rfl, hg, hh, r⟩
 ·exact .inl h
 ·exact .inr ⟨g, cap, cur, rfl, hg, (hs g (by simp [ob_some])).trans hh, r⟩
end Go.Proofs.YtgmahhdnjikdjaaGreat
/- Values as bytes, by a shape: plain Lean (no program). -/
namespace Go.Proofs.YtgmahhdnjikdjaaGreat.Wire
set_option linter.unusedVariables false
/-- How many bytes a letter's number has, or what stands ahead of its bytes; 0: it is no letter. -/
def widI (r : Int) : Nat := if r = 49 then 1 else if r = 50 then 2 else if r = 52 then 4 else if r = 56 then 8 else if r = 63 then 1 else if r = 42 then 4 else if r = 35 then 256 else 0
def wid (c : UInt8) : Nat := widI (c.toNat : Int)
def may (s : List UInt8) : Bool := s.all fun c => wid c != 0
def sumW (s : List UInt8) : Nat := (s.map wid).sum
def least (s : List UInt8) : Nat := if may s then sumW s else 0
/-- A number's bytes, the lowest first. -/
def low : Nat → Nat → List UInt8
 | _, 0 => []
 | n, k + 1 => UInt8.ofNat (n % 256) :: low (n / 256) k
theorem low_len (k : Nat) : ∀ n, (low n k).length = k := by
 induction k with
 | zero => intro n; rfl
 | succ k ih => intro n; simp [low, ih]
/-- The number of bytes, the lowest first. -/
def sum : List UInt8 → Nat
 | [] => 0
 | b :: l => b.toNat + 256 * sum l
theorem sum_low (k : Nat) : ∀ n, n < 256 ^ k → sum (low n k) = n := by
 induction k with
 | zero => intro n h; simp at h; simp [low, sum, h]
 | succ k ih =>
  intro n h
  rw [low, sum, ih (n / 256) (by rw [Nat.div_lt_iff_lt_mul (by omega)]; rw [Nat.pow_succ] at h; exact h)]
  have h1 : (UInt8.ofNat (n % 256)).toNat = n % 256 := by simp
  rw [h1]
  omega
theorem sum_lt (l : List UInt8) : sum l < 256 ^ l.length := by
 induction l with
 | nil => simp [sum]
 | cons b l ih =>
  rw [sum, List.length_cons, Nat.pow_succ]
  have := b.toNat_lt
  omega
theorem sum_append (a b : List UInt8) : sum (a ++ b) = sum a + 256 ^ a.length * sum b := by
 induction a with
 | nil => simp [sum]
 | cons x a ih =>
  simp only [List.cons_append, sum, ih, List.length_cons, Nat.pow_succ, Nat.mul_add]
  rw [Nat.add_assoc]
  congr 2
  rw [← Nat.mul_assoc, Nat.mul_comm 256 (256 ^ a.length)]
/-- A value: its letter (8: a number; ?: a flag; *: bytes; #: a block; any other: of another type). -/
structure V where
 letter : UInt8
 n : Nat
 yes : Bool
 b : List UInt8
 x : List UInt8
def num (n : Nat) : V := ⟨56, n, false, [], List.replicate 256 0⟩
def flag (y : Bool) : V := ⟨63, 0, y, [], List.replicate 256 0⟩
def blob (l : List UInt8) : V := ⟨42, 0, false, l, List.replicate 256 0⟩
def blk (l : List UInt8) : V := ⟨35, 0, false, [], l⟩
/-- What is right of a value in memory. -/
structure V.Ok (v : V) : Prop where
 n : v.n < 2 ^ 64
 x : v.x.length = 256
def isNum (c : UInt8) : Bool := c == 49 || c == 50 || c == 52 || c == 56
/-- A value's bytes; none: it is not its letter's, or has no room. -/
def lay (c : UInt8) (v : V) : Option (List UInt8) :=
 if v.letter = 56 then (if isNum c = true ∧ v.n < 256 ^ wid c then some (low v.n (wid c)) else none)
 else if v.letter = 63 then (if c = 63 then some [if v.yes then 1 else 0] else none)
 else if v.letter = 42 then (if c = 42 ∧ v.b.length ≤ 16777216 then some (low v.b.length 4 ++ v.b) else none)
 else if v.letter = 35 then (if c = 35 then some v.x else none)
 else none
/-- Values' bytes; none: refused. -/
def pack : List UInt8 → List V → Option (List UInt8)
 | [], [] => some []
 | c :: s, v :: l => (lay c v).bind fun a => (pack s l).map (a ++ ·)
 | _, _ => none
/-- A letter's value off the bytes, and how many it took. -/
def lift (c : UInt8) (b : List UInt8) : Option (V × Nat) :=
 if b.length < wid c then none
 else if c = 63 then (if 1 < (b.headD 0).toNat then none else some (flag (b.headD 0 == 1), 1))
 else if c = 42 then (if 16777216 < sum (b.take 4) ∨ b.length - 4 < sum (b.take 4) then none else some (blob ((b.drop 4).take (sum (b.take 4))), 4 + sum (b.take 4)))
 else if c = 35 then some (blk (b.take 256), 256)
 else some (num (sum (b.take (wid c))), wid c)
/-- The values of bytes by a shape (whose letters are letters), and how many bytes they took. -/
def unpack : List UInt8 → List UInt8 → Option (List V × Nat)
 | [], _ => some ([], 0)
 | c :: s, b => (lift c b).bind fun (v, k) => (unpack s (b.drop k)).map fun (l, m) => (v :: l, k + m)
end Go.Proofs.YtgmahhdnjikdjaaGreat.Wire
/- wire's letters, walked: width, May, Least; the reference's size, May, Least. -/
namespace Go.Proofs.YtgmahhdnjikdjaaGreat
open Go.RowKit
set_option linter.unusedVariables false
open Wire
/-- A string's bytes. -/
abbrev chs (s : ByteArray) : List UInt8 := s.data.toList
/-- What indexFunc says of a text's letters. -/
def IdxP (s : ByteArray) (w : World) (e : Ending) (w' : World) : Prop := ∃ n : Int, e = .returned (.int .i64 n) ∧ Below w.heap.size w w' ∧ (may (chs s) = true → n = -1) ∧ (may (chs s) = false → 0 ≤ n)
end Go.Proofs.YtgmahhdnjikdjaaGreat
/- wire.May, wire.Least, and the reference's size, May, Least, walked. -/
namespace Go.Proofs.YtgmahhdnjikdjaaGreat
open Go.RowKit
set_option linter.unusedVariables false
open Wire
/-- The reference's size. -/
def szN (c : UInt8) : Nat := if isNum c then wid c else 0
end Go.Proofs.YtgmahhdnjikdjaaGreat
/- The reference's May, Least, fits, walked. -/
namespace Go.Proofs.YtgmahhdnjikdjaaGreat
open Go.RowKit
set_option linter.unusedVariables false
open Wire
end Go.Proofs.YtgmahhdnjikdjaaGreat
/- Numbers' bytes, walked: wire.low, the reference's Low, fits, sum. -/
namespace Go.Proofs.YtgmahhdnjikdjaaGreat
open Go.RowKit
set_option linter.unusedVariables false
open Wire
end Go.Proofs.YtgmahhdnjikdjaaGreat
/- The reference's fits, sum, Low, walked. -/
namespace Go.Proofs.YtgmahhdnjikdjaaGreat
open Go.RowKit
set_option linter.unusedVariables false
set_option linter.unusedSimpArgs false
open Wire
end Go.Proofs.YtgmahhdnjikdjaaGreat
/- Two-valued type assertions to a type that is no interface. -/
namespace Go.Proofs.YtgmahhdnjikdjaaGreat
open Go.RowKit
set_option linter.unusedVariables false
set_option linter.unusedSimpArgs false
def isIfaceD : TypeDesc → Bool
 | .interface _ => true
 | _ => false
section
variable {P : Program}
end
end Go.Proofs.YtgmahhdnjikdjaaGreat
/- Arrays of bytes by value: == and !=; loads out of, and stores into, the midst of a block. -/
namespace Go.Proofs.YtgmahhdnjikdjaaGreat
open Go.RowKit
set_option linter.unusedVariables false
theorem cellOf' {w : World} {b : Nat} {cs : Array Value} {t : TypeId} {fr : Nat × Nat} (h : w.heap[b]? = some (.cells cs t fr)) (i : Nat) {v : Value} (hv : cs[i]? = some v) : w.cell? ⟨b, i, none⟩ = some v := by
 rw [cell_of_row w b i cs t fr h]; exact hv
/-- An array of bytes, by value. -/
def bA (l : List UInt8) : Value := .agg (bV l).toArray
section
variable {P : Program} (w : World)
theorem bV_get? (l : List UInt8) (i : Nat) : (bV l)[i]? = l[i]?.map fun b => .int .u8 (b.toNat : Int) := by simp [bV]
theorem run_eqItems_bytes {e : TypeId} (he : P.underlying e = some (.int .u8)) (d : Nat) (xs ys : List UInt8) (m : Nat) (hx : m ≤ xs.length) (hy : m ≤ ys.length) : ∀ (k i : Nat), i + k = m →
  (Op.eqItems (d + 1) e 1 (bV xs).toArray (bV ys).toArray (List.range' i k)).run P w = .ok ((xs.drop i).take k == (ys.drop i).take k) w := by
 intro k
 induction k with
 | zero => intro i _; simp [Op.eqItems]
 | succ k ih =>
  intro i hik
  have h1 : xs[i]? = some (xs[i]'(by omega)) := List.getElem?_eq_getElem (by omega)
  have h2 : ys[i]? = some (ys[i]'(by omega)) := List.getElem?_eq_getElem (by omega)
  have hp : P.plainKey e = true := by simp [Program.plainKey, he]
  have p1 := run_part_plain (P := P) w hp (xs := (bV xs).toArray) (off := i * 1) (v := .int .u8 ((xs[i]'(by omega)).toNat : Int)) (by simp [bV_get?, h1])
  have p2 := run_part_plain (P := P) w hp (xs := (bV ys).toArray) (off := i * 1) (v := .int .u8 ((ys[i]'(by omega)).toNat : Int)) (by simp [bV_get?, h2])
  have p3 := run_equalIn_int (P := P) w d e .u8 .u8 ((xs[i]'(by omega)).toNat : Int) ((ys[i]'(by omega)).toNat : Int) he
  rw [List.range'_succ]
  simp only [Op.eqItems, Sem.run_bind, p1, p2, p3, Result.andThen_ok]
  have hd1 : xs.drop i = (xs[i]'(by omega)) :: xs.drop (i + 1) := List.drop_eq_getElem_cons (by omega)
  have hd2 : ys.drop i = (ys[i]'(by omega)) :: ys.drop (i + 1) := List.drop_eq_getElem_cons (by omega)
  rw [hd1, hd2, List.take_succ_cons, List.take_succ_cons]
  by_cases hb : xs[i]'(by omega) = ys[i]'(by omega)
  ·rw [hb]
   simp only [beq_self_eq_true, Bool.not_true, Bool.false_eq_true, if_false]
   rw [ih (i + 1) (by omega)]
   simp
  ·have hn : (((xs[i]'(by omega)).toNat : Int) == ((ys[i]'(by omega)).toNat : Int)) = false := by
    rw [beq_eq_false_iff_ne]
    intro h
    exact hb (UInt8.toNat_inj.1 (by omega))
   rw [hn]
   simp [hb]
theorem run_equalIn_bytes {t e : TypeId} {n : Nat} {i : TypeInfo} (hu : P.underlying t = some (.array n e)) (he : P.underlying e = some (.int .u8)) (hi : P.info? e = some i) (hs : P.cellsOf e = 1) (d : Nat) (xs ys : List UInt8) (hx : xs.length = n) (hy : ys.length = n) :
  (Op.equalIn (d + 2) t (bA xs) (bA ys)).run P w = .ok (xs == ys) w := by
 unfold bA
 rw [run_equalIn_array w (d + 1) _ _ hu hi, hs, List.range_eq_range', run_eqItems_bytes w he d xs ys n (by omega) (by omega) n 0 (by omega)]
 rw [List.drop_zero, List.drop_zero, List.take_of_length_le (by omega), List.take_of_length_le (by omega)]
theorem run_eql_bytes {t e : TypeId} {n : Nat} {i : TypeInfo} (hu : P.underlying t = some (.array n e)) (he : P.underlying e = some (.int .u8)) (hi : P.info? e = some i) (hs : P.cellsOf e = 1) (xs ys : List UInt8) (hx : xs.length = n) (hy : ys.length = n) :
  (binOp .eql t (bA xs) (bA ys)).run P w = .ok (.bool (xs == ys)) w := by
 have hq := run_equalIn_bytes w hu he hi hs 9998 xs ys hx hy
 unfold bA at hq ⊢
 rw [run_eql_struct, hq]
 rfl
theorem run_neq_bytes {t e : TypeId} {n : Nat} {i : TypeInfo} (hu : P.underlying t = some (.array n e)) (he : P.underlying e = some (.int .u8)) (hi : P.info? e = some i) (hs : P.cellsOf e = 1) (xs ys : List UInt8) (hx : xs.length = n) (hy : ys.length = n) :
  (binOp .neq t (bA xs) (bA ys)).run P w = .ok (.bool (!(xs == ys))) w := by
 have hq := run_equalIn_bytes w hu he hi hs 9998 xs ys hx hy
 unfold bA at hq ⊢
 rw [run_neq_struct, hq]
 rfl
end
/-- A whole array stored into a block just made for it. -/
theorem run_storeNew {P : Program} (w : World) (t : TypeId) (old cs : Array Value) (hs : old.size = cs.size) (h1 : ∀ u ∈ cs.toList, u.oneCell' = true) :
  (storeCells ⟨w.heap.size, 0, none⟩ cs.toList).run P (w.alloc (.cells old t)) = .ok () (w.alloc (.cells cs t)) := by
 have h := run_storeCells_from (P := P) w.heap.size t cs.toList 0 old (w.alloc (.cells old t)) (heap_alloc_new w _) (by simp; omega) h1
 rw [h]
 simp only [List.take_zero, List.nil_append, Array.toArray_toList]
 rw [World.setRow_alloc_new]
/-- Bytes in a block of their own, read as a slice. -/
theorem Rd.new (w : World) (t : TypeId) (l : List UInt8) (n : Nat) (hl : l.length = n) (hn : n ≤ 1000000) : Rd (w.alloc (.cells (bV l).toArray t)) 1 (.slice (some ⟨w.heap.size, 0, none⟩) n n) n (bV l) := by
 refine ⟨_, _, rfl, by simp [bV_len, hl], by unfold maxLen; omega, ⟨(fun h => by cases h), Nat.le_refl _, by unfold maxLen; omega⟩, fun j u hj => ⟨w.heap.size, 0, rfl, by simp, ?_⟩⟩
 rw [Nat.zero_add]
 refine cellOf' (heap_alloc_new w _) j ?_
 simpa using hj
end Go.Proofs.YtgmahhdnjikdjaaGreat
/- A region that reads, in whatever order, ahead of a forced tail: the load of many cells out of the midst of a block. -/
namespace Go.Proofs.YtgmahhdnjikdjaaGreat
open Go.RowKit
set_option linter.unusedVariables false
end Go.Proofs.YtgmahhdnjikdjaaGreat
/- 'out = append(out, y...)' as one operation, wherever it stands: in a plain region, or as a step of a region that draws. -/
namespace Go.Proofs.YtgmahhdnjikdjaaGreat
open Go.RowKit
set_option linter.unusedVariables false
theorem wp_apps {P : Program} {o : Oper} {a : Act} {K : Act → World → Prop} {Q : Exit → Act → World → Prop} {w : World} (s x : Operand) (t : TypeId)
  (ho : o.op = .call { callee := .builtin .append, args := #[s, x], argTypes := #[t, t] })
  (base : Nat) (e : TypeId) (z : Value) (size bytes : Nat) (ht : P.underlying t = some (.slice e)) (hinfo : (P.info? e).map (fun i => (i.zero, i.size, i.bytes)) = some (some z, size, bytes))
  (hzs : z.cells.size = size) (hsz : 0 < size) (hby : 0 < bytes)
  (v : Value) (n : Nat) (xs : List Value) (hs : a.eval s = v) (hown : w.ownsRow base e size v n xs)
  (u : Value) (m : Nat) (news : List Value) (hx : a.eval x = u) (hrd : Rd w size u m news) (h1 : ∀ u ∈ news, u.oneCell' = true)
  (hbytes : (n + m) * bytes ≤ 140737488355328) (hbase : base ≤ w.heap.size)
  (h : ∀ v' w', w'.ownsRow base e size v' (n + m) (xs ++ news) → Below base w w' → w.grownBy w' v.ownBlock → SameOrNew w v v' → (v' = .slice none 0 0 ↔ v = .slice none 0 0 ∧ m = 0) → K (a.put o.dst v') w') :
  o.wp P a w K Q := by
 obtain ⟨i0, hi, hz0, hz1, hz2⟩ := info_parts hinfo
 have hn1 : n + m ≤ maxLen := by
  have : n + m ≤ (n + m) * bytes := Nat.le_mul_of_pos_right _ hby
  unfold maxLen; omega
 obtain ⟨ao, cap, rfl, hl, hm, hcap, hc⟩ := hrd
 cases ao with
 | none =>
  obtain rfl := hcap.1 rfl
  have hnews : news = [] := by
   cases news with
   | nil => rfl
   | cons y ys => obtain ⟨b, off, h0, _⟩ := hc 0 y rfl; cases h0
  subst hnews
  have hm0 : m = 0 := by
   rcases Nat.eq_zero_or_pos m with h | h
   ·exact h
   ·have := Nat.mul_pos h hsz; simp at hl; omega
  subst hm0
  have hrun := run_append_owned_none (P := P) w base t o.type e i0 size ht hi v n xs hown
  unfold Oper.wp
  simp [execOp, ho, resolve, invoke, builtin, hs, hx, hrun, Result.andThen]
  exact h v w (by simpa using hown) (Below.refl _ _) (World.grownBy.refl _ _) (.inl rfl) (by simp)
 | some ad =>
  by_cases hm0 : m = 0
  ·subst hm0
   have hnews : news = [] := List.eq_nil_of_length_eq_zero (by simpa using hl)
   subst hnews
   refine wp_app _ s x t ho base e i0 z size bytes ht hi hz0 hz1 hz2 hzs hsz v n xs hs hown ad 0 cap [] hx (by simp) (fun j u hj => by simp at hj) (by simp) hn1 hbytes hbase ?_
   intro v' w' ho' hg hsn hne
   exact h v' w' ho' ((Below.refl base w).grown hg hbase (fun k hk => (hown.lt k hk).1)) hg hsn hne
  ·have hpos : 0 < news.length := by rw [hl]; exact Nat.mul_pos (by omega) hsz
   obtain ⟨b, off, hb0, _⟩ := hc 0 news[0] (List.getElem?_eq_getElem hpos)
   obtain rfl := Option.some.inj hb0
   refine wp_app _ s x t ho base e i0 z size bytes ht hi hz0 hz1 hz2 hzs hsz v n xs hs hown ⟨b, off, none⟩ m cap news hx hl ?_ h1 hn1 hbytes hbase ?_
   ·intro j u hj
    obtain ⟨b', off', hb1, _, hcell⟩ := hc j u hj
    obtain ⟨rfl, rfl⟩ : b = b' ∧ off = off' := by simpa using hb1
    rw [Addr.add_lit]
    exact hcell
   ·intro v' w' ho' hg hsn hne
    exact h v' w' ho' ((Below.refl base w).grown hg hbase (fun k hk => (hown.lt k hk).1)) hg hsn hne
end Go.Proofs.YtgmahhdnjikdjaaGreat
/- strings.ContainsRune at the letters of numbers, walked, whatever the rune. -/
namespace Go.Proofs.YtgmahhdnjikdjaaGreat
open Go.RowKit
set_option linter.unusedVariables false
set_option linter.unusedSimpArgs false
open Wire
/-- The letters of numbers. -/
abbrev nums : ByteArray := ⟨#[49, 50, 52, 56]⟩
/-- Is a rune one of them? -/
def isNumI (r : Int) : Bool := r == 49 || r == 50 || r == 52 || r == 56
end Go.Proofs.YtgmahhdnjikdjaaGreat
/- wire.high, walked over slices.Backward's iterator. -/
namespace Go.Proofs.YtgmahhdnjikdjaaGreat
open Go.RowKit Go.Shelf
set_option linter.unusedVariables false
attribute [local go_sem] Oper.semAt_some
open Wire
/-- Bytes with their places, from behind. -/
def backL (bs : List UInt8) : List (Nat × UInt8) := (List.range bs.length).map fun i => (bs.length - 1 - i, bs.getD (bs.length - 1 - i) 0)
def itemVb (x : Nat × UInt8) : Array Value := #[.int .i64 (x.1 : Int), .int .u8 (x.2.toNat : Int)]
/-- The number of the bytes gone over so far. -/
def highL (pre : List (Nat × UInt8)) : Nat := pre.foldl (fun n x => n * 256 + x.2.toNat) 0
end Go.Proofs.YtgmahhdnjikdjaaGreat
