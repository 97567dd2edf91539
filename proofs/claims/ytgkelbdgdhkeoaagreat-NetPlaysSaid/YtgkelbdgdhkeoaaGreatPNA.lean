/- Several texts in one: Net0 Net1 Net3 Net7 Net6a. -/
import Derived.Test.YtgkelbdgdhkeoaaGreatPWA
import Derived.OwnWalk
namespace Go.Proofs.YtgkelbdgdhkeoaaGreat
open Go.RowKit
set_option linter.unusedVariables false
set_option linter.unusedSimpArgs false
/-- A letter: to whom, how often carried, its bytes' slice, its bytes. -/
structure Lt where
 to_ : Int
 car : Nat
 v : Value
 b : List UInt8
/-- Letters' cells. -/
def ltC : List Lt → List Value
 | [] => []
 | x :: l => .int .i64 x.to_ :: .int .i64 (x.car : Int) :: x.v :: ltC l
theorem ltC_len : ∀ L : List Lt, (ltC L).length = L.length * 3
 | [] => rfl
 | x :: l => by simp only [ltC, List.length_cons, ltC_len l]; omega
theorem ltC_app : ∀ (L M : List Lt), ltC (L ++ M) = ltC L ++ ltC M
 | [], M => rfl
 | x :: l, M => by simp only [ltC, List.cons_append, ltC_app l M]
theorem ltC_get : ∀ {L : List Lt} {i : Nat} {x : Lt}, L[i]? = some x → (ltC L)[i * 3]? = some (.int .i64 x.to_) ∧ (ltC L)[i * 3 + 1]? = some (.int .i64 (x.car : Int)) ∧ (ltC L)[i * 3 + 2]? = some x.v
 | y :: l, 0, x, h => by obtain rfl := Option.some.inj h; exact ⟨rfl, rfl, rfl⟩
 | y :: l, i + 1, x, h => by
  have h2 := ltC_get (L := l) (i := i) (x := x) (by simpa using h)
  have e : (i + 1) * 3 = i * 3 + 1 + 1 + 1 := by omega
  have e1 : (i + 1) * 3 + 1 = i * 3 + 1 + 1 + 1 + 1 := by omega
  have e2 : (i + 1) * 3 + 2 = i * 3 + 2 + 1 + 1 + 1 := by omega
  rw [e2, e1, e]
  simpa only [ltC, List.getElem?_cons_succ] using h2
theorem ltC_set : ∀ {L : List Lt} {i : Nat} {x : Lt} (n : Nat), L[i]? = some x → (ltC L).set (i * 3 + 1) (.int .i64 (n : Int)) = ltC (L.set i { x with car := n })
 | y :: l, 0, x, n, h => by obtain rfl := Option.some.inj h; rfl
 | y :: l, i + 1, x, n, h => by
  have h2 := ltC_set (L := l) (i := i) (x := x) n (by simpa using h)
  have e1 : (i + 1) * 3 + 1 = i * 3 + 1 + 1 + 1 + 1 := by omega
  rw [e1]
  simp only [ltC, List.set_cons_succ, h2]
theorem ltC_one (L : List Lt) (h : ∀ x ∈ L, x.v.oneCell' = true) : ∀ u ∈ ltC L, u.oneCell' = true := by
 induction L with
 | nil => intro u hu; cases hu
 | cons x l ih =>
  intro u hu
  simp only [ltC, List.mem_cons] at hu
  rcases hu with rfl | rfl | rfl | hu
  ·rfl
  ·rfl
  ·exact h x (List.mem_cons_self ..)
  ·exact ih (fun y hy => h y (List.mem_cons_of_mem _ hy)) u hu
theorem own_tagS {W : World} {B n size : Nat} {e : TypeId} {v : Value} {xs : List Value} (h : W.ownsRow B e size v n xs) : ∀ k ∈ ob v, ∃ cs f, W.heap[k]? = some (.cells cs e f) := by
 intro k hk
 rcases h.2 with ⟨rfl, _⟩ | ⟨g, cap, cur, rfl, hg, hh, _⟩
 ·simp [ob_nil] at hk
 ·rw [ob_some] at hk
  obtain rfl : k = g := by simpa using hk
  exact ⟨_, _, hh⟩
theorem own_one {W : World} {B n size : Nat} {e : TypeId} {v : Value} {xs : List Value} (h : W.ownsRow B e size v n xs) : v.oneCell' = true := by
 rcases h.2 with ⟨rfl, _⟩ | ⟨g, cap, cur, rfl, _⟩ <;> rfl
/-- A net: its box at B, with the slice sv of the letters L, all in memory of n0 on. -/
structure NetAt (n0 : Nat) (w : World) (B : Nat) (sv : Value) (L : List Lt) : Prop where
 box : w.heap[B]? = some (.cells #[sv, .bool true] 50 (0, 0))
 row : w.ownsRow n0 61 3 sv L.length (ltC L)
 byt : ∀ x ∈ L, w.ownsRow n0 5 1 x.v x.b.length (bV x.b)
 ge : n0 ≤ B
theorem NetAt.lt {n0 : Nat} {w : World} {B : Nat} {sv : Value} {L : List Lt} (h : NetAt n0 w B sv L) : B < w.heap.size := (Array.getElem?_eq_some_iff.1 h.box).1
theorem NetAt.below {n0 : Nat} {w w' : World} {B : Nat} {sv : Value} {L : List Lt} (h : NetAt n0 w B sv L) (hb : Below w.heap.size w w') : NetAt n0 w' B sv L :=
 ⟨(hb.block _ h.lt).trans h.box, ownsRow_below h.row hb, fun x hx => ownsRow_below (h.byt x hx) hb, h.ge⟩
theorem NetAt.cell {n0 : Nat} {w : World} {B : Nat} {sv : Value} {L : List Lt} (h : NetAt n0 w B sv L) : w.cell? ⟨B, 0, none⟩ = some sv ∧ w.cell? ⟨B, 1, none⟩ = some (.bool true) := ⟨cellOf h.box 0 rfl, cellOf h.box 1 rfl⟩
/-- A letter's cells. -/
theorem NetAt.at_ {n0 : Nat} {w : World} {B : Nat} {sv : Value} {L : List Lt} (h : NetAt n0 w B sv L) {i : Nat} {x : Lt} (hx : L[i]? = some x) :
  ∃ g cap, sv = .slice (some ⟨g, 0, none⟩) L.length cap ∧ L.length ≤ cap ∧ cap ≤ maxLen ∧ w.cell? ⟨g, i * 3, none⟩ = some (.int .i64 x.to_) ∧ w.cell? ⟨g, i * 3 + 1, none⟩ = some (.int .i64 (x.car : Int)) ∧ w.cell? ⟨g, i * 3 + 2, none⟩ = some x.v := by
 obtain ⟨ao, cap, rfl, _, _, ⟨_, h1, h2⟩, hc⟩ := Rd.of_own h.row
 obtain ⟨g0, g1, g2⟩ := ltC_get hx
 rcases h.row.2 with ⟨he, _⟩ | ⟨g, cap', cur, he, _⟩
 ·obtain ⟨b, off, e, _⟩ := hc _ _ g0
  rw [e] at he; cases he
 ·obtain ⟨rfl, _, rfl⟩ := Value.slice.inj he
  refine ⟨g, cap, rfl, h1, h2, ?_, ?_, ?_⟩
  ·obtain ⟨b, off, e, _, hh⟩ := hc _ _ g0
   obtain ⟨rfl, rfl, _⟩ := Addr.mk.inj (Option.some.inj e)
   simpa using hh
  ·obtain ⟨b, off, e, _, hh⟩ := hc _ _ g1
   obtain ⟨rfl, rfl, _⟩ := Addr.mk.inj (Option.some.inj e)
   simpa using hh
  ·obtain ⟨b, off, e, _, hh⟩ := hc _ _ g2
   obtain ⟨rfl, rfl, _⟩ := Addr.mk.inj (Option.some.inj e)
   simpa using hh
/-- The blocks that a net's methods may change. -/
def nF (B : Nat) (sv : Value) : List Nat := B :: ob sv
/-- A net that was not touched. -/
theorem NetAt.kept {n0 : Nat} {w w' : World} {B : Nat} {sv : Value} {L : List Lt} {F : List Nat} (h : NetAt n0 w B sv L) (hm : Mods F w w') (h1 : B ∉ F) (h2 : ∀ k ∈ ob sv, k ∉ F) (h3 : ∀ x ∈ L, ∀ k ∈ ob x.v, k ∉ F) : NetAt n0 w' B sv L :=
 ⟨(hm.block _ h.lt h1).trans h.box, ownsRow_at h.row (fun k hk => hm.block k (ownsRow_lt h.row k hk) (h2 k hk)),
  fun x hx => ownsRow_at (h.byt x hx) (fun k hk => hm.block k (ownsRow_lt (h.byt x hx) k hk) (h3 x hx k hk)), h.ge⟩
/-- A net's value: is it there? -/
def NetV (w : World) (v : Value) (y : Bool) : Prop := (v = .pointer none ∧ y = false) ∨ ∃ B sv, v = .pointer (some ⟨B, 0, none⟩) ∧ w.heap[B]? = some (.cells #[sv, .bool y] 50 (0, 0))
theorem NetAt.nv {n0 : Nat} {w : World} {B : Nat} {sv : Value} {L : List Lt} (h : NetAt n0 w B sv L) : NetV w (.pointer (some ⟨B, 0, none⟩)) true := .inr ⟨B, sv, rfl, h.box⟩
set_option maxRecDepth 100000 in
set_option maxHeartbeats 8000 in
theorem new_any (n0 : Nat) (w : World) (hn : n0 ≤ w.heap.size) : Calls Tryz.prog 6 #[] w fun e w' => e = .returned (.pointer (some ⟨w.heap.size, 0, none⟩)) ∧ NetAt n0 w' w.heap.size (.slice none 0 0) [] ∧ Below w.heap.size w w' := by
 go_enter Tryz.func6, Tryz.ntmps6
 go_wp2_with fail
 go_ret
 exact ⟨rfl, ⟨heap_alloc_new w _, World.ownsRow_nil _ _ _ _, fun x hx => (by cases hx), hn⟩, balloc (Below.refl _ _) _⟩
set_option maxRecDepth 100000 in
set_option maxHeartbeats 8000 in
theorem there_any (w : World) (v : Value) (y : Bool) (h : NetV w v y) : Calls Tryz.prog 24 #[v] w fun e w' => e = .returned (.bool y) ∧ w = w' := by
 rcases h with ⟨rfl, rfl⟩ | ⟨B, sv, rfl, h⟩
 ·go_enter Tryz.func24, Tryz.ntmps24
  go_wp2_with fail
  go_ret
  exact ⟨rfl, rfl⟩
 ·have c1 : w.cell? ⟨B, 1, none⟩ = some (.bool y) := cellOf h 1 rfl
  clear h
  go_enter Tryz.func24, Tryz.ntmps24
  go_wp2_with fail
  go_ret
  exact ⟨rfl, rfl⟩
set_option maxRecDepth 100000 in
set_option maxHeartbeats 8000 in
theorem len_no (w : World) (v : Value) (h : NetV w v false) : Calls Tryz.prog 18 #[v] w fun e w' => e = .returned (.int .i64 0) ∧ w = w' := by
 have CT := there_any w v false h
 clear h
 go_enter Tryz.func18, Tryz.ntmps18
 go_wp2_with fail
 refine CT.mono ?_
 rintro e w1 ⟨rfl, rfl⟩
 go_wp2_with fail
 go_ret
 exact ⟨rfl, rfl⟩
set_option maxRecDepth 100000 in
set_option maxHeartbeats 8000 in
theorem len_at (n0 : Nat) (w : World) (B : Nat) (sv : Value) (L : List Lt) (h : NetAt n0 w B sv L) : Calls Tryz.prog 18 #[.pointer (some ⟨B, 0, none⟩)] w fun e w' => e = .returned (.int .i64 (L.length : Int)) ∧ w = w' := by
 have CT := there_any w _ true h.nv
 have c0 := h.cell.1
 obtain ⟨ao, cap, rfl, _⟩ := Rd.of_own h.row
 clear h
 go_enter Tryz.func18, Tryz.ntmps18
 go_wp2_with fail
 refine CT.mono ?_
 rintro e w1 ⟨rfl, rfl⟩
 go_wp2_with fail
 go_ret
 exact ⟨rfl, rfl⟩
set_option maxRecDepth 100000 in
set_option maxHeartbeats 8000 in
theorem carried_out (n0 : Nat) (w : World) (B : Nat) (sv : Value) (L : List Lt) (i : Int) (h : NetAt n0 w B sv L) (hi : i < 0 ∨ (L.length : Int) ≤ i) : Calls Tryz.prog 23 #[.pointer (some ⟨B, 0, none⟩), .int .i64 i] w fun e w' => e = .returned (.int .i64 0) ∧ w = w' := by
 have CT := there_any w _ true h.nv
 have c0 := h.cell.1
 obtain ⟨ao, cap, rfl, _⟩ := Rd.of_own h.row
 clear h
 by_cases h0 : i < 0
 ·have g0 : decide (i < 0) = true := decide_eq_true h0
  clear h0 hi
  go_enter Tryz.func23, Tryz.ntmps23
  go_wp2_with fail
  refine CT.mono ?_
  rintro e w1 ⟨rfl, rfl⟩
  go_wp2_with fail
  go_ret
  exact ⟨rfl, rfl⟩
 ·have g0 : decide (i < 0) = false := decide_eq_false h0
  have g1 : decide ((L.length : Int) ≤ i) = true := decide_eq_true (by omega)
  clear h0 hi
  go_enter Tryz.func23, Tryz.ntmps23
  go_wp2_with fail
  refine CT.mono ?_
  rintro e w1 ⟨rfl, rfl⟩
  go_wp2_with fail
  go_ret
  exact ⟨rfl, rfl⟩
set_option maxRecDepth 100000 in
set_option maxHeartbeats 8000 in
theorem carried_in (n0 : Nat) (w : World) (B : Nat) (sv : Value) (L : List Lt) (i : Nat) (x : Lt) (h : NetAt n0 w B sv L) (hx : L[i]? = some x) : Calls Tryz.prog 23 #[.pointer (some ⟨B, 0, none⟩), .int .i64 (i : Int)] w fun e w' => e = .returned (.int .i64 (x.car : Int)) ∧ w = w' := by
 have CT := there_any w _ true h.nv
 have c0 := h.cell.1
 obtain ⟨g, cap, rfl, hc1, hc2, g0, g1, g2⟩ := h.at_ hx
 have hi : i < L.length := (List.getElem?_eq_some_iff.1 hx).1
 clear h hx
 have q0 : decide ((i : Int) < 0) = false := decide_eq_false (by omega)
 have q1 : decide ((L.length : Int) ≤ (i : Int)) = false := decide_eq_false (by omega)
 unfold maxLen at hc2
 go_enter Tryz.func23, Tryz.ntmps23
 go_wp2_with fail
 refine CT.mono ?_
 rintro e w1 ⟨rfl, rfl⟩
 go_wp2_with fail
 go_ret
 exact ⟨rfl, rfl⟩
set_option maxRecDepth 100000 in
set_option maxHeartbeats 8000 in
theorem bclone_any (v : Value) (n : Nat) (bs : List UInt8) (w : World) (h : Rd w 1 v n (bV bs)) (hn : n ≤ 140737488355328) :
  Calls Tryz.prog 32 #[v] w fun e w' => ∃ v', e = .returned v' ∧ w'.ownsRow w.heap.size 5 1 v' n (bV bs) ∧ Below w.heap.size w w' := by
 have hrd := h
 obtain ⟨ao, cap, rfl, hl, hm, hcap, hc⟩ := h
 cases ao with
 | none =>
  obtain rfl := hcap.1 rfl
  have hb : bs = [] := by
   cases bs with
   | nil => rfl
   | cons y ys => obtain ⟨b, off, h0, _⟩ := hc 0 _ (bV_get rfl); cases h0
  subst hb
  obtain rfl : n = 0 := by simpa [bV] using hl.symm
  clear hl hm hcap hc hrd
  have he := fun w a n c => Lib.run_eql_slice_nil (P := Tryz.prog) w 34 5 a n c 0 0 Tryz.underlying34
  go_enter Tryz.func32, Tryz.ntmps32
  go_wp2
  go_ret
  exact ⟨_, rfl, World.ownsRow_nil _ _ _ _, Below.refl _ _⟩
 | some ad =>
  clear hl hm hcap hc
  have he := fun w a n c => Lib.run_eql_slice_nil (P := Tryz.prog) w 34 5 a n c 0 0 Tryz.underlying34
  have ho0 : (w.alloc (.cells #[] 5)).ownsRow w.heap.size 5 1 (.slice (some ⟨w.heap.size, 0, none⟩) 0 0) 0 [] := World.ownsRow_made w #[] 0 (Nat.le_refl _) (by decide) rfl
  have hrd2 := hrd.below (balloc (Below.refl _ w) (.cells #[] 5))
  go_enter Tryz.func32, Tryz.ntmps32
  go_wp2_with (at_builtin; go_must (refine wpList_apps rfl _ _ 34 rfl w.heap.size 5 _ 1 1 Tryz.underlying34 infoByte rfl (by decide) (by decide) _ 0 [] rfl ho0 _ n (bV bs) rfl hrd2 (bV_one bs) (by omega) (by simp) ?_); intro v' w1 ho1 hb1 _ _ _)
  go_ret
  exact ⟨_, rfl, by simpa using ho1, (balloc (Below.refl _ w) _).trans hb1⟩
end Go.Proofs.YtgkelbdgdhkeoaaGreat
/- Nets: At, Carry, walked. -/
namespace Go.Proofs.YtgkelbdgdhkeoaaGreat
open Go.RowKit
set_option linter.unusedVariables false
set_option linter.unusedSimpArgs false
def okE : Value := .int .i64 0
set_option maxRecDepth 100000 in
set_option maxHeartbeats 1600000 in
theorem at_out (n0 : Nat) (w : World) (B : Nat) (sv : Value) (L : List Lt) (i : Int) (h : NetAt n0 w B sv L) (hi : i < 0 ∨ (L.length : Int) ≤ i) : Calls Tryz.prog 21 #[.pointer (some ⟨B, 0, none⟩), .int .i64 i] w fun e w' => e = .returned (.tuple #[.int .i64 0, .slice none 0 0, .int .i64 6]) ∧ w = w' := by
 have CT := there_any w _ true h.nv
 have c0 := h.cell.1
 obtain ⟨ao, cap, rfl, _⟩ := Rd.of_own h.row
 clear h
 by_cases h0 : i < 0
 ·have g0 : decide (i < 0) = true := decide_eq_true h0
  clear h0 hi
  go_enter Tryz.func21, Tryz.ntmps21
  go_wp2_with fail
  refine CT.mono ?_
  rintro e w1 ⟨rfl, rfl⟩
  go_wp2_with fail
  go_ret3
  exact ⟨rfl, rfl⟩
 ·have g0 : decide (i < 0) = false := decide_eq_false h0
  have g1 : decide ((L.length : Int) ≤ i) = true := decide_eq_true (by omega)
  clear h0 hi
  go_enter Tryz.func21, Tryz.ntmps21
  go_wp2_with fail
  refine CT.mono ?_
  rintro e w1 ⟨rfl, rfl⟩
  go_wp2_with fail
  go_ret3
  exact ⟨rfl, rfl⟩
set_option maxRecDepth 100000 in
set_option maxHeartbeats 1600000 in
theorem at_in (n0 : Nat) (w : World) (B : Nat) (sv : Value) (L : List Lt) (i : Nat) (x : Lt) (h : NetAt n0 w B sv L) (hx : L[i]? = some x) (hm : x.b.length ≤ 140737488355328) :
  Calls Tryz.prog 21 #[.pointer (some ⟨B, 0, none⟩), .int .i64 (i : Int)] w fun e w' => ∃ v', e = .returned (.tuple #[.int .i64 x.to_, v', .int .i64 0]) ∧ w'.ownsRow w.heap.size 5 1 v' x.b.length (bV x.b) ∧ Below w.heap.size w w' := by
 have CT := there_any w _ true h.nv
 have HH := Lib.hid h
 have c0 := h.cell.1
 have CC : Hid (∀ W, Below w.heap.size w W → Calls Tryz.prog 32 #[x.v] W fun e w' => ∃ v', e = .returned v' ∧ w'.ownsRow W.heap.size 5 1 v' x.b.length (bV x.b) ∧ Below W.heap.size W w') := Lib.hid (fun W hW => bclone_any _ _ _ _ (Rd.of_own (ownsRow_below (h.byt x (List.mem_of_getElem? hx)) hW)) hm)
 obtain ⟨g, cap, rfl, hc1, hc2, g0, g1, g2⟩ := h.at_ hx
 have hi : i < L.length := (List.getElem?_eq_some_iff.1 hx).1
 have HG : Hid (∀ W, Below w.heap.size w W → W.cell? ⟨B, 0, none⟩ = some (.slice (some ⟨g, 0, none⟩) L.length cap) ∧ W.cell? ⟨g, i * 3, none⟩ = some (.int .i64 x.to_) ∧ W.cell? ⟨g, i * 3 + 2, none⟩ = some x.v) := Lib.hid (fun W hW => by
  obtain ⟨g', cap', e, _, _, k0, _, k2⟩ := (h.below hW).at_ hx
  obtain ⟨e1, _, rfl⟩ := Value.slice.inj e
  obtain ⟨rfl, _⟩ := Addr.mk.inj (Option.some.inj e1)
  exact ⟨(h.below hW).cell.1, k0, k2⟩)
 clear h hx
 have q0 : decide ((i : Int) < 0) = false := decide_eq_false (by omega)
 have q1 : decide ((L.length : Int) ≤ (i : Int)) = false := decide_eq_false (by omega)
 unfold maxLen at hc2
 obtain ⟨xv, hxv⟩ : ∃ v, x.v = v := ⟨_, rfl⟩
 rw [hxv] at CC HG g2
 clear hxv
 go_enter Tryz.func21, Tryz.ntmps21
 go_wp2_with fail
 refine CT.mono ?_
 rintro e w1 ⟨rfl, rfl⟩
 go_wp2_with fail
 have hd0 : Below w.heap.size w w.drew := (Below.refl _ _).drew
 obtain ⟨d0, d1, d2⟩ := HG.out _ hd0
 have hz : w.drew.heap.size = w.heap.size := rfl
 go_region_with (first | (go_at_call 32; refine (CC.out _ hd0).mono ?_; rintro e w1 ⟨v1, rfl, ho1, hb1⟩; rw [hz] at ho1 hb1; have hb2 := bthen hd0 hb1; obtain ⟨e0, e1, e2⟩ := HG.out _ hb2; have HO1 := Lib.hid ho1; have HB2 := Lib.hid hb2; clear ho1 hb1 hb2) | fail)
 all_goals
  go_wp2_with fail
  go_ret3
  exact ⟨_, rfl, HO1.out, HB2.out⟩
theorem ownsRow_setCell {w : World} {base g n cap size j : Nat} {e : TypeId} {xs : List Value} (h : w.ownsRow base e size (.slice (some ⟨g, 0, none⟩) n cap) n xs) (hj : j < xs.length) (u : Value) :
  (w.setCell ⟨g, j, none⟩ u).ownsRow base e size (.slice (some ⟨g, 0, none⟩) n cap) n (xs.set j u) := by
 rcases h.2 with ⟨he, _⟩ | ⟨g', cap', cur, he, hg, hh, h1, h2, h3, h4⟩
 ·cases he
 ·obtain ⟨e1, _, rfl⟩ := Value.slice.inj he
  obtain ⟨rfl, _⟩ := Addr.mk.inj (Option.some.inj e1)
  refine ⟨by rw [List.length_set]; exact h.1, .inr ⟨g, cap, _, rfl, hg, setOf hh j u, h1, h2, by simpa using h3, ?_⟩⟩
  rw [Array.toList_setIfInBounds, List.take_set, h4]
theorem NetAt.setCar {n0 : Nat} {w : World} {B g i cap : Nat} {L : List Lt} {x : Lt} (h : NetAt n0 w B (.slice (some ⟨g, 0, none⟩) L.length cap) L) (hx : L[i]? = some x) (c : Nat) :
  NetAt n0 (w.setCell ⟨g, i * 3 + 1, none⟩ (.int .i64 (c : Int))) B (.slice (some ⟨g, 0, none⟩) L.length cap) (L.set i { x with car := c }) := by
 obtain ⟨cs, f, hg⟩ := own_tagS h.row g (by simp [ob_some])
 have hi : i < L.length := (List.getElem?_eq_some_iff.1 hx).1
 refine ⟨?_, ?_, fun y hy => ?_, h.ge⟩
 ·exact (setOther _ _ (fun e => by
   have hb := h.box
   have e' : B = g := e
   rw [e', hg] at hb
   cases hb)).trans h.box
 ·rw [← ltC_set c hx, List.length_set]
  exact ownsRow_setCell h.row (by rw [ltC_len]; omega) _
 ·have hy2 : ∃ z ∈ L, z.v = y.v ∧ z.b = y.b := by
   rcases List.mem_or_eq_of_mem_set hy with h1 | rfl
   ·exact ⟨y, h1, rfl, rfl⟩
   ·exact ⟨x, List.mem_of_getElem? hx, rfl, rfl⟩
  obtain ⟨z, hz, e1, e2⟩ := hy2
  rw [← e1, ← e2]
  refine ownsRow_at (h.byt z hz) (fun k hk => setOther _ _ (fun e => ?_))
  obtain ⟨cs', f', hk2⟩ := own_tagS (h.byt z hz) k hk
  have e' : k = g := e
  rw [e', hg] at hk2
  cases hk2
/-- What Carry leaves of a place where there is a letter. -/
def CarryP (n0 : Nat) (w : World) (B : Nat) (sv : Value) (L : List Lt) (i : Nat) (x : Lt) (e : Ending) (w' : World) : Prop :=
 ∃ v', e = .returned (.tuple #[.int .i64 x.to_, v', .int .i64 0]) ∧ w'.ownsRow w.heap.size 5 1 v' x.b.length (bV x.b) ∧ NetAt n0 w' B sv (L.set i { x with car := x.car + 1 }) ∧ Chg (nF B sv) w w' (nF B sv)
set_option maxRecDepth 100000 in
set_option maxHeartbeats 1600000 in
theorem carry_out (n0 : Nat) (w : World) (B : Nat) (sv : Value) (L : List Lt) (i : Int) (h : NetAt n0 w B sv L) (hi : i < 0 ∨ (L.length : Int) ≤ i) : Calls Tryz.prog 14 #[.pointer (some ⟨B, 0, none⟩), .int .i64 i] w fun e w' => e = .returned (.tuple #[.int .i64 0, .slice none 0 0, .int .i64 6]) ∧ w = w' := by
 have CT := at_out n0 w B sv L i h hi
 clear h hi
 go_enter Tryz.func14, Tryz.ntmps14
 go_wp2_with fail
 refine CT.mono ?_
 rintro e w1 ⟨rfl, rfl⟩
 go_wp2_with fail
 go_ret3
 exact ⟨rfl, rfl⟩
set_option maxRecDepth 100000 in
set_option maxHeartbeats 1600000 in
theorem carry_in (n0 : Nat) (w : World) (B : Nat) (sv : Value) (L : List Lt) (i : Nat) (x : Lt) (h : NetAt n0 w B sv L) (hx : L[i]? = some x) (hm : x.b.length ≤ 140737488355328) (hcar : x.car < 1000000) :
  Calls Tryz.prog 14 #[.pointer (some ⟨B, 0, none⟩), .int .i64 (i : Int)] w (CarryP n0 w B sv L i x) := by
 have CT := at_in n0 w B sv L i x h hx hm
 have HH := Lib.hid h
 have HX := Lib.hid hx
 have hi : i < L.length := (List.getElem?_eq_some_iff.1 hx).1
 go_enter Tryz.func14, Tryz.ntmps14
 go_wp2_with fail
 refine CT.mono ?_
 rintro e w1 ⟨v1, rfl, ho1, hb1⟩
 have h1 := h.below hb1
 have HN := Lib.hid h1
 have c0 := h1.cell.1
 obtain ⟨g, cap, rfl, hc1, hc2, g0, g1, g2⟩ := h1.at_ hx
 have HZ := Lib.hid hm
 have f1 : w1.frozen? ⟨g, i * 3 + 1, none⟩ = false := by
  rcases h1.row.2 with ⟨he, _⟩ | ⟨g', cap', cur, he, _, hh, _⟩
  ·cases he
  ·obtain ⟨e1, _, _⟩ := Value.slice.inj he
   obtain ⟨rfl, _⟩ := Addr.mk.inj (Option.some.inj e1)
   exact frozenOf hh _
 have HO1 := Lib.hid ho1
 have HB1 := Lib.hid hb1
 unfold maxLen at hc2
 obtain ⟨sb, hsb⟩ : ∃ l, x.b = l := ⟨_, rfl⟩
 clear h hx h1 ho1 hb1 CT hm hsb
 go_wp2_with fail
 go_ret3
 have hgl : g < w.heap.size := ownsRow_lt HH.out.row g (by simp [ob_some])
 have HS := HN.out.setCar HX.out (x.car + 1)
 rw [show ((x.car + 1 : Nat) : Int) = (x.car : Int) + 1 from by omega] at HS
 unfold CarryP
 refine ⟨_, rfl, ownsRow_at HO1.out (fun k hk => setOther _ _ (fun e => ?_)), HS, (Chg.of_below HB1.out).trans ⟨(Mods.refl _ _).setCell (by simp [nF, ob_some]) _, fun k hk => .inl hk⟩⟩
 have h1 := ownsRow_ge HO1.out k hk
 have e' : k = g := e
 omega
end Go.Proofs.YtgkelbdgdhkeoaaGreat
/- Nets: Next, walked. -/
namespace Go.Proofs.YtgkelbdgdhkeoaaGreat
open Go.RowKit
set_option linter.unusedVariables false
set_option linter.unusedSimpArgs false
/-- What Next leaves. -/
def NextP (w : World) (L : List Lt) (e : Ending) (w' : World) : Prop :=
 Below w.heap.size w w' ∧ ((∃ (i : Nat) (x : Lt), L[i]? = some x ∧ x.car = 0 ∧ (∀ (k : Nat) (y : Lt), k < i → L[k]? = some y → y.car ≠ 0) ∧ e = .returned (.tuple #[.int .i64 (i : Int), .bool true])) ∨
  ((∀ (k : Nat) (y : Lt), L[k]? = some y → y.car ≠ 0) ∧ e = .returned (.tuple #[.int .i64 0, .bool false])))
theorem NetAt.slice {n0 : Nat} {w : World} {B : Nat} {sv : Value} {L : List Lt} (h : NetAt n0 w B sv L) {x : Lt} (hx : x ∈ L) : ∃ ao cap, x.v = .slice ao x.b.length cap := by
 obtain ⟨ao, cap, e, _⟩ := Rd.of_own (h.byt x hx)
 exact ⟨ao, cap, e⟩
set_option maxRecDepth 100000 in
set_option maxHeartbeats 1600000 in
theorem next_at (n0 : Nat) (w : World) (B : Nat) (sv : Value) (L : List Lt) (h : NetAt n0 w B sv L) : Calls Tryz.prog 15 #[.pointer (some ⟨B, 0, none⟩)] w (NextP w L) := by
 have CT := there_any w _ true h.nv
 have HH := Lib.hid h
 have c0 := h.cell.1
 obtain ⟨ao, cap, rfl, _, _, ⟨_, hc1, hc2⟩, _⟩ := Rd.of_own h.row
 unfold maxLen at hc2
 obtain ⟨n, hn⟩ : ∃ n, L.length = n := ⟨_, rfl⟩
 have HN := Lib.hid hn
 rw [hn] at c0 hc1
 have HE : Hid (NetAt n0 w B (.slice ao n cap) L) := Lib.hid (hn ▸ h)
 clear h hn HH
 go_enter Tryz.func15, Tryz.ntmps15
 go_wp2_with fail
 refine CT.mono ?_
 rintro e w1 ⟨rfl, rfl⟩
 clear CT
 go_wp2_with fail
 go_loopw [13] (fun i wr => ∃ k : Nat, k ≤ n ∧ i = .int .i64 (k : Int) ∧ (∀ (j : Nat) (y : Lt), j < k → L[j]? = some y → y.car ≠ 0) ∧ Below w.heap.size w wr) (fun i _ => n - (intOf i).toNat)
 case atStart => exact ⟨0, by omega, rfl, fun j y hj => absurd hj (Nat.not_lt_zero _), Below.refl _ _⟩
 case round =>
  obtain ⟨k, hk, rfl, hall, hbr⟩ := hrel
  have HALL := Lib.hid hall
  have HBR := Lib.hid hbr
  by_cases hlt : k < n
  ·obtain ⟨x, hx⟩ : ∃ x, L[k]? = some x := ⟨_, List.getElem?_eq_getElem (by rw [HN.out]; exact hlt)⟩
   have HX := Lib.hid hx
   obtain ⟨g, cap', e0, _, _, g0, g1, g2⟩ := (HE.out.below hbr).at_ hx
   obtain ⟨ax, cx, ex⟩ := HE.out.slice (List.mem_of_getElem? hx)
   obtain ⟨e1, _, _⟩ := Value.slice.inj e0
   rw [ex] at g2
   clear hall hbr hx e0 ex
   subst e1
   have HCAR : Hid (x.car = 0 ∨ ¬ x.car = 0) := Lib.hid (Decidable.em _)
   have HS := Lib.hid (rfl : x.car = x.car)
   obtain ⟨c, hc⟩ : ∃ c, x.car = c := ⟨_, rfl⟩
   rw [hc] at g1
   have HC := Lib.hid hc
   clear hc
   rcases Nat.eq_zero_or_pos c with rfl | hpos
   ·go_wp2_with fail
    go_ret2
    exact ⟨balloc HBR.out _, .inl ⟨k, x, HX.out, HC.out, HALL.out, rfl⟩⟩
   ·have q0 : decide ((c : Int) = 0) = false := decide_eq_false (by omega)
    go_wp2_with fail
    go_roundw
    case rel =>
     refine ⟨k + 1, by omega, by go_num, fun j y hj hy => ?_, balloc HBR.out _⟩
     rcases Nat.lt_succ_iff_lt_or_eq.1 hj with h1 | rfl
     ·exact HALL.out j y h1 hy
     ·rw [HX.out] at hy
      obtain rfl := Option.some.inj hy
      have := HC.out
      omega
    case measure => simp [intOf]; omega
  ·obtain rfl : k = n := by omega
   clear hall hbr
   go_wp2_with fail
   go_ret2
   refine ⟨HBR.out, .inr ⟨fun j y hy => HALL.out j y ?_ hy, rfl⟩⟩
   have := (List.getElem?_eq_some_iff.1 hy).1
   rw [HN.out] at this
   exact this
end Go.Proofs.YtgkelbdgdhkeoaaGreat
/- Steps of nets: how they lie; Much, walked. -/
namespace Go.Proofs.YtgkelbdgdhkeoaaGreat
open Go.RowKit
set_option linter.unusedVariables false
set_option linter.unusedSimpArgs false
/-- A step: its kind, its number, its bytes' slice, its bytes. -/
structure St where
 k : Int
 n : Int
 v : Value
 b : List UInt8
/-- The slice reads as those steps. -/
def Steps (w : World) (ao : Option Addr) (n cap : Nat) (l : List St) : Prop :=
 l.length = n ∧ n ≤ cap ∧ cap ≤ maxLen ∧ (ao = none → cap = 0) ∧ ∀ j x, l[j]? = some x → ∃ b off, ao = some ⟨b, off, none⟩ ∧ b < w.heap.size ∧ w.cell? ⟨b, off + j * 3, none⟩ = some (.int .i64 x.k) ∧
  w.cell? ⟨b, off + j * 3 + 1, none⟩ = some (.int .i64 x.n) ∧ w.cell? ⟨b, off + j * 3 + 2, none⟩ = some x.v ∧ Rd w 1 x.v x.b.length (bV x.b)
theorem Steps.below {w w' : World} {ao : Option Addr} {n cap : Nat} {l : List St} (h : Steps w ao n cap l) (hb : Below w.heap.size w w') : Steps w' ao n cap l := by
 obtain ⟨h1, h2, h3, h4, h5⟩ := h
 refine ⟨h1, h2, h3, h4, fun j x hx => ?_⟩
 obtain ⟨b, off, e, hl, c0, c1, c2, hr⟩ := h5 j x hx
 exact ⟨b, off, e, Nat.lt_of_lt_of_le hl hb.size, (hb.cell (p := ⟨b, _, none⟩) hl).trans c0, (hb.cell (p := ⟨b, _, none⟩) hl).trans c1, (hb.cell (p := ⟨b, _, none⟩) hl).trans c2, hr.below hb⟩
/-- More than is gone through? -/
def muchN (l : List St) : Bool := (l.take 61).any (fun x => decide (3000 < x.b.length)) || decide (60 < l.length)
theorem muchN_at {l : List St} {k : Nat} {x : St} (hx : l[k]? = some x) (hk : k ≤ 60) (h : 3000 < x.b.length) : muchN l = true := by
 unfold muchN
 rw [List.any_eq_true.2 ⟨x, List.mem_of_getElem? (i := k) (by rw [List.getElem?_take, if_pos (by omega)]; exact hx), by simpa using h⟩]
 rfl
theorem muchN_end {l : List St} (h : ∀ (j : Nat) (y : St), j < 61 → l[j]? = some y → y.b.length ≤ 3000) : muchN l = decide (60 < l.length) := by
 unfold muchN
 have : (l.take 61).any (fun x => decide (3000 < x.b.length)) = false := by
  rw [List.any_eq_false]
  intro x hx
  obtain ⟨j, hj⟩ := List.mem_iff_getElem?.1 hx
  rw [List.getElem?_take] at hj
  split at hj
  ·have := h j x (by assumption) hj
   simp; omega
  ·cases hj
 rw [this, Bool.false_or]
theorem muchN_no {l : List St} (h : muchN l = false) : l.length ≤ 60 ∧ ∀ x ∈ l, x.b.length ≤ 3000 := by
 unfold muchN at h
 rw [Bool.or_eq_false_iff] at h
 have h2 : l.length ≤ 60 := by simpa using h.2
 refine ⟨h2, fun x hx => ?_⟩
 have h1 := h.1
 rw [List.any_eq_false, List.take_of_length_le (by omega)] at h1
 simpa using h1 x hx
set_option maxRecDepth 100000 in
set_option maxHeartbeats 1600000 in
theorem much20_any (ao : Option Addr) (n cap : Nat) (l : List St) (w : World) (h : Steps w ao n cap l) : Calls Tryz.prog 4 #[.slice ao n cap] w fun e w' => e = .returned (.bool (muchN l)) ∧ w = w' := by
 obtain ⟨hl, hc1, hc2, _, hcell⟩ := h
 have HL := Lib.hid hl
 have HC := Lib.hid hcell
 unfold maxLen at hc2
 clear hl hcell
 go_enter Tryz.func4, Tryz.ntmps4
 go_wp2_with fail
 go_loop [3] (fun i => ∃ k : Nat, k ≤ n ∧ k ≤ 61 ∧ i = .int .i64 (k : Int) ∧ ∀ (j : Nat) (y : St), j < k → l[j]? = some y → y.b.length ≤ 3000) (fun i => n - (intOf i).toNat)
 case atStart => exact ⟨0, by omega, by omega, rfl, fun j y hj => absurd hj (Nat.not_lt_zero _)⟩
 case round =>
  obtain ⟨k, hk, hk2, rfl, hall⟩ := hrel
  have HA := Lib.hid hall
  clear hall
  by_cases hlt : k < n
  ·have q0 : decide ((k : Int) < (n : Int)) = true := decide_eq_true (by omega)
   by_cases h60 : k ≤ 60
   ·have q1 : decide ((k : Int) ≤ 60) = true := decide_eq_true (by omega)
    obtain ⟨x, hx⟩ : ∃ x, l[k]? = some x := ⟨_, List.getElem?_eq_getElem (by rw [HL.out]; exact hlt)⟩
    have HX := Lib.hid hx
    obtain ⟨b, off, rfl, _, c0, c1, c2, hr⟩ := HC.out k x hx
    obtain ⟨ax, cx, ex, _⟩ := hr
    rw [ex] at c2
    clear hx ex
    by_cases hb : 3000 < (x.b.length : Int)
    ·have q2 : decide (3000 < (x.b.length : Int)) = true := decide_eq_true hb
     have HM := Lib.hid (muchN_at HX.out h60 (by omega))
     clear hb
     go_wp2_with fail
     go_ret
     exact ⟨by rw [HM.out]; rfl, rfl⟩
    ·have q2 : decide (3000 < (x.b.length : Int)) = false := decide_eq_false hb
     have HB : Hid (x.b.length ≤ 3000) := Lib.hid (by omega)
     clear hb
     go_wp2_with fail
     go_round
     case rel =>
      refine ⟨k + 1, by omega, by omega, by go_num, fun j y hj hy => ?_⟩
      rcases Nat.lt_succ_iff_lt_or_eq.1 hj with h1 | rfl
      ·exact HA.out j y h1 hy
      ·rw [HX.out] at hy
       obtain rfl := Option.some.inj hy
       exact HB.out
     case measure => simp [intOf]; omega
   ·have q1 : decide ((k : Int) ≤ 60) = false := decide_eq_false (by omega)
    obtain rfl : k = 61 := by omega
    have HM := Lib.hid (muchN_end HA.out)
    have q3 : decide (60 < (n : Int)) = true := decide_eq_true (by omega)
    go_wp2_with fail
    go_ret
    exact ⟨by rw [HM.out, HL.out]; simp; omega, rfl⟩
  ·obtain rfl : k = n := by omega
   have q0 : decide ((k : Int) < (k : Int)) = false := decide_eq_false (by omega)
   have HM : Hid (muchN l = decide (60 < (k : Int))) := Lib.hid (by
    rw [muchN_end (fun j y hj hy => HA.out j y (by have := (List.getElem?_eq_some_iff.1 hy).1; rw [HL.out] at this; exact this) hy), HL.out]
    exact decide_eq_decide.2 (by omega))
   go_wp2_with fail
   go_ret
   exact ⟨by rw [HM.out]; rfl, rfl⟩
end Go.Proofs.YtgkelbdgdhkeoaaGreat
/- Places of letters that wait. -/
namespace Go.Proofs.YtgkelbdgdhkeoaaGreat
open Go.RowKit
set_option linter.unusedVariables false
set_option linter.unusedSimpArgs false
/-- The places below k of letters that wait. -/
def waitsK (L : List Lt) (k : Nat) : List Nat := (List.range k).filter fun i => L[i]?.map (·.car) == some 0
def waitsL (L : List Lt) : List Nat := waitsK L L.length
def iV (l : List Nat) : List Value := l.map fun (i : Nat) => .int .i64 (i : Int)
theorem waitsK_le (L : List Lt) (k : Nat) : (waitsK L k).length ≤ k := by
 have := List.length_filter_le (fun i => L[i]?.map (·.car) == some 0) (List.range k)
 rw [List.length_range] at this
 exact this
theorem waitsK_yes {L : List Lt} {k : Nat} {x : Lt} (h : L[k]? = some x) (hx : x.car = 0) : waitsK L (k + 1) = waitsK L k ++ [k] := by
 simp [waitsK, List.range_succ, List.filter_append, h, hx]
theorem waitsK_no {L : List Lt} {k : Nat} {x : Lt} (h : L[k]? = some x) (hx : x.car ≠ 0) : waitsK L (k + 1) = waitsK L k := by
 simp [waitsK, List.range_succ, List.filter_append, h, hx]
theorem infoIntN : (Tryz.prog.info? 3).map (fun i => (i.zero, i.size, i.bytes)) = some (some (.int .i64 0), 1, 8) := by kernel_rfl
end Go.Proofs.YtgkelbdgdhkeoaaGreat
