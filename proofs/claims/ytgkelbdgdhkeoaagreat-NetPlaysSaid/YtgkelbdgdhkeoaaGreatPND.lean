/- Several texts in one: Net10 Net11 Net12 Net13 Net17. -/
import Derived.Test.YtgkelbdgdhkeoaaGreatPNC
import Derived.Test.YtgkelbdgdhkeoaaGreatPNA
import Derived.Test.YtgkelbdgdhkeoaaGreatPNB
namespace Go.Proofs.YtgkelbdgdhkeoaaGreat
open Go.RowKit
set_option linter.unusedVariables false
set_option linter.unusedSimpArgs false
/-- What a letter says. -/
def key (x : Lt) : Int × Nat × List UInt8 := (x.to_, x.car, x.b)
theorem tag_neq {w : World} {j k : Nat} {cs ds : Array Value} {e f : TypeId} {a b : Nat × Nat} (h1 : w.heap[j]? = some (.cells cs e a)) (h2 : w.heap[k]? = some (.cells ds f b)) (hne : e ≠ f) : j ≠ k := by
 rintro rfl
 rw [h1] at h2
 cases h2
 exact hne rfl
theorem RNetAt.past {n0 : Nat} {w0 w w' : World} {B C : Nat} {sv sw : Value} {L M : List Lt} (r : RNetAt n0 w0 w C sw M) (h : NetAt n0 w B sv L) (hm : Mods (nF B sv) w w') : RNetAt n0 w0 w' C sw M := by
 refine r.mods hm (fun hc => ?_) (fun k hk hc => ?_)
 ·rcases List.mem_cons.1 hc with h1 | h1
  ·exact tag_neq r.box h.box (by decide) h1
  ·obtain ⟨cs, f, h2⟩ := own_tagS h.row C h1
   exact tag_neq r.box h2 (by decide) rfl
 ·obtain ⟨cs, f, h2⟩ := own_tagS r.row k hk
  rcases List.mem_cons.1 hc with h1 | h1
  ·exact tag_neq h2 h.box (by decide) h1
  ·obtain ⟨cs', f', h3⟩ := own_tagS h.row k h1
   exact tag_neq h2 h3 (by decide) rfl
theorem NetAt.past {n0 : Nat} {w0 w w' : World} {B C : Nat} {sv sw : Value} {L M : List Lt} (h : NetAt n0 w B sv L) (r : RNetAt n0 w0 w C sw M) (hm : Mods [C] w w') : NetAt n0 w' B sv L := by
 refine h.kept hm (fun hc => ?_) (fun k hk hc => ?_) (fun x hx k hk hc => ?_)
 ·exact tag_neq h.box r.box (by decide) (by simpa using hc)
 ·obtain ⟨cs, f, h2⟩ := own_tagS h.row k hk
  exact tag_neq h2 r.box (by decide) (by simpa using hc)
 ·obtain ⟨cs, f, h2⟩ := own_tagS (h.byt x hx) k hk
  exact tag_neq h2 r.box (by decide) (by simpa using hc)
/-- A net and the reference's: they have the same. -/
structure Duo (w0 w : World) (B : Nat) (sv : Value) (L : List Lt) (C : Nat) (sw : Value) (M : List Lt) (k : Nat) : Prop where
 n : NetAt w0.heap.size w B sv L
 r : RNetAt w0.heap.size w0 w C sw M
 same : L.map key = M.map key
 small : L.length ≤ k ∧ ∀ x ∈ L, x.car ≤ k ∧ x.b.length ≤ 3000
 below : Below w0.heap.size w0 w
theorem Duo.len {w0 w : World} {B : Nat} {sv : Value} {L : List Lt} {C : Nat} {sw : Value} {M : List Lt} {k : Nat} (d : Duo w0 w B sv L C sw M k) : L.length = M.length := by
 have := congrArg List.length d.same
 simpa using this
theorem same_at {L M : List Lt} (h : L.map key = M.map key) {i : Nat} {x : Lt} (hx : L[i]? = some x) : ∃ y, M[i]? = some y ∧ y.to_ = x.to_ ∧ y.car = x.car ∧ y.b = x.b := by
 have h1 : (L.map key)[i]? = some (key x) := by rw [List.getElem?_map, hx]; rfl
 rw [h, List.getElem?_map] at h1
 obtain ⟨y, hy, hk⟩ := Option.map_eq_some_iff.1 h1
 obtain ⟨e1, e2⟩ := Prod.mk.inj hk
 obtain ⟨e3, e4⟩ := Prod.mk.inj e2
 exact ⟨y, hy, e1, e3, e4⟩
theorem Duo.mono {w0 w w' : World} {B : Nat} {sv : Value} {L : List Lt} {C : Nat} {sw : Value} {M : List Lt} {k : Nat} (d : Duo w0 w B sv L C sw M k) (hb : Below w.heap.size w w') : Duo w0 w' B sv L C sw M k :=
 ⟨d.n.below hb, d.r.below hb, d.same, d.small, bthen d.below hb⟩
theorem Duo.up {w0 w : World} {B : Nat} {sv : Value} {L : List Lt} {C : Nat} {sw : Value} {M : List Lt} {k j : Nat} (d : Duo w0 w B sv L C sw M k) (h : k ≤ j) : Duo w0 w B sv L C sw M j :=
 ⟨d.n, d.r, d.same, ⟨Nat.le_trans d.small.1 h, fun x hx => ⟨Nat.le_trans (d.small.2 x hx).1 h, (d.small.2 x hx).2⟩⟩, d.below⟩
/-- Both carried the letter at i. -/
theorem Duo.carried {w0 w w1 w2 : World} {B : Nat} {sv : Value} {L : List Lt} {C : Nat} {sw sw' : Value} {M : List Lt} {k i : Nat} {x y : Lt} (d : Duo w0 w B sv L C sw M k) (hx : L[i]? = some x) (hy : M[i]? = some y) (hk : y.to_ = x.to_ ∧ y.car = x.car ∧ y.b = x.b)
  (h1 : NetAt w0.heap.size w1 B sv (L.set i { x with car := x.car + 1 })) (c1 : Chg (nF B sv) w w1 (nF B sv)) (h2 : RNetAt w0.heap.size w0 w2 C sw' (M.set i { y with car := y.car + 1 })) (c2 : Mods [C] w1 w2) :
  Duo w0 w2 B sv (L.set i { x with car := x.car + 1 }) C sw' (M.set i { y with car := y.car + 1 }) (k + 1) := by
 have hr1 := d.r.past d.n c1.1
 refine ⟨h1.past hr1 c2, h2, ?_, ⟨?_, fun z hz => ?_⟩, ?_⟩
 ·rw [List.map_set, List.map_set, d.same]
  congr 1
  unfold key
  rw [hk.1, hk.2.1, hk.2.2]
 ·rw [List.length_set]; exact Nat.le_succ_of_le d.small.1
 ·rcases List.mem_or_eq_of_mem_set hz with h | rfl
  ·have := d.small.2 z h
   exact ⟨Nat.le_succ_of_le this.1, this.2⟩
  ·have := d.small.2 x (List.mem_of_getElem? hx)
   exact ⟨Nat.succ_le_succ this.1, this.2⟩
 ·refine (chg_below d.below c1 d.n.ge (fun j hj => ownsRow_ge d.n.row j hj)).trans (c2.below (fun j hj => ?_) (Nat.le_trans d.below.size c1.size))
  obtain rfl : j = C := by simpa using hj
  exact d.r.ge
set_option maxRecDepth 100000 in
set_option maxHeartbeats 3200000 in
theorem do_else (w0 w : World) (B : Nat) (sv : Value) (L : List Lt) (C : Nat) (sw : Value) (M : List Lt) (c : Nat) (d : Duo w0 w B sv L C sw M c) (k i : Int) (u : Value) (au : Option Addr) (nu cu : Nat) (hu : u = .slice au nu cu) (h1 : (k == 1) = false) (h2 : (k == 2) = false) (h3 : (k == 3) = false) :
  Calls Tryz.prog 10 #[.pointer (some ⟨B, 0, none⟩), .pointer (some ⟨C, 0, none⟩), .agg #[.int .i64 k, .int .i64 i, u]] w fun e w' => e = .returned (.bool true) ∧ Below w.heap.size w w' := by
 subst hu
 clear d
 go_enter Tryz.func10, Tryz.ntmps10
 go_wp2_with fail
 go_ret
 exact ⟨rfl, balloc (Below.refl _ _) _⟩
end Go.Proofs.YtgkelbdgdhkeoaaGreat
/- The law's do, walked: carry. -/
namespace Go.Proofs.YtgkelbdgdhkeoaaGreat
open Go.RowKit
set_option linter.unusedVariables false
set_option linter.unusedSimpArgs false
/-- What do leaves. -/
def DoP (w0 w : World) (B : Nat) (sv : Value) (C k : Nat) (e : Ending) (w' : World) : Prop := e = .returned (.bool true) ∧ (∃ sv L sw M, Duo w0 w' B sv L C sw M (k + 1)) ∧ Mods (C :: nF B sv) w w'
theorem mods_two {C B : Nat} {sv : Value} {w W1 w2 w3 : World} (hb : Below w.heap.size w W1) (h1 : Mods (nF B sv) W1 w2) (h2 : Mods [C] w2 w3) : Mods (C :: nF B sv) w w3 :=
 ((Mods.of_below (F := C :: nF B sv) hb).trans (h1.mono (fun k hk => List.mem_cons_of_mem _ hk)) (fun i hi => .inl hi)).trans h2 (fun i hi => by
  obtain rfl : i = C := by simpa using hi
  exact .inl (List.mem_cons_self ..))
theorem at_cases (L : List Lt) (i : Int) : (∃ (j : Nat) (x : Lt), i = (j : Int) ∧ L[j]? = some x) ∨ (i < 0 ∨ (L.length : Int) ≤ i) := by
 by_cases h : 0 ≤ i ∧ i < (L.length : Int)
 ·exact .inl ⟨i.toNat, _, by omega, List.getElem?_eq_getElem (by omega)⟩
 ·exact .inr (by omega)
set_option maxRecDepth 100000 in
set_option maxHeartbeats 3200000 in
theorem do_carry (w0 w : World) (B : Nat) (sv : Value) (L : List Lt) (C : Nat) (sw : Value) (M : List Lt) (c : Nat) (d : Duo w0 w B sv L C sw M c) (hc : c ≤ 100) (i : Int) (u : Value) (au : Option Addr) (nu cu : Nat) (hu : u = .slice au nu cu) :
  Calls Tryz.prog 10 #[.pointer (some ⟨B, 0, none⟩), .pointer (some ⟨C, 0, none⟩), .agg #[.int .i64 2, .int .i64 i, u]] w (DoP w0 w B sv C c) := by
 subst hu
 obtain ⟨W1, hW1⟩ : ∃ W, w.alloc (.cells #[.int .i64 2, .int .i64 i, .slice au nu cu] 36) = W := ⟨_, rfl⟩
 have HBL : Hid (Below w.heap.size w W1) := Lib.hid (by rw [← hW1]; exact balloc (Below.refl _ _) _)
 have hx1 : W1.heap[w.heap.size]? = some (.cells #[.int .i64 2, .int .i64 i, .slice au nu cu] 36 (0, 0)) := by rw [← hW1]; exact heap_alloc_new w _
 have HD := Lib.hid (d.mono HBL.out)
 have c0 : W1.cell? ⟨w.heap.size, 0, none⟩ = some (.int .i64 2) := cellOf hx1 0 rfl
 have c1 : W1.cell? ⟨w.heap.size, 1, none⟩ = some (.int .i64 i) := cellOf hx1 1 rfl
 have HX1 := Lib.hid hx1
 clear hx1 d
 rcases at_cases L i with ⟨j, x, rfl, hx⟩ | hi
 ·obtain ⟨⟨yt, yc, yv, yb⟩, hy, hk1, hk2, hk3⟩ := same_at HD.out.same hx
  dsimp only at hk1 hk2 hk3
  subst hk1 hk2 hk3
  obtain ⟨ay, cy, ey⟩ := rdV HD.out.r _ (List.mem_of_getElem? hy)
  dsimp only at ey
  subst ey
  have hsx := HD.out.small.2 x (List.mem_of_getElem? hx)
  have hll := HD.out.small.1
  have CA := carry_in _ _ _ _ _ j x HD.out.n hx (by omega) (by omega)
  have HXX := Lib.hid (And.intro hx hy)
  have CR : Hid (∀ W, RNetAt w0.heap.size w0 W C sw M → w0.heap.size ≤ W.heap.size → Calls Tryz.prog 30 #[.pointer (some ⟨C, 0, none⟩), .int .i64 (j : Int)] W fun e w' => e = .returned (.tuple #[.int .i64 x.to_, .slice ay x.b.length cy, .int .i64 0]) ∧ ∃ sv', RNetAt w0.heap.size w0 w' C sv' (M.set j ⟨x.to_, x.car + 1, .slice ay x.b.length cy, x.b⟩) ∧ Mods [C] W w' ∧ ∀ k ∈ ob sv', W.heap.size ≤ k) :=
   Lib.hid (fun W hR hW => rcarry_in _ _ _ _ _ _ j ⟨x.to_, x.car, .slice ay x.b.length cy, x.b⟩ hW hR hy (by have := HD.out.len; omega) (by show x.car < 1000000; omega))
  have HRV := Lib.hid (HD.out.r.byt _ (List.mem_of_getElem? hy))
  dsimp only at HRV
  have HLJ : Hid (w.heap.size < W1.heap.size) := Lib.hid (Array.getElem?_eq_some_iff.1 HX1.out).1
  clear hx hy hsx hll hc
  go_enter Tryz.func10, Tryz.ntmps10
  go_upto_region 1 with fail
  clear hW1
  go_wp2_with fail
  refine CA.mono ?_
  rintro e w2 ⟨v2, rfl, ho2, hn2, hc2⟩
  have HN2 := Lib.hid hn2
  have HC2 := Lib.hid hc2
  have HR2 := Lib.hid (HD.out.r.past HD.out.n hc2.1)
  have HS2 : Hid (W1.heap.size ≤ w2.heap.size) := Lib.hid hc2.size
  have hxb : w2.heap[w.heap.size]? = some (.cells #[.int .i64 2, .int .i64 (j : Int), .slice au nu cu] 36 (0, 0)) := (hc2.1.block _ HLJ.out (fun h => by
   rcases List.mem_cons.1 h with h1 | h1
   ·exact tag_neq HX1.out HD.out.n.box (by decide) h1
   ·obtain ⟨cs, f, h2⟩ := own_tagS HD.out.n.row _ h1
    exact tag_neq HX1.out h2 (by decide) rfl)).trans HX1.out
  have d1 : w2.cell? ⟨w.heap.size, 1, none⟩ = some (.int .i64 (j : Int)) := cellOf hxb 1 rfl
  have HO2 := Lib.hid ho2
  clear hn2 hc2 ho2 hxb CA c0 c1
  go_wp2_with fail
  refine (CR.out w2 HR2.out (Nat.le_trans HD.out.below.size HS2.out)).mono ?_
  rintro e w3 ⟨rfl, sw3, hr3, hm3, _⟩
  have hCW : C < W1.heap.size := HD.out.r.lt
  have ho3 : w3.ownsRow W1.heap.size 5 1 v2 x.b.length (bV x.b) := ownsRow_at HO2.out (fun k hk => hm3.block k (ownsRow_lt HO2.out k hk) (fun h => by
   have h1 := ownsRow_ge HO2.out k hk
   have h2 : k = C := by simpa using h
   omega))
  have HDF := Lib.hid (HD.out.carried HXX.out.1 HXX.out.2 ⟨rfl, rfl, rfl⟩ HN2.out HC2.out hr3 hm3)
  have HMF := Lib.hid (mods_two HBL.out HC2.out.1 hm3)
  have htx := run_text w3 _ _ x.b (Rd.of_own ho3)
  have hty := run_text w3 _ _ x.b (HRV.out.below HDF.out.below)
  have CN := Lib.hid (fun (W : World) => num20_any 0 W)
  clear hr3 hm3 hCW ho3 d1
  obtain ⟨bs, hbs⟩ : ∃ l, x.b = l := ⟨_, rfl⟩
  obtain ⟨to0, hto⟩ : ∃ l, x.to_ = l := ⟨_, rfl⟩
  rw [hbs] at htx hty
  rw [hbs, hto]
  clear hbs hto
  go_wp2_with (go_at_call 16; refine (CN.out _).mono ?_; rintro e wx ⟨rfl, rfl⟩)
  go_ret
  exact ⟨rfl, ⟨_, _, _, _, HDF.out⟩, HMF.out⟩
 ·have CA := carry_out _ _ _ _ _ i HD.out.n hi
  have CR := rcarry_out _ _ _ _ _ _ i HD.out.r (by have := HD.out.len; omega)
  have htx := run_text W1 _ _ [] (Rd.of_own (World.ownsRow_nil W1 0 5 1))
  have CN := Lib.hid (fun (W : World) => num20_any 6 W)
  clear hi hc
  go_enter Tryz.func10, Tryz.ntmps10
  go_upto_region 1 with fail
  clear hW1
  go_wp2_with fail
  refine CA.mono ?_
  rintro e w2 ⟨rfl, rfl⟩
  go_wp2_with fail
  refine CR.mono ?_
  rintro e w3 ⟨rfl, rfl⟩
  go_wp2_with (go_at_call 16; refine (CN.out _).mono ?_; rintro e wx ⟨rfl, rfl⟩)
  go_ret
  exact ⟨rfl, ⟨_, _, _, _, HD.out.up (Nat.le_succ _)⟩, Mods.of_below HBL.out⟩
end Go.Proofs.YtgkelbdgdhkeoaaGreat
/- The law's do, walked: next. -/
namespace Go.Proofs.YtgkelbdgdhkeoaaGreat
open Go.RowKit
set_option linter.unusedVariables false
set_option linter.unusedSimpArgs false
theorem waits_head {M : List Lt} {j : Nat} {r : List Nat} (h : waitsL M = j :: r) : (∃ y, M[j]? = some y ∧ y.car = 0) ∧ ∀ (k : Nat) (z : Lt), k < j → M[k]? = some z → z.car ≠ 0 := by
 unfold waitsL waitsK at h
 obtain ⟨l1, l2, h1, h2, h3, _⟩ := List.filter_eq_cons_iff.1 h
 have hj : l1.length = j := by
  have e : (List.range M.length)[l1.length]? = some j := by rw [h1]; simp
  rw [List.getElem?_range (by
   have := (List.getElem?_eq_some_iff.1 e).1
   simpa using this)] at e
  exact Option.some.inj e
 refine ⟨?_, fun k z hk hz hc => ?_⟩
 ·cases hm : M[j]? with
  | none => rw [hm] at h3; cases h3
  | some y => rw [hm] at h3; exact ⟨y, rfl, by simpa using h3⟩
 ·have hkM : k < M.length := (List.getElem?_eq_some_iff.1 hz).1
  have e : (List.range M.length)[k]? = some k := List.getElem?_range hkM
  rw [h1, List.getElem?_append_left (by omega)] at e
  have := h2 k (List.mem_of_getElem? e)
  rw [hz] at this
  simp [hc] at this
theorem waits_none {M : List Lt} (h : waitsL M = []) : ∀ (k : Nat) (z : Lt), M[k]? = some z → z.car ≠ 0 := by
 intro k z hz hc
 unfold waitsL waitsK at h
 rw [List.filter_eq_nil_iff] at h
 have := h k (List.mem_range.2 (List.getElem?_eq_some_iff.1 hz).1)
 rw [hz] at this
 simp [hc] at this
/-- The first one that waits is the same of both. -/
theorem next_same {L M : List Lt} (hs : L.map key = M.map key) {j : Nat} {r : List Nat} (h : waitsL M = j :: r) {w w' : World} {e : Ending} (hn : NextP w L e w') :
  Below w.heap.size w w' ∧ e = .returned (.tuple #[.int .i64 (j : Int), .bool true]) ∧ ∃ x, L[j]? = some x := by
 obtain ⟨⟨y, hy, hyc⟩, hall⟩ := waits_head h
 obtain ⟨x, hx, hxk⟩ := same_at hs.symm hy
 obtain ⟨hb, ⟨i, z, hz, hzc, hzall, rfl⟩ | ⟨hno, _⟩⟩ := hn
 ·obtain ⟨z', hz', hzk⟩ := same_at hs hz
  have hij : i = j := by
   rcases Nat.lt_trichotomy i j with h1 | h1 | h1
   ·exact absurd (hzk.2.1.trans hzc) (hall i z' h1 hz')
   ·exact h1
   ·exact absurd (hxk.2.1.trans hyc) (hzall j x h1 hx)
  subst hij
  exact ⟨hb, rfl, z, hz⟩
 ·exact absurd (hxk.2.1.trans hyc) (hno j x hx)
set_option maxRecDepth 100000 in
set_option maxHeartbeats 3200000 in
theorem do_next (w0 w : World) (B : Nat) (sv : Value) (L : List Lt) (C : Nat) (sw : Value) (M : List Lt) (c : Nat) (d : Duo w0 w B sv L C sw M c) (hc : c ≤ 100) (i : Int) (u : Value) (au : Option Addr) (nu cu : Nat) (hu : u = .slice au nu cu) :
  Calls Tryz.prog 10 #[.pointer (some ⟨B, 0, none⟩), .pointer (some ⟨C, 0, none⟩), .agg #[.int .i64 3, .int .i64 i, u]] w (DoP w0 w B sv C c) := by
 subst hu
 obtain ⟨W1, hW1⟩ : ∃ W, w.alloc (.cells #[.int .i64 3, .int .i64 i, .slice au nu cu] 36) = W := ⟨_, rfl⟩
 have HBL : Hid (Below w.heap.size w W1) := Lib.hid (by rw [← hW1]; exact balloc (Below.refl _ _) _)
 have hx1 : W1.heap[w.heap.size]? = some (.cells #[.int .i64 3, .int .i64 i, .slice au nu cu] 36 (0, 0)) := by rw [← hW1]; exact heap_alloc_new w _
 have HD := Lib.hid (d.mono HBL.out)
 have c0 : W1.cell? ⟨w.heap.size, 0, none⟩ = some (.int .i64 3) := cellOf hx1 0 rfl
 have HC := Lib.hid hc
 have HLEN : Hid (L.length ≤ 100 ∧ L.length = M.length) := Lib.hid (And.intro (by have := d.small.1; omega) d.len)
 have CW := rwaits_any _ _ _ _ _ _ HD.out.r (by have := HLEN.out; omega)
 clear hx1 d hc
 go_enter Tryz.func10, Tryz.ntmps10
 go_upto_region 1 with fail
 clear hW1
 go_wp2_with fail
 refine CW.mono ?_
 rintro e w2 ⟨v2, rfl, ho2, hb2⟩
 have HD2 := Lib.hid (HD.out.mono hb2)
 have HBL2 := Lib.hid (bthen HBL.out hb2)
 have HO2 := Lib.hid ho2
 obtain ⟨ao2, cap2, rfl, _, _, ⟨_, hq1, hq2⟩, _⟩ := Rd.of_own ho2
 unfold maxLen at hq2
 have HZ2 : Hid (W1.heap.size ≤ w2.heap.size) := Lib.hid hb2.size
 clear ho2 hb2 CW c0
 obtain ⟨wl, hwl⟩ : ∃ l, waitsL M = l := ⟨_, rfl⟩
 rw [hwl] at HO2 hq1 ⊢
 have HWL := Lib.hid hwl
 clear hwl
 cases wl with
 | nil =>
  go_wp2_with fail
  go_ret
  exact ⟨rfl, ⟨_, _, _, _, HD2.out.up (Nat.le_succ _)⟩, Mods.of_below HBL2.out⟩
 | cons j rest =>
  obtain ⟨nl, hnl⟩ : ∃ n, (j :: rest).length = n := ⟨_, rfl⟩
  have HNL : Hid (nl = rest.length + 1) := Lib.hid (by rw [← hnl]; rfl)
  rw [hnl] at HO2 hq1 ⊢
  have q0 : decide ((0 : Int) < (nl : Int)) = true := decide_eq_true (by have := HNL.out; omega)
  have q3 : (0 : Nat) < nl := by have := HNL.out; omega
  obtain ⟨g, cg, e2, hge, hgl⟩ := ownsRow_nonil HO2.out (fun h => by
   rcases HO2.out.2 with ⟨_, h0⟩ | ⟨g, cap, cur, hv, _⟩
   ·omega
   ·rw [hv] at h; cases h)
  obtain ⟨rfl, _, rfl⟩ := Value.slice.inj e2
  have hg2 : w2.cell? ⟨g, 0, none⟩ = some (.int .i64 (j : Int)) := by
   obtain ⟨ao, cap, e, _, _, _, hcell⟩ := Rd.of_own HO2.out
   obtain ⟨e1, _, rfl⟩ := Value.slice.inj e
   obtain ⟨b, off, e3, _, hh⟩ := hcell 0 _ (show (iV (j :: rest))[0]? = some (.int .i64 (j : Int)) from rfl)
   rw [← e1] at e3
   obtain ⟨rfl, rfl, _⟩ := Addr.mk.inj (Option.some.inj e3)
   simpa using hh
  have HG := Lib.hid (And.intro hge (And.intro hgl hg2))
  have CX := next_at _ _ _ _ _ HD2.out.n
  clear hnl e2 hge hgl hg2
  go_wp2_with fail
  refine CX.mono ?_
  intro e w3 hP
  obtain ⟨hb3, rfl, x, hx⟩ := next_same HD2.out.same HWL.out hP
  have HD3 := Lib.hid (HD2.out.mono hb3)
  have HBL3 := Lib.hid (bthen HBL2.out hb3)
  have hg3 := (hb3.cell (p := ⟨g, 0, none⟩) HG.out.2.1).trans HG.out.2.2
  obtain ⟨⟨yt, yc, yv, yb⟩, hy, hk1, hk2, hk3⟩ := same_at HD3.out.same hx
  dsimp only at hk1 hk2 hk3
  subst hk1 hk2 hk3
  obtain ⟨ay, cy, ey⟩ := rdV HD3.out.r _ (List.mem_of_getElem? hy)
  dsimp only at ey
  subst ey
  have hsx := HD3.out.small.2 x (List.mem_of_getElem? hx)
  have CA := carry_in _ _ _ _ _ j x HD3.out.n hx (by omega) (by have := HC.out; omega)
  have HXX := Lib.hid (And.intro hx hy)
  have CR : Hid (∀ W, RNetAt w0.heap.size w0 W C sw M → w0.heap.size ≤ W.heap.size → Calls Tryz.prog 30 #[.pointer (some ⟨C, 0, none⟩), .int .i64 (j : Int)] W fun e w' => e = .returned (.tuple #[.int .i64 x.to_, .slice ay x.b.length cy, .int .i64 0]) ∧ ∃ sv', RNetAt w0.heap.size w0 w' C sv' (M.set j ⟨x.to_, x.car + 1, .slice ay x.b.length cy, x.b⟩) ∧ Mods [C] W w' ∧ ∀ k ∈ ob sv', W.heap.size ≤ k) :=
   Lib.hid (fun W hR hW => rcarry_in _ _ _ _ _ _ j ⟨x.to_, x.car, .slice ay x.b.length cy, x.b⟩ hW hR hy (by have := HLEN.out; omega) (by show x.car < 1000000; have := HC.out; omega))
  have HG3 := Lib.hid hg3
  have HS3 : Hid (w2.heap.size ≤ w3.heap.size) := Lib.hid hb3.size
  clear hP hb3 hx hy hsx hg3 CX
  go_wp2_with fail
  refine CA.mono ?_
  rintro e w4 ⟨v4, rfl, ho4, hn4, hc4⟩
  have HN4 := Lib.hid hn4
  have HC4 := Lib.hid hc4
  have HR4 := Lib.hid (HD3.out.r.past HD3.out.n hc4.1)
  have hg4 : w4.cell? ⟨g, 0, none⟩ = some (.int .i64 (j : Int)) := (World.cell?_of_block (hc4.1.block g (by have := HG.out.2.1; have := HS3.out; omega) (fun h => by
   have h0 := HG.out.1
   rcases List.mem_cons.1 h with h1 | h1
   ·have := HD.out.n.lt; omega
   ·have := ownsRow_lt HD.out.n.row g h1; omega))).trans HG3.out
  have HS4 : Hid (w3.heap.size ≤ w4.heap.size) := Lib.hid hc4.size
  clear hn4 hc4 ho4 CA
  have HG4 := Lib.hid hg4
  go_wp2_with fail
  refine (CR.out w4 HR4.out (Nat.le_trans HD3.out.below.size HS4.out)).mono ?_
  rintro e w5 ⟨rfl, sw5, hr5, hm5, _⟩
  have hg5 : w5.cell? ⟨g, 0, none⟩ = some (.int .i64 (j : Int)) := (World.cell?_of_block (hm5.block g (by have := HG.out.2.1; have := HS3.out; have := HS4.out; omega) (fun h => by
   have h0 := HG.out.1
   have h1 : g = C := by simpa using h
   have := HD.out.r.lt
   omega))).trans HG4.out
  have HDF := Lib.hid (HD3.out.carried HXX.out.1 HXX.out.2 ⟨rfl, rfl, rfl⟩ HN4.out HC4.out hr5 hm5)
  have HMF := Lib.hid (mods_two HBL3.out HC4.out.1 hm5)
  clear hr5 hm5 hg4
  go_wp2_with fail
  go_ret
  exact ⟨rfl, ⟨_, _, _, _, HDF.out⟩, HMF.out⟩
end Go.Proofs.YtgkelbdgdhkeoaaGreat
/- The law's do, walked: put. -/
namespace Go.Proofs.YtgkelbdgdhkeoaaGreat
open Go.RowKit
set_option linter.unusedVariables false
set_option linter.unusedSimpArgs false
def nVN (zs : List Int) : List Value := zs.map (Value.int .u8)
/-- Put's two ends in one form. -/
theorem PutP.form {n0 : Nat} {w w' : World} {B : Nat} {sv : Value} {L : List Lt} {t : Int} {b : List UInt8} {e : Ending} (h : NetAt n0 w B sv L) (hp : PutP n0 w B sv L t b e w') :
  ∃ (r : Int) (sv' : Value) (L' : List Lt), e = .returned (.int .i64 r) ∧ NetAt n0 w' B sv' L' ∧ Chg (nF B sv) w w' (nF B sv') ∧ (∀ x ∈ L', x ∈ L ∨ ∀ k ∈ ob x.v, w.heap.size ≤ k) ∧
   ((putOk L t b = false ∧ r = -1 ∧ L' = L) ∨ (putOk L t b = true ∧ r = (L.length : Int) ∧ ∃ v', L' = L ++ [⟨t, 0, v', b⟩])) := by
 rcases hp with ⟨h1, rfl, hb⟩ | ⟨h1, rfl, sv', v', hn, hc, hk⟩
 ·exact ⟨_, sv, L, rfl, h.below hb, Chg.of_below hb, fun x hx => .inl hx, .inl ⟨h1, rfl, rfl⟩⟩
 ·refine ⟨_, sv', _, rfl, hn, hc, fun x hx => ?_, .inr ⟨h1, rfl, v', rfl⟩⟩
  rcases List.mem_append.1 hx with h2 | h2
  ·exact .inl h2
  ·obtain rfl : x = ⟨t, 0, v', b⟩ := by simpa using h2
   exact .inr hk
set_option maxRecDepth 100000 in
set_option maxHeartbeats 3200000 in
theorem do_put (w0 w : World) (B : Nat) (sv : Value) (L : List Lt) (C : Nat) (sw : Value) (M : List Lt) (c : Nat) (d : Duo w0 w B sv L C sw M c) (hc : c ≤ 100) (i : Int) (u : Value) (b : List UInt8) (hu : Rd w0 1 u b.length (bV b)) (hb3 : b.length ≤ 3000) :
  Calls Tryz.prog 10 #[.pointer (some ⟨B, 0, none⟩), .pointer (some ⟨C, 0, none⟩), .agg #[.int .i64 1, .int .i64 i, u]] w (DoP w0 w B sv C c) := by
 have HU := Lib.hid hu
 obtain ⟨au, cu, rfl, _⟩ := hu
 obtain ⟨W1, hW1⟩ : ∃ W, w.alloc (.cells #[.int .i64 1, .int .i64 i, .slice au b.length cu] 36) = W := ⟨_, rfl⟩
 have HBL : Hid (Below w.heap.size w W1) := Lib.hid (by rw [← hW1]; exact balloc (Below.refl _ _) _)
 have hx1 : W1.heap[w.heap.size]? = some (.cells #[.int .i64 1, .int .i64 i, .slice au b.length cu] 36 (0, 0)) := by rw [← hW1]; exact heap_alloc_new w _
 have HD := Lib.hid (d.mono HBL.out)
 have c0 : W1.cell? ⟨w.heap.size, 0, none⟩ = some (.int .i64 1) := cellOf hx1 0 rfl
 have c2 : W1.cell? ⟨w.heap.size, 2, none⟩ = some (.slice au b.length cu) := cellOf hx1 2 rfl
 have HX1 := Lib.hid hx1
 have HC := Lib.hid hc
 have HB3 := Lib.hid hb3
 have HRD := Lib.hid (HU.out.below HD.out.below)
 obtain ⟨n, hn⟩ : ∃ n, b.length = n := ⟨_, rfl⟩
 have HN := Lib.hid hn
 rw [hn] at c2 HX1 HRD HU hb3 hW1 ⊢
 clear hx1 d hc hn
 go_enter Tryz.func10, Tryz.ntmps10
 go_upto_region 1 with fail
 clear hW1
 go_upto_region 4 with (at_builtin; go_must (refine wpList_apps rfl _ _ 34 rfl W1.heap.size 5 _ 1 1 Tryz.underlying34 infoByte rfl (by decide) (by decide) _ 0 [] rfl (World.ownsRow_nil _ _ _ _) _ n (bV b) rfl HRD.out (bV_one b) (by omega) (Nat.le_refl _) ?_); intro v2 w2 ho2 hb2 hg2 hs2 hn2; simp only [Nat.zero_add, List.nil_append] at ho2)
 obtain ⟨ao2, cap2, rfl, _, _, ⟨_, hq1, hq2⟩, _⟩ := Rd.of_own ho2
 have HD2 := Lib.hid (HD.out.mono hb2)
 have HBL2 := Lib.hid (bthen HBL.out hb2)
 have HO2 := Lib.hid ho2
 have hx2 := (hb2.block _ (Array.getElem?_eq_some_iff.1 HX1.out).1).trans HX1.out
 have HX2 := Lib.hid hx2
 have d1 : w2.cell? ⟨w.heap.size, 1, none⟩ = some (.int .i64 i) := cellOf hx2 1 rfl
 have HZ2 : Hid (W1.heap.size ≤ w2.heap.size) := Lib.hid hb2.size
 have CP := put_at w0.heap.size w2 B sv L i b (.slice ao2 n cap2) HD2.out.below.size HD2.out.n (by rw [HN.out]; exact Rd.of_own HO2.out) (by have := HB3.out; omega)
 unfold maxLen at hq2
 clear ho2 hb2 hg2 hs2 hn2 hx2 c0 c2
 go_wp2_with fail
 refine CP.mono ?_
 intro e w3 hP
 obtain ⟨r, sv3, L3, rfl, hn3, hc3, hd3, hspec⟩ := PutP.form HD2.out.n hP
 have HN3 := Lib.hid hn3
 have HC3 := Lib.hid hc3
 have HSP := Lib.hid hspec
 have HM3 : Hid (Mods (C :: nF B sv) w w3) := Lib.hid ((Mods.of_below HBL2.out).trans (hc3.1.mono (fun k hk => List.mem_cons_of_mem C hk)) (fun i hi => .inl hi))
 have HR3 := Lib.hid (HD2.out.r.past HD2.out.n hc3.1)
 have HDJ : Hid (∀ x ∈ L3, ∀ k ∈ ob x.v, k ∉ ob (.slice ao2 n cap2)) := Lib.hid (fun x hx k hk hk2 => by
  have h1 := ownsRow_ge HO2.out k hk2
  have h2 := ownsRow_lt HO2.out k hk2
  rcases hd3 x hx with h | h
  ·have := ownsRow_lt (HD.out.n.byt x h) k hk
   omega
  ·have := h k hk
   omega)
 have HO3 : Hid (w3.ownsRow W1.heap.size 5 1 (.slice ao2 n cap2) n (bV b)) := Lib.hid (ownsRow_at HO2.out (fun k hk => hc3.1.block k (ownsRow_lt HO2.out k hk) (fun h => by
  obtain ⟨cs, f, h2⟩ := own_tagS HO2.out k hk
  rcases List.mem_cons.1 h with h1 | h1
  ·exact tag_neq h2 HD2.out.n.box (by decide) h1
  ·obtain ⟨cs', f', h3⟩ := own_tagS HD2.out.n.row k h1
   exact tag_neq h2 h3 (by decide) rfl)))
 have HX3 : Hid (w3.heap[w.heap.size]? = some (.cells #[.int .i64 1, .int .i64 i, .slice au n cu] 36 (0, 0))) := Lib.hid ((hc3.1.block _ (Array.getElem?_eq_some_iff.1 HX2.out).1 (fun h => by
  rcases List.mem_cons.1 h with h1 | h1
  ·exact tag_neq HX2.out HD2.out.n.box (by decide) h1
  ·obtain ⟨cs, f, h2⟩ := own_tagS HD2.out.n.row _ h1
   exact tag_neq HX2.out h2 (by decide) rfl)).trans HX2.out)
 have HB03 := Lib.hid (chg_below HD2.out.below hc3 HD2.out.n.ge (fun k hk => ownsRow_ge HD2.out.n.row k hk))
 clear hP hn3 hc3 hd3 hspec CP d1
 go_wp2_with fail
 go_loopw [9] (fun iv wr => ∃ k : Nat, k ≤ n ∧ iv = .int .i64 (k : Int) ∧ (∃ zs : List Int, zs.length = n ∧ wr.ownsRow W1.heap.size 5 1 (.slice ao2 n cap2) n (nVN zs)) ∧ Mods (ob (.slice ao2 n cap2)) w3 wr) (fun iv _ => n - (intOf iv).toNat)
 case atStart => exact ⟨0, by omega, rfl, ⟨b.map fun x => (x.toNat : Int), by rw [List.length_map]; exact HN.out, by
  rw [show nVN (b.map fun x => (x.toNat : Int)) = bV b from by simp [nVN, bV, Function.comp_def]]
  exact HO3.out⟩, Mods.refl _ _⟩
 case round =>
  obtain ⟨k, hk, rfl, ⟨zs, hzl, hown⟩, hm⟩ := hrel
  by_cases hlt : k < n
  ·obtain ⟨g, rfl⟩ : ∃ g, ao2 = some ⟨g, 0, none⟩ := by
    rcases hown.2 with ⟨hv, hn0⟩ | ⟨g, cap', cur, hv, _⟩
    ·omega
    ·simp at hv; exact ⟨g, hv.1⟩
   obtain ⟨z, hz⟩ : ∃ z, zs[k]? = some z := ⟨_, List.getElem?_eq_getElem (by omega)⟩
   have hcell := hown.cellAt k (by omega)
   have hfz := hown.frozenAt k
   have hx : (nVN zs)[k]? = some (.int .u8 z) := by simp [nVN, hz]
   rw [hx] at hcell
   have HST := Lib.hid (fun u => hown.stored k u)
   have HM := Lib.hid hm
   have HZL := Lib.hid hzl
   clear hx hz hown hm hzl
   go_wp2_with fail
   go_roundw
   case rel =>
    refine ⟨k + 1, by omega, by go_num, ⟨zs.set k ((z + 1) % 256), by rw [List.length_set]; exact HZL.out, ?_⟩, HM.out.setCell (p := ⟨g, k, none⟩) (by simp [ob_some]) _⟩
    have h2 := (HST.out (.int .u8 ((z + 1) % 256))).1
    simpa [nVN, List.map_set] using h2
   case measure => simp [intOf]; omega
  ·obtain rfl : k = n := by omega
   have HOr := Lib.hid hown
   have htag : ∀ (j : Nat) (cs : Array Value) (e : TypeId) (f : Nat × Nat), w3.heap[j]? = some (.cells cs e f) → e ≠ 5 → j ∉ ob (.slice ao2 k cap2) := fun j cs e f hj he hjo => by
    obtain ⟨cs', f', h2⟩ := own_tagS HO3.out j hjo
    exact tag_neq hj h2 he rfl
   have HNr : Hid (NetAt w0.heap.size wr B sv3 L3) := Lib.hid (HN3.out.kept hm (htag _ _ _ _ HN3.out.box (by decide)) (fun j hj => by
    obtain ⟨cs, f, h2⟩ := own_tagS HN3.out.row j hj
    exact htag _ _ _ _ h2 (by decide)) HDJ.out)
   have HRr : Hid (RNetAt w0.heap.size w0 wr C sw M) := Lib.hid (HR3.out.mods hm (htag _ _ _ _ HR3.out.box (by decide)) (fun j hj => by
    obtain ⟨cs, f, h2⟩ := own_tagS HR3.out.row j hj
    exact htag _ _ _ _ h2 (by decide)))
   have hxr := (hm.block _ (Array.getElem?_eq_some_iff.1 HX3.out).1 (htag _ _ _ _ HX3.out (by decide))).trans HX3.out
   have k1 : wr.cell? ⟨w.heap.size, 1, none⟩ = some (.int .i64 i) := cellOf hxr 1 rfl
   have k2 : wr.cell? ⟨w.heap.size, 2, none⟩ = some (.slice au k cu) := cellOf hxr 2 rfl
   have HBr : Hid (Below w0.heap.size w0 wr) := Lib.hid (HB03.out.trans (hm.below (fun j hj => by
    have h1 := ownsRow_ge HO3.out j hj
    have := HD.out.below.size
    omega) HB03.out.size))
   have CR := rnput_any w0.heap.size w0 wr C sw M i b (.slice au k cu) HBr.out.size HRr.out (by rw [HN.out]; exact HU.out) HBr.out (by have := HB3.out; omega) (by have := HD.out.len; have := HD.out.small.1; have := HC.out; omega)
   have HMr : Hid (Mods (C :: nF B sv) w wr) := Lib.hid (HM3.out.trans hm (fun i hi => .inr (by
    have h1 := ownsRow_ge HO3.out i hi
    have := HBL.out.size
    omega)))
   have HPK : Hid (putOk M i b = putOk L i b) := Lib.hid (by unfold putOk; rw [HD.out.len])
   clear hown hm htag hxr
   go_wp2_with fail
   refine CR.mono ?_
   rintro e w5 (⟨hp, rfl, hb5⟩ | ⟨hp, rfl, sw5, hr5, hm5, _⟩)
   ·rw [HPK.out] at hp
    rcases HSP.out with ⟨_, rfl, rfl⟩ | ⟨h, _⟩
    ·have HDF : Hid (Duo w0 w5 B sv3 L3 C sw M (c + 1)) := Lib.hid ⟨HNr.out.below hb5, HRr.out.below hb5, HD.out.same, (HD.out.up (Nat.le_succ _)).small, bthen HBr.out hb5⟩
     have HMF := Lib.hid (HMr.out.thenBelow hb5)
     clear hb5 hp
     go_wp2_with fail
     go_ret
     exact ⟨rfl, ⟨_, _, _, _, HDF.out⟩, HMF.out⟩
    ·rw [hp] at h; cases h
   ·rw [HPK.out] at hp
    rcases HSP.out with ⟨h, _⟩ | ⟨_, rfl, v3, rfl⟩
    ·rw [hp] at h; cases h
    ·have HDF : Hid (Duo w0 w5 B sv3 (L ++ [⟨i, 0, v3, b⟩]) C sw5 (M ++ [⟨i, 0, .slice au k cu, b⟩]) (c + 1)) := Lib.hid ⟨HNr.out.past HRr.out hm5, hr5, by
      rw [List.map_append, List.map_append, HD.out.same]; rfl, ⟨by have := HD.out.small.1; rw [List.length_append]; simp; omega, fun z hz => by
      rcases List.mem_append.1 hz with h1 | h1
      ·have := HD.out.small.2 z h1
       exact ⟨Nat.le_succ_of_le this.1, this.2⟩
      ·obtain rfl : z = ⟨i, 0, v3, b⟩ := by simpa using h1
       exact ⟨Nat.zero_le _, HB3.out⟩⟩, HBr.out.trans (hm5.below (fun j hj => by
       obtain rfl : j = C := by simpa using hj
       exact HRr.out.ge) HBr.out.size)⟩
     have HMF : Hid (Mods (C :: nF B sv) w w5) := Lib.hid (HMr.out.trans hm5 (fun i hi => by
      obtain rfl : i = C := by simpa using hi
      exact .inl (List.mem_cons_self ..)))
     have hlen : (M.length : Int) = (L.length : Int) := by have := HD.out.len; omega
     rw [hlen]
     clear hr5 hm5 hp hlen
     go_wp2_with fail
     go_ret
     exact ⟨rfl, ⟨_, _, _, _, HDF.out⟩, HMF.out⟩
end Go.Proofs.YtgkelbdgdhkeoaaGreat
/- The law's do, of all kinds. -/
namespace Go.Proofs.YtgkelbdgdhkeoaaGreat
open Go.RowKit
set_option linter.unusedVariables false
theorem do_any (w0 w : World) (B : Nat) (sv : Value) (L : List Lt) (C : Nat) (sw : Value) (M : List Lt) (c : Nat) (d : Duo w0 w B sv L C sw M c) (hc : c ≤ 100) (x : St) (hu : Rd w0 1 x.v x.b.length (bV x.b)) (hb : x.b.length ≤ 3000) :
  Calls Tryz.prog 10 #[.pointer (some ⟨B, 0, none⟩), .pointer (some ⟨C, 0, none⟩), .agg #[.int .i64 x.k, .int .i64 x.n, x.v]] w (DoP w0 w B sv C c) := by
 obtain ⟨k, n, v, b⟩ := x
 dsimp only at hu hb ⊢
 by_cases h1 : k = 1
 ·subst h1; exact do_put w0 w B sv L C sw M c d hc n v b hu hb
 obtain ⟨au, cu, e, _⟩ := hu
 by_cases h2 : k = 2
 ·subst h2; exact do_carry w0 w B sv L C sw M c d hc n v au _ cu e
 by_cases h3 : k = 3
 ·subst h3; exact do_next w0 w B sv L C sw M c d hc n v au _ cu e
 refine (do_else w0 w B sv L C sw M c d k n v au _ cu e (by simpa using h1) (by simpa using h2) (by simpa using h3)).mono ?_
 rintro e' w' ⟨rfl, hb'⟩
 exact ⟨rfl, ⟨_, _, _, _, (d.mono hb').up (Nat.le_succ _)⟩, Mods.of_below hb'⟩
end Go.Proofs.YtgkelbdgdhkeoaaGreat
