import Derived.Test.YtgmahhdnjikdjaaGreatVG27
import Derived.Test.YtgmahhdnjikdjaaGreatVG29
set_option linter.unusedVariables false
set_option linter.unusedSimpArgs false
/- btree.put of a key that a leaf has, where Shadow makes a copy, walked. (Printed by mkbt11.py.) -/
namespace Go.Proofs.YtgmahhdnjikdjaaGreat
open Go.RowKit Go.Maps Wire
set_option linter.unusedVariables false
set_option linter.unusedSimpArgs false
theorem putA_putS {α : Type} (k : Nat) (a b : α) (l : List (Nat × α)) : putA k a (putA k b l) = putA k a l := by
 unfold putA
 rw [show delA k (insA (k, b) (delA k l)) = delA k l from delA_put k b l]
/-- What a Shadow that copies leaves. -/
def ShadR (X : World) (S B pm pd mf md : Nat) (s : Su) (A2 D2 : M) (Fm Fd : List Nat) (l : List (Nat × (NdV × Nd))) (o : Nat) (y : Nd) (e : Ending) (w' : World) : Prop :=
 ∃ x1 xx bs, e = .returned (.tuple #[.int .u32 (o : Int), ndA x1, .int .i64 0]) ∧ NdAt w' bs x1 y ∧ StF w' S B pm pd mf md s A2 D2 Fm Fd (putA o (xx, y) l) ∧ Mods (mf :: (Fm ++ Fd)) X w' ∧ X.heap.size ≤ bs ∧ (∀ p ∈ putA o (xx, y) l, ∀ j ∈ obN p.2.1, j < bs) ∧ ∀ j ∈ obN xx, X.heap.size ≤ j
/-- What put leaves then. -/
def PutSP (w : World) (S B pm pd mf md : Nat) (s : Su) (A D : M) (Fm Fd : List Nat) (l : List (Nat × (NdV × Nd))) (o : Nat) (y : Nd) (ov : Nat) (had : Bool) (e : Ending) (w' : World) : Prop :=
 ∃ x, e = .returned (.tuple #[.agg #[.int .u32 (o : Int), .int .u32 0, .int .u64 (y.keys.getD 0 0 : Nat), .int .u64 0, .int .u64 (ov : Int), .bool had], .int .i64 0]) ∧ StF w' S B pm pd mf md s A D Fm Fd (putA o (x, y) l) ∧ Mods (mf :: (Fm ++ Fd)) w w' ∧ ∀ k ∈ obN x, w.heap.size ≤ k
set_option maxRecDepth 100000 in
set_option maxHeartbeats 12800000 in
theorem tput_leafS {w : World} {S B pm pd mf md : Nat} {s : Su} {A D A2 D2 : M} {Fm Fd : List Nat} {l : List (Nat × (NdV × Nd))} (h : StF w S B pm pd mf md s A D Fm Fd l) (i o : Nat) (y : Nd) (hy : y.Ok) (hk : y.k ≠ 1) (ho : o ≠ 0 ∧ o < A2.now.length ∧ ∀ xx, (putA o ((xx, y) : NdV × Nd) l).length ≤ 10000)
  (hsm : ∀ X, Below w.heap.size w X → Calls Tryz.prog 125 #[.pointer (some ⟨S, 0, none⟩), .int .u32 (i : Int)] X (ShadR X S B pm pd mf md s A2 D2 Fm Fd l o y))
  (key val : Nat) (hkv : key < 18446744073709551616 ∧ val < 18446744073709551616) (j : Nat) (hj : findI y.keys key = j) (hf : y.keys[j]? = some key) (ov : Nat) (hv : y.vals[j]? = some ov) (yn : Nd) (hya : yn = y.setv j val) (ohad : Bool) (hoh : ohad = true) :
  Calls Tryz.prog 78 #[.pointer (some ⟨S, 0, none⟩), .int .u32 (i : Int), .int .i64 y.k, .agg #[.int .u64 (key : Int), .int .u64 (val : Int)], .int .i64 0] w (PutSP w S B pm pd mf md s A2 D2 Fm Fd l o yn ov ohad) := by
 have HSM := Lib.hid hsm
 have HLO := Lib.hid ho
 clear hsm ho
 have HJ := Lib.hid hj
 have HFJ := Lib.hid hf
 have HVJ := Lib.hid hv
 have HOH := Lib.hid hoh
 have HYA := Lib.hid hya
 have HKV := Lib.hid hkv
 clear hj hf hv hoh hya hkv
 have hyn := hy.n
 have hym := hy.m
 have hm9 := h.st.mok.max
 obtain ⟨wA, hwA⟩ : ∃ W, w.alloc (.cells #[.int .u64 (key : Int), .int .u64 (val : Int)] 94) = W := ⟨_, rfl⟩
 have hbA : Below w.heap.size w wA := by rw [← hwA]; exact balloc (Below.refl _ _) _
 have hxA : wA.heap[w.heap.size]? = some (.cells #[.int .u64 (key : Int), .int .u64 (val : Int)] 94 (0, 0)) := by rw [← hwA]; exact heap_alloc_new _ _
 obtain ⟨w1, hw1⟩ : ∃ W, wA.alloc (.cells #[.int .u32 0, .int .u32 0, .int .u64 0, .int .u64 0, .int .u64 0, .bool false] 167) = W := ⟨_, rfl⟩
 have hbB : Below wA.heap.size wA w1 := by rw [← hw1]; exact balloc (Below.refl _ _) _
 have hb1 := bthn hbA hbB
 have hx1 : w1.heap[wA.heap.size]? = some (.cells #[.int .u32 0, .int .u32 0, .int .u64 0, .int .u64 0, .int .u64 0, .bool false] 167 (0, 0)) := by rw [← hw1]; exact heap_alloc_new _ _
 have h1 := h.below hb1
 have CS := HSM.out w1 hb1
 have HNF : Hid (∀ k, w.heap.size ≤ k → k ∉ mf :: (Fm ++ Fd)) := Lib.hid (fun k hk hh => by
  have h1 := h.lt k (by
   rcases List.mem_cons.1 hh with h | h
   ·simp [stF, h]
   ·rcases List.mem_append.1 h with h | h <;> simp [stF, h])
  omega)
 have HB1 := Lib.hid hb1
 have HX1 := Lib.hid hx1
 have HP1 := Lib.hid ((hbB.block _ (Array.getElem?_eq_some_iff.1 hxA).1).trans hxA)
 have HH := Lib.hid h
 have HY := Lib.hid hy
 have HYM := Lib.hid hym
 have HAL : Hid (w.heap.size < wA.heap.size) := Lib.hid (Array.getElem?_eq_some_iff.1 hxA).1
 obtain ⟨yk, hyk⟩ : ∃ z, y.k = z := ⟨_, rfl⟩
 have hk1 : (yk == 1) = false := by rw [← hyk]; simp; exact hk
 have hk2 : (yk != 1) = true := by simp [bne, hk1]
 have hk3 : (yk != yk) = false := by simp
 rw [hyk]
 have HYK := Lib.hid hyk
 clear h h1 hy hym hb1 hx1 hk hbA hxA hbB hyk
 go_enter Tryz.func78, Tryz.ntmps78
 go_wp2_with fail
 (try rw [hwA])
 (try rw [hw1])
 clear hwA hw1
 refine CS.mono ?_
 rintro e w2 ⟨x1, xx, bs, rfl, hnd, hst2, hm2, hbs, hobs, hxx⟩
 have HPR : Hid (o ≠ 0 ∧ o < A2.now.length ∧ True ∧ (putA o (xx, y) l).length ≤ 10000) := Lib.hid ⟨HLO.out.1, HLO.out.2.1, trivial, HLO.out.2.2 xx⟩
 obtain ⟨l1, hl1⟩ : ∃ z, putA o (xx, y) l = z := ⟨_, rfl⟩
 have HG : Hid (getA o l1 = some (xx, y)) := Lib.hid (by rw [← hl1]; exact getA_put o _ l)
 rw [hl1] at hst2 hobs HPR
 have HL1 := Lib.hid hl1
 have HSW : Hid (∀ X x2, StF X S B pm pd mf md s A2 D2 Fm Fd (putA o (x2, yn) l1) → StF X S B pm pd mf md s A2 D2 Fm Fd (putA o (x2, yn) l)) := Lib.hid (fun X x2 h9 => by rw [← HL1.out, putA_putS] at h9; exact h9)
 have HM2 := Lib.hid hm2
 have HS2 := Lib.hid hst2
 have HBS := Lib.hid hbs
 have HXX := Lib.hid hxx
 have HOBS := Lib.hid hobs
 have HX2 := Lib.hid ((hm2.block _ (Array.getElem?_eq_some_iff.1 HX1.out).1 (HNF.out _ (Nat.le_of_lt HAL.out))).trans HX1.out)
 have HP2 := Lib.hid ((hm2.block _ (Array.getElem?_eq_some_iff.1 HP1.out).1 (HNF.out _ (Nat.le_refl _))).trans HP1.out)
 obtain ⟨a1, a2, e1, e2, e3⟩ := ndA_eq x1
 rw [e1]
 have HE := Lib.hid (And.intro e2 e3)
 have HKB : Hid (x1.b = y.b ∧ x1.n1 = y.keys.length ∧ x1.n2 = y.vals.length) := Lib.hid ⟨hnd.b, hnd.n1, hnd.n2⟩
 rw [show x1.k = yk from hnd.k.trans HYK.out]
 obtain ⟨bb, hbb⟩ : ∃ z, x1.b = z := ⟨_, rfl⟩
 obtain ⟨n1, hn1⟩ : ∃ z, x1.n1 = z := ⟨_, rfl⟩
 obtain ⟨n2, hn2⟩ : ∃ z, x1.n2 = z := ⟨_, rfl⟩
 obtain ⟨c1, hc1⟩ : ∃ z, x1.c1 = z := ⟨_, rfl⟩
 obtain ⟨c2, hc2⟩ : ∃ z, x1.c2 = z := ⟨_, rfl⟩
 rw [hbb, hn1, hn2, hc1, hc2]
 rw [hbb, hn1, hn2] at HKB
 have HEQ := Lib.hid (And.intro hn1 (And.intro hc1 (And.intro hn2 hc2)))
 obtain ⟨w3, hw3⟩ : ∃ W, w2.alloc (.cells #[.int .i64 yk, .int .u64 (bb : Int), .slice a1 n1 c1, .slice a2 n2 c2] 159) = W := ⟨_, rfl⟩
 have hb3 : Below w2.heap.size w2 w3 := by rw [← hw3]; exact balloc (Below.refl _ _) _
 have hx3 : w3.heap[w2.heap.size]? = some (.cells #[.int .i64 yk, .int .u64 (bb : Int), .slice a1 n1 c1, .slice a2 n2 c2] 159 (0, 0)) := by rw [← hw3]; exact heap_alloc_new _ _
 have HX3 := Lib.hid hx3
 have HB3 := Lib.hid hb3
 have HC3 := Lib.hid ((hb3.block _ (Array.getElem?_eq_some_iff.1 HX2.out).1).trans HX2.out)
 have HP3 := Lib.hid ((hb3.block _ (Array.getElem?_eq_some_iff.1 HP2.out).1).trans HP2.out)
 have HN3 := Lib.hid (hnd.below hb3)
 have HS3 := Lib.hid (HS2.out.below hb3)
 clear CS hnd hst2 hm2 hbs hobs hxx hl1 e1 e2 e3 hbb hn1 hn2 hc1 hc2 hb3 hx3
 dsimp only
 go_upto_region 4 with fail
 (try rw [hw3])
 clear hw3
 obtain ⟨q, hq⟩ : ∃ q, w2.heap.size = q := ⟨_, rfl⟩
 rw [hq] at HX3 ⊢
 have HQ : Hid (wA.heap.size < q) := Lib.hid (by rw [← hq]; exact (Array.getElem?_eq_some_iff.1 HX2.out).1)
 obtain ⟨cb, hcb⟩ : ∃ z, wA.heap.size = z := ⟨_, rfl⟩
 have HCL1 : Hid (cb < w1.heap.size) := Lib.hid (by rw [← hcb]; exact (Array.getElem?_eq_some_iff.1 HX1.out).1)
 have HCL : Hid (cb < bs) := Lib.hid (Nat.lt_of_lt_of_le HCL1.out HBS.out)
 rw [hcb] at HQ HC3 HAL ⊢
 have HCN : Hid (∀ p ∈ l1, ∀ j ∈ obN p.2.1, j ≠ cb) := Lib.hid (fun p hp j hj e => by
  rw [← HL1.out] at hp
  have h1 := HCL1.out
  have h2 := HAL.out
  rcases mem_putA hp with rfl | hp
  ·have h3 := HXX.out j hj
   omega
  ·have h3 := (HH.out.nd p hp).lt j hj
   omega)
 have t0 := cellOf HC3.out 0 (v := .int .u32 0) rfl
 have f0 := frozenOf HC3.out 0
 clear hq hcb
 go_upto_region 9 with fail
 clear t0 f0
 obtain ⟨w4, hw4⟩ : ∃ W, w3.setCell ⟨cb, 0, none⟩ (.int .u32 (o : Int)) = W := ⟨_, rfl⟩
 rw [hw4]
 have hc4 : w4.heap[cb]? = some (.cells #[.int .u32 (o : Int), .int .u32 0, .int .u64 0, .int .u64 0, .int .u64 0, .bool false] 167 (0, 0)) := by rw [← hw4]; exact setOf HC3.out 0 _
 have HM4 : Hid (Mods [cb] w3 w4) := Lib.hid (by rw [← hw4]; exact (Mods.refl _ _).setCell (p := ⟨cb, 0, none⟩) (List.mem_singleton.2 rfl) _)
 have HC4 := Lib.hid hc4
 have HS4 := Lib.hid (HS3.out.other HM4.out (fun k hk hh => by have h1 := HH.out.lt k hk; have h2 := List.mem_singleton.1 hh; have h3 := HAL.out; omega) (fun p hp j hj hh => HCN.out p hp j hj (List.mem_singleton.1 hh)))
 have HX4 := Lib.hid ((HM4.out.block _ (Array.getElem?_eq_some_iff.1 HX3.out).1 (fun hh => by have := HQ.out; have := List.mem_singleton.1 hh; omega)).trans HX3.out)
 have HP4 := Lib.hid ((HM4.out.block _ (Array.getElem?_eq_some_iff.1 HP3.out).1 (fun hh => by have := HAL.out; have := List.mem_singleton.1 hh; omega)).trans HP3.out)
 have HN4 : Hid (NdAt w4 bs x1 y) := Lib.hid (HN3.out.at_ (fun j hj => HM4.out.block j (HN3.out.lt j hj) (fun hh => by have := HN3.out.ge j hj; have := HCL.out; have := List.mem_singleton.1 hh; omega)))
 have d0 := cellOf HX4.out 0 (v := .int .i64 yk) rfl
 have d1 := cellOf HX4.out 1 (v := .int .u64 (bb : Int)) rfl
 have d2 := cellOf HX4.out 2 (v := .slice a1 n1 c1) rfl
 have d3 := cellOf HX4.out 3 (v := .slice a2 n2 c2) rfl
 have p0 := cellOf HP4.out 0 (v := .int .u64 (key : Int)) rfl
 have HR1 : Hid (Rd w4 1 (.slice a1 n1 c1) n1 (qV y.keys)) := Lib.hid (by
  have := Rd.of_own HN4.out.r1
  rw [HE.out.1, HEQ.out.1, HEQ.out.2.1] at this
  rw [← HKB.out.2.1] at this
  exact this)
 have CF := find_at w4 y (.slice a1 n1 c1) (.slice a2 n2 c2) (by omega) (rises_up HY.out.up) (by rw [← HKB.out.2.1]; exact HR1.out) key
 rw [HYK.out, ← HKB.out.1] at CF
 clear hw4 hc4
 rw [HJ.out, decide_eq_true HFJ.out] at CF
 go_wp2_with fail
 refine CF.mono ?_
 rintro e w5 ⟨rfl, hb5⟩
 have HX5 := Lib.hid ((hb5.block _ (Array.getElem?_eq_some_iff.1 HX4.out).1).trans HX4.out)
 have HC5 := Lib.hid ((hb5.block _ (Array.getElem?_eq_some_iff.1 HC4.out).1).trans HC4.out)
 have HP5 := Lib.hid ((hb5.block _ (Array.getElem?_eq_some_iff.1 HP4.out).1).trans HP4.out)
 have HN5' := Lib.hid (HN4.out.below hb5)
 have HO1 : Hid (w5.ownsRow bs 26 1 (.slice a1 n1 c1) n1 (qV y.keys)) := Lib.hid (by
  have := HN5'.out.r1
  rw [HE.out.1, HEQ.out.1, HEQ.out.2.1, ← HKB.out.2.1] at this
  exact this)
 have HO2 : Hid (w5.ownsRow bs 26 1 (.slice a2 n2 c2) n2 (qV y.vals)) := Lib.hid (by
  have := HN5'.out.r2
  rw [HE.out.2, HEQ.out.2.2.1, HEQ.out.2.2.2, ← HKB.out.2.2] at this
  exact this)
 have HDJ0 := Lib.hid (by
  have := HN5'.out.dj
  rw [HE.out.1, HE.out.2, HEQ.out.1, HEQ.out.2.1, HEQ.out.2.2.1, HEQ.out.2.2.2] at this
  exact this)
 have hjl := (List.getElem?_eq_some_iff.1 HVJ.out).1
 have HBD : Hid (j < n2 ∧ n1 ≤ 6 ∧ n1 = n2) := Lib.hid (by have h1 := HKB.out; have h3 := HYM.out; omega)
 obtain ⟨g2, c2', cur, e2, hg0, hgl, hnc, hcm, hx, hsz, htk⟩ := rowSome HO2.out (by have := HBD.out; omega)
 obtain ⟨rfl, _, rfl⟩ := Value.slice.inj e2
 have hcj : w5.cell? ⟨g2, j, none⟩ = some (.int .u64 (ov : Int)) := cellOf hx j (by
  have h9 : (qV y.vals)[j]? = some (.int .u64 (ov : Int)) := qV_get HVJ.out
  rw [← htk, List.getElem?_take] at h9
  split at h9
  ·simpa using h9
  ·cases h9)
 have HCJ := Lib.hid hcj
 have HX2R : Hid (w5.heap[g2]? = some (.cells cur 26 (0, 0))) := Lib.hid hx
 have HMA5 : Hid (Mods (mf :: (Fm ++ Fd)) w w5) := Lib.hid (((((Mods.of_below HB1.out).trans HM2.out (fun k hk => .inl hk)).thenBelow HB3.out).trans HM4.out (fun k hk => .inr (by have := HAL.out; rw [List.mem_singleton.1 hk]; omega))).thenBelow hb5)
 have HS5 := Lib.hid (HS4.out.below hb5)
 have HG2 : Hid (bs ≤ g2) := Lib.hid hg0
 have hjn : j < n2 := HBD.out.1
 have hjn' : (j : Int) < (n2 : Int) := by omega
 clear CF hb5 d0 d1 d2 d3 p0 hjl e2 hg0 hgl hnc hcm hx hsz htk hcj
 dsimp only
 go_upto_region 7 with fail
 have HSS : Hid (∀ X, Mods [cb] w5 X → (X.cell? ⟨q, 3, none⟩ = some (.slice (some ⟨g2, 0, none⟩) n2 c2) ∧ X.cell? ⟨g2, j, none⟩ = some (.int .u64 (ov : Int)) ∧ X.cell? ⟨w.heap.size, 1, none⟩ = some (.int .u64 (val : Int))) ∧ Mods [cb] w5 X) := Lib.hid (fun X hb => ⟨⟨(World.cell?_of_block (hb.block _ ((Array.getElem?_eq_some_iff.1 HX5.out).1) ((fun hh => by have h1 := HQ.out; have h2 : q = cb := List.mem_singleton.1 hh; omega)))).trans (cellOf HX5.out 3 rfl), (World.cell?_of_block (hb.block _ ((Array.getElem?_eq_some_iff.1 HX2R.out).1) ((fun hh => by have h1 := HG2.out; have h2 := HCL.out; have h3 : g2 = cb := List.mem_singleton.1 hh; omega)))).trans (HCJ.out), (World.cell?_of_block (hb.block _ ((Array.getElem?_eq_some_iff.1 HP5.out).1) ((fun hh => by have h1 := HAL.out; have h2 : w.heap.size = cb := List.mem_singleton.1 hh; omega)))).trans (cellOf HP5.out 1 rfl)⟩, hb⟩)
 refine wp_region_late (S := fun X => (X.cell? ⟨q, 3, none⟩ = some (.slice (some ⟨g2, 0, none⟩) n2 c2) ∧ X.cell? ⟨g2, j, none⟩ = some (.int .u64 (ov : Int)) ∧ X.cell? ⟨w.heap.size, 1, none⟩ = some (.int .u64 (val : Int))) ∧ Mods [cb] w5 X) [15] (by kernel_rfl) (HSS.out _ (Mods.of_below (Below.refl _ _).drew)) (fun hHeld => ?_)
 have hbe : Below w5.heap.size w5 w5.drew := (Below.refl _ _).drew
 obtain ⟨wd, hwd⟩ : ∃ y, w5.drew = y := ⟨_, rfl⟩
 rw [hwd] at hHeld hbe ⊢
 have HBE := Lib.hid hbe
 have HS0 : Hid (w5.heap.size ≤ wd.heap.size) := Lib.hid HBE.out.size
 clear hwd hbe
 refine wpAnyL_take [1, 10, 11, 12, 13, 14, 15] (i := 0) (v := ?_) rfl (by kernel_rfl) (by kernel_rfl) (by kernel_rfl) (by kernel_rfl) (by kernel_rfl) (fun _ _ _ h => h) (Or.inl ⟨by rfl, ?_⟩) (by assumption) ?_
 rotate_left
 ·(intro w hSw; (try dsimp only at hSw); simp only [List.getElem_toArray, List.getElem_cons_zero, List.getElem_cons_succ]; go_simp; first | done | with_reducible rfl)
 simp only [List.getElem_toArray, List.getElem_cons_zero, List.getElem_cons_succ, Act.put, List.setIfInBounds_toArray, List.set_cons_zero, List.set_cons_succ]
 refine wpAnyL_take [14, 15] (i := 2) (v := ?_) rfl (by kernel_rfl) (by kernel_rfl) (by kernel_rfl) (by kernel_rfl) (by kernel_rfl) (fun _ _ _ h => h) (Or.inl ⟨by rfl, ?_⟩) (by assumption) ?_
 rotate_left
 ·(intro w hSw; (try dsimp only at hSw); simp only [List.getElem_toArray, List.getElem_cons_zero, List.getElem_cons_succ]; go_simp; first | done | with_reducible rfl)
 simp only [List.getElem_toArray, List.getElem_cons_zero, List.getElem_cons_succ, Act.put, List.setIfInBounds_toArray, List.set_cons_zero, List.set_cons_succ]
 refine wpAnyL_take [4, 6, 7, 10, 11, 12, 13, 14, 15] (i := 3) (v := ?_) rfl (by kernel_rfl) (by kernel_rfl) (by kernel_rfl) (by kernel_rfl) (by kernel_rfl) (fun _ _ _ h => h) (Or.inl ⟨by rfl, ?_⟩) (by assumption) ?_
 rotate_left
 ·(intro w hSw; (try dsimp only at hSw); simp only [List.getElem_toArray, List.getElem_cons_zero, List.getElem_cons_succ]; go_simp; first | done | with_reducible rfl)
 simp only [List.getElem_toArray, List.getElem_cons_zero, List.getElem_cons_succ, Act.put, List.setIfInBounds_toArray, List.set_cons_zero, List.set_cons_succ]
 refine wpAnyL_take [6, 7, 10, 11, 12, 13, 14, 15] (i := 5) (v := ?_) rfl (by kernel_rfl) (by kernel_rfl) (by kernel_rfl) (by kernel_rfl) (by kernel_rfl) (fun _ _ _ h => h) (Or.inl ⟨by rfl, ?_⟩) (by assumption) ?_
 rotate_left
 ·(intro w hSw; (try dsimp only at hSw); simp only [List.getElem_toArray, List.getElem_cons_zero, List.getElem_cons_succ]; go_simp; first | done | with_reducible rfl)
 simp only [List.getElem_toArray, List.getElem_cons_zero, List.getElem_cons_succ, Act.put, List.setIfInBounds_toArray, List.set_cons_zero, List.set_cons_succ]
 refine wpAnyL_take [9, 14, 15] (i := 8) (v := ?_) rfl (by kernel_rfl) (by kernel_rfl) (by kernel_rfl) (by kernel_rfl) (by kernel_rfl) (fun _ _ _ h => h) (Or.inl ⟨by rfl, ?_⟩) (by assumption) ?_
 rotate_left
 ·(intro w hSw; (try dsimp only at hSw); simp only [List.getElem_toArray, List.getElem_cons_zero, List.getElem_cons_succ]; go_simp; first | done | with_reducible rfl)
 simp only [List.getElem_toArray, List.getElem_cons_zero, List.getElem_cons_succ, Act.put, List.setIfInBounds_toArray, List.set_cons_zero, List.set_cons_succ]
 refine wpAnyL_take [10, 11, 12, 13, 14, 15] (i := 1) (v := ?_) rfl (by kernel_rfl) (by kernel_rfl) (by kernel_rfl) (by kernel_rfl) (by kernel_rfl) (fun _ _ _ h => h) (Or.inl ⟨by rfl, ?_⟩) (by assumption) ?_
 rotate_left
 ·(intro w hSw; (try dsimp only at hSw); simp only [List.getElem_toArray, List.getElem_cons_zero, List.getElem_cons_succ]; go_simp; first | done | with_reducible rfl)
 simp only [List.getElem_toArray, List.getElem_cons_zero, List.getElem_cons_succ, Act.put, List.setIfInBounds_toArray, List.set_cons_zero, List.set_cons_succ]
 refine wpAnyL_take [6, 7, 10, 11, 12, 13, 14, 15] (i := 4) (v := ?_) rfl (by kernel_rfl) (by kernel_rfl) (by kernel_rfl) (by kernel_rfl) (by kernel_rfl) (fun _ _ _ h => h) (Or.inl ⟨by rfl, ?_⟩) (by assumption) ?_
 rotate_left
 ·(intro w hSw; (try dsimp only at hSw); simp only [List.getElem_toArray, List.getElem_cons_zero, List.getElem_cons_succ]; go_simp; first | done | with_reducible rfl)
 simp only [List.getElem_toArray, List.getElem_cons_zero, List.getElem_cons_succ, Act.put, List.setIfInBounds_toArray, List.set_cons_zero, List.set_cons_succ]
 refine wpAnyL_take [14, 15] (i := 9) (v := ?_) rfl (by kernel_rfl) (by kernel_rfl) (by kernel_rfl) (by kernel_rfl) (by kernel_rfl) (fun _ _ _ h => h) (Or.inl ⟨by rfl, ?_⟩) (by assumption) ?_
 rotate_left
 ·(intro w hSw; (try dsimp only at hSw); simp only [List.getElem_toArray, List.getElem_cons_zero, List.getElem_cons_succ]; go_simp; first | done | with_reducible rfl)
 simp only [List.getElem_toArray, List.getElem_cons_zero, List.getElem_cons_succ, Act.put, List.setIfInBounds_toArray, List.set_cons_zero, List.set_cons_succ]
 refine wpAnyL_take [7, 10, 11, 12, 13, 14, 15] (i := 6) (v := ?_) rfl (by kernel_rfl) (by kernel_rfl) (by kernel_rfl) (by kernel_rfl) (by kernel_rfl) (fun _ _ _ h => h) (Or.inl ⟨by rfl, ?_⟩) (by assumption) ?_
 rotate_left
 ·(intro w hSw; (try dsimp only at hSw); simp only [List.getElem_toArray, List.getElem_cons_zero, List.getElem_cons_succ]; go_simp; first | done | with_reducible rfl)
 simp only [List.getElem_toArray, List.getElem_cons_zero, List.getElem_cons_succ, Act.put, List.setIfInBounds_toArray, List.set_cons_zero, List.set_cons_succ]
 refine wpAnyL_take [10, 11, 12, 13, 14, 15] (i := 7) (v := ?_) rfl (by kernel_rfl) (by kernel_rfl) (by kernel_rfl) (by kernel_rfl) (by kernel_rfl) (fun _ _ _ h => h) (Or.inl ⟨by rfl, ?_⟩) (by assumption) ?_
 rotate_left
 ·(intro w hSw; (try dsimp only at hSw); simp only [List.getElem_toArray, List.getElem_cons_zero, List.getElem_cons_succ]; go_simp; first | done | with_reducible rfl)
 simp only [List.getElem_toArray, List.getElem_cons_zero, List.getElem_cons_succ, Act.put, List.setIfInBounds_toArray, List.set_cons_zero, List.set_cons_succ]
 refine wpAnyL_take [11, 12, 13, 14, 15] (i := 10) (v := ?_) rfl (by kernel_rfl) (by kernel_rfl) (by kernel_rfl) (by kernel_rfl) (by kernel_rfl) (fun _ _ _ h => h) (Or.inl ⟨by rfl, ?_⟩) (by assumption) ?_
 rotate_left
 ·(intro w hSw; (try dsimp only at hSw); simp only [List.getElem_toArray, List.getElem_cons_zero, List.getElem_cons_succ]; go_simp; first | done | with_reducible rfl)
 simp only [List.getElem_toArray, List.getElem_cons_zero, List.getElem_cons_succ, Act.put, List.setIfInBounds_toArray, List.set_cons_zero, List.set_cons_succ]
 refine wpAnyL_ready (rs := [11]) (by kernel_rfl) (by simp) ?_
 refine AllReadyL.cons rfl (fun K hK => ?_) (AllReadyL.nil)
 have HCW := Lib.hid ((HBE.out.block _ (Array.getElem?_eq_some_iff.1 HC5.out).1).trans HC5.out)
 have g0 := cellOf HCW.out 4 (v := .int .u64 0) rfl
 have f0 := frozenOf HCW.out 4
 simp only [List.getElem_toArray, List.getElem_cons_zero, List.getElem_cons_succ]
 go_simp
 refine hK.out _ _ ?_ (fun hHeld => ?_)
 ·exact HSS.out _ ((Mods.of_below HBE.out).setCell (p := ⟨cb, 4, none⟩) (List.mem_singleton.2 rfl) _)
 clear hK K
 try simp only [Act.put, List.setIfInBounds_toArray, List.set_cons_zero, List.set_cons_succ]
 clear g0 f0
 obtain ⟨z11, hz11⟩ : ∃ W, wd.setCell ⟨cb, 4, none⟩ (.int .u64 (ov : Int)) = W := ⟨_, rfl⟩
 rw [hz11] at hHeld ⊢
 have HC11 : Hid (z11.heap[cb]? = some (.cells #[.int .u32 (o : Int), .int .u32 0, .int .u64 0, .int .u64 0, .int .u64 (ov : Int), .bool false] 167 (0, 0))) := Lib.hid (by rw [← hz11]; exact setOf HCW.out 4 _)
 have HM11 : Hid (Mods [cb] w5 z11) := Lib.hid (by rw [← hz11]; exact (Mods.of_below HBE.out).setCell (p := ⟨cb, 4, none⟩) (List.mem_singleton.2 rfl) _)
 clear hz11
 refine wpAnyL_take [13, 14, 15] (i := 12) (v := ?_) rfl (by kernel_rfl) (by kernel_rfl) (by kernel_rfl) (by kernel_rfl) (by kernel_rfl) (fun _ _ _ h => h) (Or.inl ⟨by rfl, ?_⟩) (by assumption) ?_
 rotate_left
 ·(intro w hSw; (try dsimp only at hSw); simp only [List.getElem_toArray, List.getElem_cons_zero, List.getElem_cons_succ]; go_simp; first | done | with_reducible rfl)
 simp only [List.getElem_toArray, List.getElem_cons_zero, List.getElem_cons_succ, Act.put, List.setIfInBounds_toArray, List.set_cons_zero, List.set_cons_succ]
 refine wpAnyL_ready (rs := [13]) (by kernel_rfl) (by simp) ?_
 refine AllReadyL.cons rfl (fun K hK => ?_) (AllReadyL.nil)
 have g0 := cellOf HC11.out 5 (v := .bool false) rfl
 have f0 := frozenOf HC11.out 5
 simp only [List.getElem_toArray, List.getElem_cons_zero, List.getElem_cons_succ]
 go_simp
 refine hK.out _ _ ?_ (fun hHeld => ?_)
 ·exact HSS.out _ (HM11.out.setCell (p := ⟨cb, 5, none⟩) (List.mem_singleton.2 rfl) _)
 clear hK K
 try simp only [Act.put, List.setIfInBounds_toArray, List.set_cons_zero, List.set_cons_succ]
 clear g0 f0
 obtain ⟨z13, hz13⟩ : ∃ W, z11.setCell ⟨cb, 5, none⟩ (.bool true) = W := ⟨_, rfl⟩
 rw [hz13] at hHeld ⊢
 have HC13 : Hid (z13.heap[cb]? = some (.cells #[.int .u32 (o : Int), .int .u32 0, .int .u64 0, .int .u64 0, .int .u64 (ov : Int), .bool true] 167 (0, 0))) := Lib.hid (by rw [← hz13]; exact setOf HC11.out 5 _)
 have HM13 : Hid (Mods [cb] w5 z13) := Lib.hid (by rw [← hz13]; exact HM11.out.setCell (p := ⟨cb, 5, none⟩) (List.mem_singleton.2 rfl) _)
 clear hz13
 refine wpAnyL_take [15] (i := 14) (v := ?_) rfl (by kernel_rfl) (by kernel_rfl) (by kernel_rfl) (by kernel_rfl) (by kernel_rfl) (fun _ _ _ h => h) (Or.inl ⟨by rfl, ?_⟩) (by assumption) ?_
 rotate_left
 ·(intro w hSw; (try dsimp only at hSw); simp only [List.getElem_toArray, List.getElem_cons_zero, List.getElem_cons_succ]; go_simp; first | done | with_reducible rfl)
 simp only [List.getElem_toArray, List.getElem_cons_zero, List.getElem_cons_succ, Act.put, List.setIfInBounds_toArray, List.set_cons_zero, List.set_cons_succ]
 refine wpAnyL_ready (rs := [15]) (by kernel_rfl) (by simp) ?_
 refine AllReadyL.late rfl (by kernel_rfl) (fun K hK => ?_)
 clear hHeld
 have HX2W := Lib.hid ((HM13.out.block _ (Array.getElem?_eq_some_iff.1 HX2R.out).1 (fun hh => by have h1 := HG2.out; have h2 := HCL.out; have h3 : g2 = cb := List.mem_singleton.1 hh; omega)).trans HX2R.out)
 have g0 := (World.cell?_of_block (HM13.out.block _ (Array.getElem?_eq_some_iff.1 HX2R.out).1 (fun hh => by have h1 := HG2.out; have h2 := HCL.out; have h3 : g2 = cb := List.mem_singleton.1 hh; omega))).trans HCJ.out
 have f0 := frozenOf HX2W.out j
 simp only [List.getElem_toArray, List.getElem_cons_zero, List.getElem_cons_succ]
 go_simp
 refine hK.out _ _ ?_
 clear hK K
 try simp only [Act.put, List.setIfInBounds_toArray, List.set_cons_zero, List.set_cons_succ]
 clear g0 f0
 obtain ⟨z15, hz15⟩ : ∃ W, z13.setCell ⟨g2, j, none⟩ (.int .u64 (val : Int)) = W := ⟨_, rfl⟩
 rw [hz15]
 have HO2N : Hid (z15.ownsRow bs 26 1 (.slice (some ⟨g2, 0, none⟩) n2 c2) n2 ((qV y.vals).set j (.int .u64 (val : Int)))) := Lib.hid (by rw [← hz15]; exact ownsRow_set1 (ownsRow_at HO2.out (fun k hk => HM13.out.block k (ownsRow_lt HO2.out k hk) (fun hh => ob_tag HO2.out HC5.out (by decide) (by rw [← List.mem_singleton.1 hh]; exact hk)))) j _)
 have HM15 : Hid (Mods [g2] z13 z15) := Lib.hid (by rw [← hz15]; exact (Mods.refl _ _).setCell (p := ⟨g2, j, none⟩) (List.mem_singleton.2 rfl) _)
 have HO1N : Hid (z15.ownsRow bs 26 1 (.slice a1 n1 c1) n1 (qV y.keys)) := Lib.hid (ownsRow_at (ownsRow_at HO1.out (fun k hk => HM13.out.block k (ownsRow_lt HO1.out k hk) (fun hh => ob_tag HO1.out HC5.out (by decide) (by rw [← List.mem_singleton.1 hh]; exact hk)))) (fun k hk => HM15.out.block k (Nat.lt_of_lt_of_le (ownsRow_lt HO1.out k hk) HM13.out.size) (fun hh => HDJ0.out g2 (by rw [ob_some]; exact List.mem_singleton.2 rfl) (by rw [← List.mem_singleton.1 hh]; exact hk))))
 have HC17 : Hid (z15.heap[cb]? = some (.cells #[.int .u32 (o : Int), .int .u32 0, .int .u64 0, .int .u64 0, .int .u64 (ov : Int), .bool ohad] 167 (0, 0))) := Lib.hid (by rw [HOH.out]; exact (HM15.out.block _ (Array.getElem?_eq_some_iff.1 HC13.out).1 (fun hh => by have h1 := HG2.out; have h2 := HCL.out; have h3 : cb = g2 := List.mem_singleton.1 hh; omega)).trans HC13.out)
 have HX17 : Hid (z15.heap[q]? = some (.cells #[.int .i64 yk, .int .u64 (bb : Int), .slice a1 n1 c1, .slice (some ⟨g2, 0, none⟩) n2 c2] 159 (0, 0))) := Lib.hid ((HM15.out.block _ (Nat.lt_of_lt_of_le (Array.getElem?_eq_some_iff.1 HX5.out).1 HM13.out.size) (fun hh => by have h1 := tagNe1 HX5.out HX2R.out (by decide); exact h1 (List.mem_singleton.1 hh))).trans ((HM13.out.block _ (Array.getElem?_eq_some_iff.1 HX5.out).1 (fun hh => by have h1 := HQ.out; have h2 := List.mem_singleton.1 hh; omega)).trans HX5.out))
 have HMA : Hid (Mods (mf :: (Fm ++ Fd)) w z15) := Lib.hid ((HMA5.out.trans HM13.out (fun k hk => .inr (by have := HAL.out; rw [List.mem_singleton.1 hk]; omega))).trans HM15.out (fun k hk => .inr (by have h1 := HG2.out; have h2 := HB1.out.size; have h7 := HBS.out; rw [List.mem_singleton.1 hk]; omega)))
 have HSA : Hid (StF z15 S B pm pd mf md s A2 D2 Fm Fd l1) := Lib.hid ((HS5.out.other HM13.out (fun k hk hh => by have h1 := HH.out.lt k hk; have h2 := List.mem_singleton.1 hh; have h3 := HAL.out; omega) (fun p hp j hj hh => HCN.out p hp j hj (List.mem_singleton.1 hh))).other HM15.out (fun k hk hh => by have h1 := HH.out.lt k hk; have h2 := List.mem_singleton.1 hh; have h3 := HG2.out; have h4 := HBS.out; have h5 := HB1.out.size; omega) (fun p hp j hj hh => by have h1 := HOBS.out p hp j hj; have h2 := List.mem_singleton.1 hh; have h3 := HG2.out; omega))
 clear hz15
 refine wpAnyL_done (by kernel_rfl) ?_ _
 clear HSS
 have HO2 : Hid (z15.ownsRow bs 26 1 (.slice (some ⟨g2, 0, none⟩) n2 c2) n2 (qV yn.vals)) := Lib.hid (by rw [HYA.out]; show World.ownsRow _ _ _ _ _ _ (qV (y.vals.set j val)); rw [qV_set]; exact HO2N.out)
 have HO1 : Hid (z15.ownsRow bs 26 1 (.slice a1 n1 c1) n1 (qV yn.keys)) := Lib.hid (by rw [HYA.out]; exact HO1N.out)
 have HM6 : Hid (n1 ≤ 6) := Lib.hid (by have := HBD.out; omega)
 have HLN : Hid (yn.keys.length = n1 ∧ yn.vals.length = n2) := Lib.hid (by
  have h1 := HKB.out
  rw [HYA.out]
  constructor
  ·show y.keys.length = n1
   omega
  ·show (y.vals.set j val).length = n2
   rw [List.length_set]; omega)
 have HYN : Hid (yn.k = yk ∧ yn.b = bb) := Lib.hid ⟨by rw [HYA.out]; exact HYK.out, by rw [HYA.out]; exact HKB.out.1.symm⟩
 have HYB : Hid (yn.b = y.b) := Lib.hid (by rw [HYA.out]; rfl)
 have HYO : Hid yn.Ok := Lib.hid (by rw [HYA.out]; exact HY.out.setv HKV.out.2)
 have HQ : Hid (w.heap.size ≤ q ∧ ¬ q = cb) := Lib.hid (by have := HQ.out; have := HAL.out; omega)
 have HCB : Hid (w.heap.size ≤ cb ∧ cb < bs) := Lib.hid (by have := HCL.out; have := HAL.out; omega)
 obtain ⟨ab, hab⟩ : ∃ z, (some ⟨g2, 0, none⟩ : Option Addr) = z := ⟨_, rfl⟩
 rw [hab] at HX17 HO2
 (try rw [hab])
 clear hab
 obtain ⟨aa, rfl⟩ : ∃ z, z = a1 := ⟨_, rfl⟩
 obtain ⟨m1, rfl⟩ : ∃ z, z = n1 := ⟨_, rfl⟩
 obtain ⟨m2, rfl⟩ : ∃ z, z = n2 := ⟨_, rfl⟩
 obtain ⟨c1', rfl⟩ : ∃ z, z = c1 := ⟨_, rfl⟩
 obtain ⟨c2', rfl⟩ : ∃ z, z = c2 := ⟨_, rfl⟩
 have CC := tcut_no z15 (.pointer (some ⟨S, 0, none⟩)) (.pointer (some ⟨cb, 0, none⟩)) (.int .i64 yk) (.int .u64 (bb : Int)) (.slice ab m2 c2') q m1 c1' aa HX17.out HM6.out
 go_wp2_with fail
 refine CC.mono ?_
 rintro e w18 ⟨rfl, rfl⟩
 clear CC
 have CFt := tfirst_at z15 yn (.slice aa m1 c1') (.slice ab m2 c2') (by rw [HLN.out.1]; exact Rd.of_own HO1.out)
 rw [HYN.out.1, HYN.out.2] at CFt
 obtain ⟨fk, hfk⟩ : ∃ z, yn.keys.getD 0 0 = z := ⟨_, rfl⟩
 rw [hfk] at CFt
 have HFK := Lib.hid hfk
 have d0 := cellOf HX17.out 0 (v := .int .i64 yk) rfl
 have d1 := cellOf HX17.out 1 (v := .int .u64 (bb : Int)) rfl
 have d2 := cellOf HX17.out 2 (v := .slice aa m1 c1') rfl
 have d3 := cellOf HX17.out 3 (v := .slice ab m2 c2') rfl
 clear hfk
 go_wp2_with fail
 refine CFt.mono ?_
 rintro e w11 ⟨rfl, hb11⟩
 have HB11 := Lib.hid hb11
 have HC11 := Lib.hid ((hb11.block _ (Array.getElem?_eq_some_iff.1 HC17.out).1).trans HC17.out)
 have HX11 := Lib.hid ((hb11.block _ (Array.getElem?_eq_some_iff.1 HX17.out).1).trans HX17.out)
 have HO1 := Lib.hid (ownsRow_below HO1.out hb11)
 have HO2 := Lib.hid (ownsRow_below HO2.out hb11)
 have t2 := cellOf HC11.out 2 (v := .int .u64 0) rfl
 have f2 := frozenOf HC11.out 2
 clear CFt hb11 d0 d1 d2 d3
 go_upto_region 24 with fail
 clear t2 f2
 obtain ⟨w12, hw12⟩ : ∃ W, w11.setCell ⟨cb, 2, none⟩ (.int .u64 (fk : Int)) = W := ⟨_, rfl⟩
 rw [hw12]
 have HC12 : Hid (w12.heap[cb]? = some (.cells #[.int .u32 (o : Int), .int .u32 0, .int .u64 (fk : Int), .int .u64 0, .int .u64 (ov : Int), .bool ohad] 167 (0, 0))) := Lib.hid (by rw [← hw12]; exact setOf HC11.out 2 _)
 have HM12 : Hid (Mods [cb] w11 w12) := Lib.hid (by rw [← hw12]; exact (Mods.refl _ _).setCell (p := ⟨cb, 2, none⟩) (List.mem_singleton.2 rfl) _)
 have HX12 := Lib.hid ((HM12.out.block _ (Array.getElem?_eq_some_iff.1 HX11.out).1 (fun hh => HQ.out.2 (List.mem_singleton.1 hh))).trans HX11.out)
 have HO1 := Lib.hid (ownsRow_at HO1.out (fun k hk => HM12.out.block k (ownsRow_lt HO1.out k hk) (fun hh => ob_tag HO1.out HC11.out (by decide) (by rw [← List.mem_singleton.1 hh]; exact hk))))
 have HO2 := Lib.hid (ownsRow_at HO2.out (fun k hk => HM12.out.block k (ownsRow_lt HO2.out k hk) (fun hh => ob_tag HO2.out HC11.out (by decide) (by rw [← List.mem_singleton.1 hh]; exact hk))))
 have HB12 : Hid (Mods (mf :: (Fm ++ Fd)) w w12) := Lib.hid ((HMA.out.thenBelow HB11.out).trans HM12.out (fun k hk => .inr (by rw [List.mem_singleton.1 hk]; exact HCB.out.1)))
 have HS12 : Hid (StF w12 S B pm pd mf md s A2 D2 Fm Fd l1) := Lib.hid ((HSA.out.below HB11.out).other HM12.out (fun k hk hh => by have h1 := HH.out.lt k hk; have h2 := List.mem_singleton.1 hh; have h3 := HCB.out.1; omega) (fun p hp j hj hh => HCN.out p hp j hj (List.mem_singleton.1 hh)))
 have HMF : Hid (mf < w.heap.size) := Lib.hid HH.out.map.lt
 have CP : Hid (∀ X, Below w12.heap.size w12 X → Calls Tryz.prog 129 #[.pointer (some ⟨S, 0, none⟩), .int .u32 (o : Int), .agg #[.int .i64 yk, .int .u64 (bb : Int), .slice aa m1 c1', .slice ab m2 c2']] X (PutP X S B pm pd mf md s A2 D2 Fm Fd l1 yn o yn.b)) := Lib.hid (fun X hX => by
  have h9 := sput_in (HS12.out.below hX) yn (.slice aa m1 c1') (.slice ab m2 c2') HYO.out (by rw [HLN.out.1]; exact Rd.of_own (ownsRow_below HO1.out hX)) (by rw [HLN.out.2]; exact Rd.of_own (ownsRow_below HO2.out hX)) o HPR.out.1 HPR.out.2.1 xx y HG.out HPR.out.2.2.2
  rw [show y.b = yn.b from HYB.out.symm, HYN.out.1, HYN.out.2] at h9
  rw [HYN.out.2]
  exact h9)
 clear hw12
 have HSS : Hid (∀ X, Mods [mf] w12 X → (X.cell? ⟨q, 0, none⟩ = some (.int .i64 yk) ∧ X.cell? ⟨q, 1, none⟩ = some (.int .u64 (bb : Int)) ∧ X.cell? ⟨q, 2, none⟩ = some (.slice aa m1 c1') ∧ X.cell? ⟨q, 3, none⟩ = some (.slice ab m2 c2') ∧ X.cell? ⟨cb, 0, none⟩ = some (.int .u32 (o : Int)) ∧ X.cell? ⟨cb, 1, none⟩ = some (.int .u32 0) ∧ X.cell? ⟨cb, 2, none⟩ = some (.int .u64 (fk : Int)) ∧ X.cell? ⟨cb, 3, none⟩ = some (.int .u64 0) ∧ X.cell? ⟨cb, 4, none⟩ = some (.int .u64 (ov : Int)) ∧ X.cell? ⟨cb, 5, none⟩ = some (.bool ohad)) ∧ Mods [mf] w12 X) := Lib.hid (fun X hb => ⟨⟨(World.cell?_of_block (hb.block _ ((Array.getElem?_eq_some_iff.1 HX12.out).1) (by have := HQ.out; have := HMF.out; simp; omega))).trans (cellOf HX12.out 0 rfl), (World.cell?_of_block (hb.block _ ((Array.getElem?_eq_some_iff.1 HX12.out).1) (by have := HQ.out; have := HMF.out; simp; omega))).trans (cellOf HX12.out 1 rfl), (World.cell?_of_block (hb.block _ ((Array.getElem?_eq_some_iff.1 HX12.out).1) (by have := HQ.out; have := HMF.out; simp; omega))).trans (cellOf HX12.out 2 rfl), (World.cell?_of_block (hb.block _ ((Array.getElem?_eq_some_iff.1 HX12.out).1) (by have := HQ.out; have := HMF.out; simp; omega))).trans (cellOf HX12.out 3 rfl), (World.cell?_of_block (hb.block _ ((Array.getElem?_eq_some_iff.1 HC12.out).1) (by have := HCB.out; have := HMF.out; simp; omega))).trans (cellOf HC12.out 0 rfl), (World.cell?_of_block (hb.block _ ((Array.getElem?_eq_some_iff.1 HC12.out).1) (by have := HCB.out; have := HMF.out; simp; omega))).trans (cellOf HC12.out 1 rfl), (World.cell?_of_block (hb.block _ ((Array.getElem?_eq_some_iff.1 HC12.out).1) (by have := HCB.out; have := HMF.out; simp; omega))).trans (cellOf HC12.out 2 rfl), (World.cell?_of_block (hb.block _ ((Array.getElem?_eq_some_iff.1 HC12.out).1) (by have := HCB.out; have := HMF.out; simp; omega))).trans (cellOf HC12.out 3 rfl), (World.cell?_of_block (hb.block _ ((Array.getElem?_eq_some_iff.1 HC12.out).1) (by have := HCB.out; have := HMF.out; simp; omega))).trans (cellOf HC12.out 4 rfl), (World.cell?_of_block (hb.block _ ((Array.getElem?_eq_some_iff.1 HC12.out).1) (by have := HCB.out; have := HMF.out; simp; omega))).trans (cellOf HC12.out 5 rfl)⟩, hb⟩)
 refine wp_region_late (S := fun X => (X.cell? ⟨q, 0, none⟩ = some (.int .i64 yk) ∧ X.cell? ⟨q, 1, none⟩ = some (.int .u64 (bb : Int)) ∧ X.cell? ⟨q, 2, none⟩ = some (.slice aa m1 c1') ∧ X.cell? ⟨q, 3, none⟩ = some (.slice ab m2 c2') ∧ X.cell? ⟨cb, 0, none⟩ = some (.int .u32 (o : Int)) ∧ X.cell? ⟨cb, 1, none⟩ = some (.int .u32 0) ∧ X.cell? ⟨cb, 2, none⟩ = some (.int .u64 (fk : Int)) ∧ X.cell? ⟨cb, 3, none⟩ = some (.int .u64 0) ∧ X.cell? ⟨cb, 4, none⟩ = some (.int .u64 (ov : Int)) ∧ X.cell? ⟨cb, 5, none⟩ = some (.bool ohad)) ∧ Mods [mf] w12 X) [5] (by kernel_rfl) (HSS.out _ (Mods.of_below (Below.refl _ _).drew)) (fun hHeld => ?_)
 have hbe : Below w12.heap.size w12 w12.drew := (Below.refl _ _).drew
 obtain ⟨wd, hwd⟩ : ∃ y, w12.drew = y := ⟨_, rfl⟩
 rw [hwd] at hHeld hbe ⊢
 have HBE := Lib.hid hbe
 have HS0 : Hid (w12.heap.size ≤ wd.heap.size) := Lib.hid HBE.out.size
 clear hwd hbe
 have HMD := Lib.hid (Mods.of_below (F := [mf]) HBE.out)
 refine wpAnyL_take [5, 6] (i := 0) (v := ?_) rfl (by kernel_rfl) (by kernel_rfl) (by kernel_rfl) (by kernel_rfl) (by kernel_rfl) (fun _ _ _ h => h) (Or.inl ⟨by rfl, ?_⟩) (by assumption) ?_
 rotate_left
 ·(intro w hSw; (try dsimp only at hSw); simp only [List.getElem_toArray, List.getElem_cons_zero, List.getElem_cons_succ]; go_simp; first | done | with_reducible rfl)
 simp only [List.getElem_toArray, List.getElem_cons_zero, List.getElem_cons_succ, Act.put, List.setIfInBounds_toArray, List.set_cons_zero, List.set_cons_succ]
 refine wpAnyL_take [4, 5, 6] (i := 1) (v := ?_) rfl (by kernel_rfl) (by kernel_rfl) (by kernel_rfl) (by kernel_rfl) (by kernel_rfl) (fun _ _ _ h => h) (Or.inl ⟨by rfl, ?_⟩) (by assumption) ?_
 rotate_left
 ·(intro w hSw; (try dsimp only at hSw); simp only [List.getElem_toArray, List.getElem_cons_zero, List.getElem_cons_succ]; go_simp; first | done | with_reducible rfl)
 simp only [List.getElem_toArray, List.getElem_cons_zero, List.getElem_cons_succ, Act.put, List.setIfInBounds_toArray, List.set_cons_zero, List.set_cons_succ]
 refine wpAnyL_take [4, 5, 6] (i := 2) (v := ?_) rfl (by kernel_rfl) (by kernel_rfl) (by kernel_rfl) (by kernel_rfl) (by kernel_rfl) (fun _ _ _ h => h) (Or.inl ⟨by rfl, ?_⟩) (by assumption) ?_
 rotate_left
 ·(intro w hSw; (try dsimp only at hSw); simp only [List.getElem_toArray, List.getElem_cons_zero, List.getElem_cons_succ]; go_simp; first | done | with_reducible rfl)
 simp only [List.getElem_toArray, List.getElem_cons_zero, List.getElem_cons_succ, Act.put, List.setIfInBounds_toArray, List.set_cons_zero, List.set_cons_succ]
 refine wpAnyL_take [4, 5, 6] (i := 3) (v := ?_) rfl (by kernel_rfl) (by kernel_rfl) (by kernel_rfl) (by kernel_rfl) (by kernel_rfl) (fun _ _ _ h => h) (Or.inl ⟨by rfl, ?_⟩) (by assumption) ?_
 rotate_left
 ·(intro w hSw; (try dsimp only at hSw); simp only [List.getElem_toArray, List.getElem_cons_zero, List.getElem_cons_succ]; go_simp; first | done | with_reducible rfl)
 simp only [List.getElem_toArray, List.getElem_cons_zero, List.getElem_cons_succ, Act.put, List.setIfInBounds_toArray, List.set_cons_zero, List.set_cons_succ]
 refine wpAnyL_ready (rs := [4]) (by kernel_rfl) (by simp) ?_
 refine AllReadyL.cons rfl (fun K hK => ?_) (AllReadyL.nil)
 simp only [List.getElem_toArray, List.getElem_cons_zero, List.getElem_cons_succ]
 go_simp
 refine (CP.out _ HBE.out).mono ?_
 rintro e w13 ⟨x2, rfl, hst, hms, hge⟩
 dsimp only
 refine hK.out _ _ ?_ (fun hHeld => ?_)
 ·exact HSS.out _ (HMD.out.trans hms (fun k hk => .inl hk))
 clear hK K
 try simp only [Act.put, List.setIfInBounds_toArray, List.set_cons_zero, List.set_cons_succ]
 have HCW := Lib.hid ((hms.block _ (Nat.lt_of_lt_of_le (Array.getElem?_eq_some_iff.1 HC12.out).1 HBE.out.size) (fun hh => by have := HMF.out; have := HCB.out; have := List.mem_singleton.1 hh; omega)).trans ((HBE.out.block _ (Array.getElem?_eq_some_iff.1 HC12.out).1).trans HC12.out))
 have HST := Lib.hid hst
 have HMS : Hid (Mods [mf] w12 w13) := Lib.hid ((Mods.of_below HBE.out).trans hms (fun k hk => .inl hk))
 have HGE : Hid (∀ k ∈ obN x2, w12.heap.size ≤ k) := Lib.hid (fun k hk => Nat.le_trans HBE.out.size (hge k hk))
 clear hst hms hge
 refine wpAnyL_ready (rs := [5]) (by kernel_rfl) (by simp) ?_
 refine AllReadyL.late rfl (by kernel_rfl) (fun K hK => ?_)
 clear hHeld
 have g0 := cellOf HCW.out 0 (v := .int .u32 (o : Int)) rfl
 have g1 := cellOf HCW.out 1 (v := .int .u32 0) rfl
 have g2 := cellOf HCW.out 2 (v := .int .u64 (fk : Int)) rfl
 have g3 := cellOf HCW.out 3 (v := .int .u64 0) rfl
 have g4 := cellOf HCW.out 4 (v := .int .u64 (ov : Int)) rfl
 have g5 := cellOf HCW.out 5 (v := .bool ohad) rfl
 have f0 := frozenOf HCW.out 0
 have f1 := frozenOf HCW.out 1
 have f2 := frozenOf HCW.out 2
 have f3 := frozenOf HCW.out 3
 have f4 := frozenOf HCW.out 4
 have f5 := frozenOf HCW.out 5
 simp only [List.getElem_toArray, List.getElem_cons_zero, List.getElem_cons_succ]
 go_simp
 refine hK.out _ _ ?_
 clear hK K
 try simp only [Act.put, List.setIfInBounds_toArray, List.set_cons_zero, List.set_cons_succ]
 clear g0 g1 g2 g3 g4 g5 f0 f1 f2 f3 f4 f5
 obtain ⟨z14, hz14⟩ : ∃ W, ((((((w13.setCell ⟨cb, 0, none⟩ (.int .u32 (o : Int))).setCell ⟨cb, 1, none⟩ (.int .u32 0)).setCell ⟨cb, 2, none⟩ (.int .u64 (fk : Int))).setCell ⟨cb, 3, none⟩ (.int .u64 0)).setCell ⟨cb, 4, none⟩ (.int .u64 (ov : Int))).setCell ⟨cb, 5, none⟩ (.bool ohad)) = W := ⟨_, rfl⟩
 rw [hz14]
 have HCE : Hid (z14.heap[cb]? = some (.cells #[.int .u32 (o : Int), .int .u32 0, .int .u64 (fk : Int), .int .u64 0, .int .u64 (ov : Int), .bool ohad] 167 (0, 0))) := Lib.hid (by rw [← hz14]; exact setOf (setOf (setOf (setOf (setOf (setOf HCW.out 0 _) 1 _) 2 _) 3 _) 4 _) 5 _)
 have HME : Hid (Mods [cb] w13 z14) := Lib.hid (by rw [← hz14]; exact (((((((Mods.refl _ _).setCell (p := ⟨cb, 0, none⟩) (by simp) _).setCell (p := ⟨cb, 1, none⟩) (by simp) _).setCell (p := ⟨cb, 2, none⟩) (by simp) _).setCell (p := ⟨cb, 3, none⟩) (by simp) _).setCell (p := ⟨cb, 4, none⟩) (by simp) _).setCell (p := ⟨cb, 5, none⟩) (by simp) _))
 clear hz14
 refine wpAnyL_ready (rs := [6]) (by kernel_rfl) (by simp) ?_
 refine AllReadyL.late rfl (by kernel_rfl) (fun K hK => ?_)
 simp only [List.getElem_toArray, List.getElem_cons_zero, List.getElem_cons_succ]
 go_simp
 refine hK.out _ _ ?_
 clear hK K
 try simp only [Act.put, List.setIfInBounds_toArray, List.set_cons_zero, List.set_cons_succ]
 refine wpAnyL_done (by kernel_rfl) ?_ _
 go_wp2_with fail
 refine bodyPost_ret (v := .tuple #[.agg #[.int .u32 (o : Int), .int .u32 0, .int .u64 (fk : Int), .int .u64 0, .int .u64 (ov : Int), .bool ohad], .int .i64 0]) ?_ rfl ⟨x2, ?_, ?_, ?_, ?_⟩
 ·rw [results_cell_tmp rfl]
  have r1 := run_loadVar_mid (P := Tryz.prog) z14 cb 0 167 [.int .u32 (o : Int), .int .u32 0, .int .u64 (fk : Int), .int .u64 0, .int .u64 (ov : Int), .bool ohad] _ (rangeOf HCE.out) Tryz.underlying167 rfl infoCh
  simp only [asAddr, Array.getD_eq_getD_getElem?, List.getElem?_toArray, List.getElem?_cons_succ, List.getElem?_cons_zero, Option.getD_some, Sem.run_pure, Result.andThen_ok, r1]
 ·rw [HFK.out]
 ·refine HSW.out z14 x2 (HST.out.other HME.out (fun k hk hh => ?_) (fun p hp k hk hh => ?_))
  ·have := HH.out.lt k hk
   have := List.mem_singleton.1 hh
   have := HCB.out.1
   omega
  ·have e := List.mem_singleton.1 hh
   have hcb := HCB.out
   rcases mem_putA hp with rfl | hp
   ·have h1 := HGE.out k hk
    have h4 := (Array.getElem?_eq_some_iff.1 HC12.out).1
    omega
   ·exact HCN.out p hp k hk e
 ·exact (HB12.out.trans HMS.out (fun k hk => .inl (by rw [List.mem_singleton.1 hk]; exact List.mem_cons_self ..))).trans HME.out (fun k hk => .inr (by rw [List.mem_singleton.1 hk]; exact HCB.out.1))
 ·exact fun k hk => Nat.le_trans HB12.out.size (HGE.out k hk)
end Go.Proofs.YtgmahhdnjikdjaaGreat
