import Derived.Test.YtgmahhdnjikdjaaGreatNG20
import Derived.Test.YtgmahhdnjikdjaaGreatNG17
import Derived.Test.YtgmahhdnjikdjaaGreatNG2
set_option linter.unusedVariables false
set_option linter.unusedSimpArgs false
/- store.Shadow of a fresh block that is named once, walked. -/
namespace Go.Proofs.YtgmahhdnjikdjaaGreat
open Go.RowKit Go.Maps Wire
set_option linter.unusedVariables false
set_option linter.unusedSimpArgs false
/-- What Shadow leaves. -/
def ShadP (w : World) (i : Nat) (y : Nd) (e : Ending) (w' : World) : Prop := ∃ x, e = .returned (.tuple #[.int .u32 (i : Int), ndA x, .int .i64 0]) ∧ NdAt w' w.heap.size x y ∧ Below w.heap.size w w'
/-- Shadow's three answers in memory. -/
structure Tri (w : World) (q1 q2 q3 : Nat) (a : Value) (L : Array Value) (c : Value) : Prop where
 h1 : w.heap[q1]? = some (.cells #[a] 22 (0, 0))
 h2 : w.heap[q2]? = some (.cells L 159 (0, 0))
 h3 : w.heap[q3]? = some (.cells #[c] 23 (0, 0))
 lt : q1 < q2 ∧ q2 < q3
theorem Tri.s1 {w : World} {q1 q2 q3 : Nat} {a c : Value} {L : Array Value} (h : Tri w q1 q2 q3 a L c) (a' : Value) : Tri (w.setCell ⟨q1, 0, none⟩ a') q1 q2 q3 a' L c :=
 ⟨setOf h.h1 0 a', (Below.heap_setCell w ⟨q1, 0, none⟩ _ q2 (by show q2 ≠ q1; have := h.lt; omega)).trans h.h2, (Below.heap_setCell w ⟨q1, 0, none⟩ _ q3 (by show q3 ≠ q1; have := h.lt; omega)).trans h.h3, h.lt⟩
theorem Tri.s3 {w : World} {q1 q2 q3 : Nat} {a c : Value} {L : Array Value} (h : Tri w q1 q2 q3 a L c) (c' : Value) : Tri (w.setCell ⟨q3, 0, none⟩ c') q1 q2 q3 a L c' :=
 ⟨(Below.heap_setCell w ⟨q3, 0, none⟩ _ q1 (by show q1 ≠ q3; have := h.lt; omega)).trans h.h1, (Below.heap_setCell w ⟨q3, 0, none⟩ _ q2 (by show q2 ≠ q3; have := h.lt; omega)).trans h.h2, setOf h.h3 0 c', h.lt⟩
theorem Tri.s2 {w : World} {q1 q2 q3 : Nat} {a c u0 u1 u2 u3 : Value} (h : Tri w q1 q2 q3 a #[u0, u1, u2, u3] c) (v0 v1 v2 v3 : Value) : Tri ((((w.setCell ⟨q2, 0, none⟩ v0).setCell ⟨q2, 1, none⟩ v1).setCell ⟨q2, 2, none⟩ v2).setCell ⟨q2, 3, none⟩ v3) q1 q2 q3 a #[v0, v1, v2, v3] c := by
 have hm : Mods [q2] w ((((w.setCell ⟨q2, 0, none⟩ v0).setCell ⟨q2, 1, none⟩ v1).setCell ⟨q2, 2, none⟩ v2).setCell ⟨q2, 3, none⟩ v3) := ((((Mods.refl _ w).setCell (p := ⟨q2, 0, none⟩) (List.mem_singleton.2 rfl) _).setCell (p := ⟨q2, 1, none⟩) (List.mem_singleton.2 rfl) _).setCell (p := ⟨q2, 2, none⟩) (List.mem_singleton.2 rfl) _).setCell (p := ⟨q2, 3, none⟩) (List.mem_singleton.2 rfl) _
 have hl := h.lt
 exact ⟨(hm.block _ (Array.getElem?_eq_some_iff.1 h.h1).1 (by simp; omega)).trans h.h1, setOf (setOf (setOf (setOf h.h2 0 v0) 1 v1) 2 v2) 3 v3, (hm.block _ (Array.getElem?_eq_some_iff.1 h.h3).1 (by simp; omega)).trans h.h3, h.lt⟩
set_option maxRecDepth 100000 in
set_option maxHeartbeats 6400000 in
theorem sshad_in {w : World} {S B pm pd mf md : Nat} {s : Su} {A D : M} {Fm Fd : List Nat} {l : List (Nat × (NdV × Nd))} (h : StF w S B pm pd mf md s A D Fm Fd l) (i : Nat) (h0 : i ≠ 0) (hi9 : i < A.now.length) (hc : ctN A.now i = 1) (x : NdV) (y : Nd) (hg : getA i l = some (x, y)) (hy : y.keys.length ≤ 1000) (hv : y.vals.length ≤ 1000) :
  Calls Tryz.prog 125 #[.pointer (some ⟨S, 0, none⟩), .int .u32 (i : Int)] w (ShadP w i y) := by
 have hm9 := h.st.mok.max
 obtain ⟨w1, hw1⟩ : ∃ W, w.alloc (.cells #[.pointer (some ⟨S, 0, none⟩)] 37) = W := ⟨_, rfl⟩
 have hb1 : Below w.heap.size w w1 := by rw [← hw1]; exact balloc (Below.refl _ _) _
 have hx1 : w1.heap[w.heap.size]? = some (.cells #[.pointer (some ⟨S, 0, none⟩)] 37 (0, 0)) := by rw [← hw1]; exact heap_alloc_new _ _
 obtain ⟨w2, hw2⟩ : ∃ W, w1.alloc (.cells #[.int .u32 0] 22) = W := ⟨_, rfl⟩
 have hb2 : Below w1.heap.size w1 w2 := by rw [← hw2]; exact balloc (Below.refl _ _) _
 have hx2 : w2.heap[w1.heap.size]? = some (.cells #[.int .u32 0] 22 (0, 0)) := by rw [← hw2]; exact heap_alloc_new _ _
 obtain ⟨w3, hw3⟩ : ∃ W, w2.alloc (.cells #[.int .i64 0, .int .u64 0, .slice none 0 0, .slice none 0 0] 159) = W := ⟨_, rfl⟩
 have hb3 : Below w2.heap.size w2 w3 := by rw [← hw3]; exact balloc (Below.refl _ _) _
 have hx3 : w3.heap[w2.heap.size]? = some (.cells ndZ.toArray 159 (0, 0)) := by rw [← hw3]; exact heap_alloc_new _ _
 obtain ⟨w4, hw4⟩ : ∃ W, w3.alloc (.cells #[.int .i64 0] 23) = W := ⟨_, rfl⟩
 have hb4 : Below w3.heap.size w3 w4 := by rw [← hw4]; exact balloc (Below.refl _ _) _
 have hx4 : w4.heap[w3.heap.size]? = some (.cells #[.int .i64 0] 23 (0, 0)) := by rw [← hw4]; exact heap_alloc_new _ _
 obtain ⟨q1, hq1⟩ : ∃ q, w1.heap.size = q := ⟨_, rfl⟩
 obtain ⟨q2, hq2⟩ : ∃ q, w2.heap.size = q := ⟨_, rfl⟩
 obtain ⟨q3, hq3⟩ : ∃ q, w3.heap.size = q := ⟨_, rfl⟩
 have l1 := (Array.getElem?_eq_some_iff.1 hx1).1
 have l2 := (Array.getElem?_eq_some_iff.1 hx2).1
 have l3 := (Array.getElem?_eq_some_iff.1 hx3).1
 have l4 := (Array.getElem?_eq_some_iff.1 hx4).1
 rw [hq1] at hx2 l1 l2
 rw [hq2] at hx3 l2 l3
 rw [hq3] at hx4 l3 l4
 have HL := Lib.hid (And.intro l1 (And.intro l2 (And.intro l3 l4)))
 have hx4a : w4.heap[w.heap.size]? = some (.cells #[.pointer (some ⟨S, 0, none⟩)] 37 (0, 0)) := ((bthn hb2 (bthn hb3 hb4)).block _ (by omega)).trans hx1
 have hx4b : w4.heap[q1]? = some (.cells #[.int .u32 0] 22 (0, 0)) := ((bthn hb3 hb4).block _ (by omega)).trans hx2
 have hx4c : w4.heap[q2]? = some (.cells ndZ.toArray 159 (0, 0)) := (hb4.block _ (by omega)).trans hx3
 have HBB := Lib.hid (bthn hb1 (bthn hb2 (bthn hb3 hb4)))
 have h4 := h.below HBB.out
 have CI := sis_at h4.st i h0 hi9 (by rw [hc]; decide)
 have CN := snode_in h4 i h0 hi9 (by rw [hc]; decide) x y hg hy hv
 have ca := cellOf hx4a 0 rfl
 have HXA := Lib.hid hx4a
 have HXB := Lib.hid hx4b
 have HXC := Lib.hid hx4c
 have HXD := Lib.hid hx4
 have H4 := Lib.hid h4
 have HG := Lib.hid hg
 have HI32 : Hid (i < 4294967296) := Lib.hid (by omega)
 have HC := Lib.hid hc
 have HI9 := Lib.hid hi9
 clear hb1 hx1 hb2 hx2 hb3 hx3 hb4 hx4 hx4a hx4b hx4c l1 l2 l3 l4 h h4 hg hc hi9
 go_enter Tryz.func125, Tryz.ntmps125
 go_wp2_with fail
 (try rw [hw1, hq1])
 (try rw [hw2, hq2])
 (try rw [hw3, hq3])
 (try rw [hw4])
 clear hw1 hw2 hw3 hw4 hq1 hq2 hq3
 refine CI.mono ?_
 rintro e w5 ⟨rfl, rfl⟩
 clear CI
 go_wp2_with fail
 refine CN.mono ?_
 rintro e w5 ⟨x1, rfl, hnd, hb5⟩
 have HN5 := Lib.hid hnd
 have HB5 := Lib.hid hb5
 have ca5 := cellOf ((HB5.out.block _ (Array.getElem?_eq_some_iff.1 HXA.out).1).trans HXA.out) 0 (v := .pointer (some ⟨S, 0, none⟩)) rfl
 obtain ⟨a3, a4, e1, e2, e3⟩ := ndA_eq x1
 rw [e1]
 have HE := Lib.hid e1
 obtain ⟨k1, hk1⟩ : ∃ z, x1.k = z := ⟨_, rfl⟩
 obtain ⟨b1, hb1⟩ : ∃ z, x1.b = z := ⟨_, rfl⟩
 obtain ⟨n1, hn1⟩ : ∃ z, x1.n1 = z := ⟨_, rfl⟩
 obtain ⟨c1, hc1⟩ : ∃ z, x1.c1 = z := ⟨_, rfl⟩
 obtain ⟨n2, hn2⟩ : ∃ z, x1.n2 = z := ⟨_, rfl⟩
 obtain ⟨c2, hc2⟩ : ∃ z, x1.c2 = z := ⟨_, rfl⟩
 rw [hk1, hb1, hn1, hc1, hn2, hc2] at HE ⊢
 clear CN ca hnd hb5 e1 e2 e3 hk1 hb1 hn1 hc1 hn2 hc2
 dsimp only
 go_upto_region 7 with fail
 obtain ⟨w6, hw6⟩ : ∃ W, w5.alloc (.cells #[.int .i64 k1, .int .u64 (b1 : Int), .slice a3 n1 c1, .slice a4 n2 c2] 159) = W := ⟨_, rfl⟩
 rw [hw6]
 have hb6 : Below w5.heap.size w5 w6 := by rw [← hw6]; exact balloc (Below.refl _ _) _
 have hx6 : w6.heap[w5.heap.size]? = some (.cells #[.int .i64 k1, .int .u64 (b1 : Int), .slice a3 n1 c1, .slice a4 n2 c2] 159 (0, 0)) := by rw [← hw6]; exact heap_alloc_new _ _
 obtain ⟨p, hp⟩ : ∃ q, w5.heap.size = q := ⟨_, rfl⟩
 rw [hp] at hx6
 rw [hp]
 have HP : Hid (q3 < p) := Lib.hid (by rw [← hp]; exact Nat.lt_of_lt_of_le HL.out.2.2.2 HB5.out.size)
 have HX6 := Lib.hid hx6
 have HB46 : Hid (Below w4.heap.size w4 w6) := Lib.hid (bthn HB5.out hb6)
 have HN6 : Hid (NdAt w6 w4.heap.size x1 y) := Lib.hid (HN5.out.below hb6)
 have ca6 := cellOf ((HB46.out.block _ (Array.getElem?_eq_some_iff.1 HXA.out).1).trans HXA.out) 0 (v := .pointer (some ⟨S, 0, none⟩)) rfl
 have h6 := H4.out.below HB46.out
 have hl := (h6.look HI32.out HG.out).1
 have c22 := cellOf h6.st.box 22 (v := .map (some mf)) rfl
 obtain ⟨a5, a6, e1, e2, e3⟩ := ndA_eq x
 rw [e1] at hl
 clear e1 e2 e3
 obtain ⟨k0, hk0⟩ : ∃ z, x.k = z := ⟨_, rfl⟩
 obtain ⟨tx, htx⟩ : ∃ z, x.b = z := ⟨_, rfl⟩
 obtain ⟨n5, hn5⟩ : ∃ z, x.n1 = z := ⟨_, rfl⟩
 obtain ⟨c5, hc5⟩ : ∃ z, x.c1 = z := ⟨_, rfl⟩
 obtain ⟨n6, hn6⟩ : ∃ z, x.n2 = z := ⟨_, rfl⟩
 obtain ⟨c6, hc6⟩ : ∃ z, x.c2 = z := ⟨_, rfl⟩
 rw [hk0, htx, hn5, hc5, hn6, hc6] at hl
 clear hk0 htx hn5 hc5 hn6 hc6 hw6 hb6 hx6 hp h6 ca5
 go_upto_region 8 with fail
 obtain ⟨w7, hw7⟩ : ∃ W, w6.alloc (.cells #[.int .i64 k0, .int .u64 (tx : Int), .slice a5 n5 c5, .slice a6 n6 c6] 159) = W := ⟨_, rfl⟩
 rw [hw7]
 have hb7 : Below w6.heap.size w6 w7 := by rw [← hw7]; exact balloc (Below.refl _ _) _
 have HB7 := Lib.hid hb7
 have HB47 : Hid (Below w4.heap.size w4 w7) := Lib.hid (bthn HB46.out hb7)
 have CC := count_in (H4.out.below HB47.out).st.ma H4.out.st.mok i HI9.out
 rw [HC.out] at CC
 unfold pt at CC
 have c20 := cellOf (H4.out.below HB47.out).st.box 20 (v := .pointer (some ⟨pm, 0, none⟩)) rfl
 have ca7 := cellOf ((HB47.out.block _ (Array.getElem?_eq_some_iff.1 HXA.out).1).trans HXA.out) 0 (v := .pointer (some ⟨S, 0, none⟩)) rfl
 have hn4 : (i : Int) < 4294967296 := by have := HI32.out; omega
 have HX7 := Lib.hid ((hb7.block _ (Array.getElem?_eq_some_iff.1 HX6.out).1).trans HX6.out)
 clear hw7 hb7 hl c22 ca6
 go_wp2_with fail
 refine CC.mono ?_
 rintro e w8 ⟨rfl, rfl⟩
 clear CC
 go_wp2_with fail
 clear ca7 c20
 have HT7 : Hid (Tri w8 q1 q2 q3 (.int .u32 0) ndZ.toArray (.int .i64 0)) := Lib.hid ⟨(HB47.out.block _ (Array.getElem?_eq_some_iff.1 HXB.out).1).trans HXB.out, (HB47.out.block _ (Array.getElem?_eq_some_iff.1 HXC.out).1).trans HXC.out, (HB47.out.block _ (Array.getElem?_eq_some_iff.1 HXD.out).1).trans HXD.out, HL.out.2.1, HL.out.2.2.1⟩
 have HPL := Lib.hid (Array.getElem?_eq_some_iff.1 HX7.out).1
 have HPN : Hid (p ∉ [q1, q2, q3]) := Lib.hid (by have h1 := HP.out; have h2 := HL.out; simp; omega)
 have HSS : Hid (∀ X, Mods [q1, q2, q3] w8 X → (X.cell? ⟨p, 0, none⟩ = some (.int .i64 k1) ∧ X.cell? ⟨p, 1, none⟩ = some (.int .u64 (b1 : Int)) ∧ X.cell? ⟨p, 2, none⟩ = some (.slice a3 n1 c1) ∧ X.cell? ⟨p, 3, none⟩ = some (.slice a4 n2 c2)) ∧ Mods [q1, q2, q3] w8 X) := Lib.hid (fun X hb => ⟨⟨(World.cell?_of_block (hb.block _ (HPL.out) (HPN.out))).trans (cellOf HX7.out 0 rfl), (World.cell?_of_block (hb.block _ (HPL.out) (HPN.out))).trans (cellOf HX7.out 1 rfl), (World.cell?_of_block (hb.block _ (HPL.out) (HPN.out))).trans (cellOf HX7.out 2 rfl), (World.cell?_of_block (hb.block _ (HPL.out) (HPN.out))).trans (cellOf HX7.out 3 rfl)⟩, hb⟩)
 refine wp_region_held_drew (S := fun X => (X.cell? ⟨p, 0, none⟩ = some (.int .i64 k1) ∧ X.cell? ⟨p, 1, none⟩ = some (.int .u64 (b1 : Int)) ∧ X.cell? ⟨p, 2, none⟩ = some (.slice a3 n1 c1) ∧ X.cell? ⟨p, 3, none⟩ = some (.slice a4 n2 c2)) ∧ Mods [q1, q2, q3] w8 X) (by kernel_rfl) (HSS.out _ (Mods.of_below (Below.refl _ _).drew)) (fun hHeld => ?_)
 have hbe : Below w8.heap.size w8 w8.drew := (Below.refl _ _).drew
 obtain ⟨wd, hwd⟩ : ∃ y, w8.drew = y := ⟨_, rfl⟩
 rw [hwd] at hHeld hbe ⊢
 have HBE := Lib.hid hbe
 have HS0 : Hid (w8.heap.size ≤ wd.heap.size) := Lib.hid HBE.out.size
 clear hwd hbe
 have HMQ := Lib.hid (Mods.of_below (F := [q1, q2, q3]) HBE.out)
 have HTR : Hid (Tri wd q1 q2 q3 (.int .u32 0) #[.int .i64 0, .int .u64 0, .slice none 0 0, .slice none 0 0] (.int .i64 0)) := Lib.hid ⟨(HBE.out.block _ (Array.getElem?_eq_some_iff.1 HT7.out.h1).1).trans HT7.out.h1, (HBE.out.block _ (Array.getElem?_eq_some_iff.1 HT7.out.h2).1).trans HT7.out.h2, (HBE.out.block _ (Array.getElem?_eq_some_iff.1 HT7.out.h3).1).trans HT7.out.h3, HT7.out.lt⟩
 refine wpAnyH_take (i := 0) (v := ?_) rfl (by kernel_rfl) (by kernel_rfl) (by kernel_rfl) (fun _ _ _ h => h) (Or.inl ⟨by rfl, ?_⟩) (by assumption) ?_
 rotate_left
 ·(intro w hSw; (try dsimp only at hSw); simp only [List.getElem_toArray, List.getElem_cons_zero, List.getElem_cons_succ]; go_simp; first | done | with_reducible rfl)
 simp only [List.getElem_toArray, List.getElem_cons_zero, List.getElem_cons_succ, Act.put, List.setIfInBounds_toArray, List.set_cons_zero, List.set_cons_succ]
 refine wpAnyH_take (i := 1) (v := ?_) rfl (by kernel_rfl) (by kernel_rfl) (by kernel_rfl) (fun _ _ _ h => h) (Or.inl ⟨by rfl, ?_⟩) (by assumption) ?_
 rotate_left
 ·(intro w hSw; (try dsimp only at hSw); simp only [List.getElem_toArray, List.getElem_cons_zero, List.getElem_cons_succ]; go_simp; first | done | with_reducible rfl)
 simp only [List.getElem_toArray, List.getElem_cons_zero, List.getElem_cons_succ, Act.put, List.setIfInBounds_toArray, List.set_cons_zero, List.set_cons_succ]
 refine wpAnyH_ready (rs := [2]) (by kernel_rfl) (by simp) ?_
 refine AllReadyH.cons rfl (fun K hK => ?_) (AllReadyH.nil)
 have hcb := cellOf HTR.out.h1 0 (v := .int .u32 0) rfl
 have hfb := frozenOf HTR.out.h1 0
 simp only [List.getElem_toArray, List.getElem_cons_zero, List.getElem_cons_succ]
 go_simp
 refine hK.out _ _ ?_ (fun hHeld => ?_)
 ·exact HSS.out _ (HMQ.out.setCell (p := ⟨q1, 0, none⟩) (by simp) _)
 clear hK K
 try simp only [Act.put, List.setIfInBounds_toArray, List.set_cons_zero, List.set_cons_succ]
 clear hcb hfb
 have HTR := Lib.hid (HTR.out.s1 (.int .u32 (i : Int)))
 have HMQ := Lib.hid (HMQ.out.setCell (p := ⟨q1, 0, none⟩) (by simp) (.int .u32 (i : Int)))
 obtain ⟨z2, hz2⟩ : ∃ W, wd.setCell ⟨q1, 0, none⟩ (.int .u32 (i : Int)) = W := ⟨_, rfl⟩
 rw [hz2] at HTR HMQ hHeld ⊢
 clear hz2
 refine wpAnyH_ready (rs := [3]) (by kernel_rfl) (by simp) ?_
 refine AllReadyH.cons rfl (fun K hK => ?_) (AllReadyH.nil)
 have g0 := cellOf HTR.out.h2 0 rfl
 have g1 := cellOf HTR.out.h2 1 rfl
 have g2 := cellOf HTR.out.h2 2 rfl
 have g3 := cellOf HTR.out.h2 3 rfl
 have f0 := frozenOf HTR.out.h2 0
 have f1 := frozenOf HTR.out.h2 1
 have f2 := frozenOf HTR.out.h2 2
 have f3 := frozenOf HTR.out.h2 3
 simp only [List.getElem_toArray, List.getElem_cons_zero, List.getElem_cons_succ]
 go_simp
 refine hK.out _ _ ?_ (fun hHeld => ?_)
 ·exact HSS.out _ ((((HMQ.out.setCell (p := ⟨q2, 0, none⟩) (by simp) _).setCell (p := ⟨q2, 1, none⟩) (by simp) _).setCell (p := ⟨q2, 2, none⟩) (by simp) _).setCell (p := ⟨q2, 3, none⟩) (by simp) _)
 clear hK K
 try simp only [Act.put, List.setIfInBounds_toArray, List.set_cons_zero, List.set_cons_succ]
 clear g0 g1 g2 g3 f0 f1 f2 f3
 have HTR := Lib.hid (HTR.out.s2 (.int .i64 k1) (.int .u64 (b1 : Int)) (.slice a3 n1 c1) (.slice a4 n2 c2))
 have HMQ := Lib.hid ((((HMQ.out.setCell (p := ⟨q2, 0, none⟩) (by simp) (.int .i64 k1)).setCell (p := ⟨q2, 1, none⟩) (by simp) (.int .u64 (b1 : Int))).setCell (p := ⟨q2, 2, none⟩) (by simp) (.slice a3 n1 c1)).setCell (p := ⟨q2, 3, none⟩) (by simp) (.slice a4 n2 c2))
 obtain ⟨z3, hz3⟩ : ∃ W, (((z2.setCell ⟨q2, 0, none⟩ (.int .i64 k1)).setCell ⟨q2, 1, none⟩ (.int .u64 (b1 : Int))).setCell ⟨q2, 2, none⟩ (.slice a3 n1 c1)).setCell ⟨q2, 3, none⟩ (.slice a4 n2 c2) = W := ⟨_, rfl⟩
 rw [hz3] at HTR HMQ hHeld ⊢
 clear hz3
 refine wpAnyH_ready (rs := [4]) (by kernel_rfl) (by simp) ?_
 refine AllReadyH.cons rfl (fun K hK => ?_) (AllReadyH.nil)
 have hcb := cellOf HTR.out.h3 0 (v := .int .i64 0) rfl
 have hfb := frozenOf HTR.out.h3 0
 simp only [List.getElem_toArray, List.getElem_cons_zero, List.getElem_cons_succ]
 go_simp
 refine hK.out _ _ ?_ (fun hHeld => ?_)
 ·exact HSS.out _ (HMQ.out.setCell (p := ⟨q3, 0, none⟩) (by simp) _)
 clear hK K
 try simp only [Act.put, List.setIfInBounds_toArray, List.set_cons_zero, List.set_cons_succ]
 clear hcb hfb
 have HTR := Lib.hid (HTR.out.s3 (.int .i64 0))
 have HMQ := Lib.hid (HMQ.out.setCell (p := ⟨q3, 0, none⟩) (by simp) (.int .i64 0))
 obtain ⟨z4, hz4⟩ : ∃ W, z3.setCell ⟨q3, 0, none⟩ (.int .i64 0) = W := ⟨_, rfl⟩
 rw [hz4] at HTR HMQ hHeld ⊢
 clear hz4
 refine wpAnyH_done (by kernel_rfl) ?_ _
 have HEND := Lib.hid hHeld.2
 have HSE := Lib.hid hHeld.1
 clear hHeld
 clear HSS HSE HEND
 go_wp2_with fail
 have h8 := HN6.out.below HB7.out
 have hl := HL.out
 have hb8 := bthn HBB.out HB47.out
 refine bodyPost_ret (v := .tuple #[.int .u32 (i : Int), .agg #[.int .i64 k1, .int .u64 (b1 : Int), .slice a3 n1 c1, .slice a4 n2 c2], .int .i64 0]) ?_ rfl ⟨x1, by rw [HE.out], ?_, ?_⟩
 ·rw [ret_eq3 rfl]
  have r1 := lv_one agg24 (cellOf HTR.out.h1 0 (v := .int .u32 (i : Int)) rfl)
  have r2 := run_loadVar_mid (P := Tryz.prog) _ q2 0 159 [.int .i64 k1, .int .u64 (b1 : Int), .slice a3 n1 c1, .slice a4 n2 c2] _ (rangeOf HTR.out.h2) Tryz.underlying159 rfl infoNd
  have r3 := lv_one agg41 (cellOf HTR.out.h3 0 (v := .int .i64 0) rfl)
  simp only [asAddr, Array.getD_eq_getD_getElem?, List.getElem?_toArray, List.getElem?_cons_succ, List.getElem?_cons_zero, Option.getD_some, Sem.run_pure, Result.andThen_ok, r1, r2, r3]
 ·exact (h8.at_ (fun j hj => HMQ.out.block j (h8.lt j hj) (fun hh => by have h9 := h8.ge j hj; simp at hh; omega))).base HBB.out.size
 ·exact hb8.trans (HMQ.out.below (fun k hk => by simp at hk; omega) hb8.size)
end Go.Proofs.YtgmahhdnjikdjaaGreat
/- check: there, walk (of a store without trees), none, Names, Room, walked. -/
namespace Go.Proofs.YtgmahhdnjikdjaaGreat
open Go.RowKit Wire
set_option linter.unusedVariables false
set_option linter.unusedSimpArgs false
theorem stC_mid (B : Nat) (s : Su) (pm pd mf md : Nat) (bk : Bool) {j : Nat} {u : Value} (h : (suL s)[j]? = some u) : (stC B s pm pd mf md bk)[1 + j]? = some u := by
 have hj19 : j < 19 := (List.getElem?_eq_some_iff.1 h).1
 rcases (show j = 0 ∨ j = 1 ∨ j = 2 ∨ j = 3 ∨ j = 4 ∨ j = 5 ∨ j = 6 ∨ j = 7 ∨ j = 8 ∨ j = 9 ∨ j = 10 ∨ j = 11 ∨ j = 12 ∨ j = 13 ∨ j = 14 ∨ j = 15 ∨ j = 16 ∨ j = 17 ∨ j = 18 by omega) with rfl | rfl | rfl | rfl | rfl | rfl | rfl | rfl | rfl | rfl | rfl | rfl | rfl | rfl | rfl | rfl | rfl | rfl | rfl <;> exact h
theorem StB.sup {w : World} {S B pm pd mf md : Nat} {s : Su} {A D : M} {Fm Fd : List Nat} {bk : Bool} (h : StB w S B pm pd mf md s A D Fm Fd bk) : w.rangeAt S 1 (suL s) := fun j u hj => cellOf h.box (1 + j) (stC_mid B s pm pd mf md bk hj)
set_option maxRecDepth 100000 in
set_option maxHeartbeats 6400000 in
theorem ssuper_at {w : World} {S B pm pd mf md : Nat} {s : Su} {A D : M} {Fm Fd : List Nat} {bk : Bool} (h : StB w S B pm pd mf md s A D Fm Fd bk) : Calls Tryz.prog 44 #[.pointer (some ⟨S, 0, none⟩)] w fun e w' => e = .returned (suV s) ∧ Below w.heap.size w w' := by
 have HR : Hid (∀ X, Below w.heap.size w X → X.rangeAt S 1 (suL s)) := Lib.hid (fun X hX => (h.below hX).sup)
 rw [suL_v]
 obtain ⟨SL, hSL⟩ : ∃ L, suL s = L := ⟨_, rfl⟩
 have HS19 : Hid (SL.length = 19) := Lib.hid (by rw [← hSL]; rfl)
 have HS1 : Hid (∀ u ∈ SL, u.oneCell' = true) := Lib.hid (by rw [← hSL]; exact suL_one s)
 rw [hSL] at HR ⊢
 have hss : SL.toArray.size = 19 := by rw [List.size_toArray, HS19.out]
 have HIS : Hid ((Tryz.prog.info? 72).map (·.size) = some SL.length) := Lib.hid (by rw [HS19.out]; exact infoSup)
 clear h hSL
 go_enter Tryz.func44, Tryz.ntmps44
 go_upto_region 3 with fail
 apply wp_region_lit
 repeat (first
  | (refine wpList_load_mid rfl 72 _ rfl S 1 rfl SL _ (HR.out _ (balloc (Below.refl _ _) _)) Tryz.underlying72 rfl HIS.out ?_)
  | (refine wpList_store_mid rfl 72 _ _ rfl w.heap.size 0 SL.toArray rfl rfl (thereOf (heap_alloc_new w _) (by rw [hss]; simp)) (by rw [hss]; exact infoSup) (Array.all_eq_true_iff_forall_mem.2 (fun v hv => HS1.out v (by simpa using hv))) ?_)
  | go_step)
 refine bodyPost_ret (v := .agg SL.toArray) (res_one_sup rfl _ _ w.heap.size SL rfl (World.rangeAt_setCells_same _ _ _ _ (thereOf (heap_alloc_new w _) (by rw [HS19.out]; simp))) HIS.out) rfl ⟨rfl, ?_⟩
 exact belowSets (Nat.le_refl _) _ _ _ (balloc (Below.refl _ _) _)
set_option maxRecDepth 100000 in
set_option maxHeartbeats 3200000 in
theorem sbroken_at {w : World} {S B pm pd mf md : Nat} {s : Su} {A D : M} {Fm Fd : List Nat} {bk : Bool} (h : StB w S B pm pd mf md s A D Fm Fd bk) : Calls Tryz.prog 72 #[.pointer (some ⟨S, 0, none⟩)] w fun e w' => e = .returned (.bool bk) ∧ w = w' := by
 have c0 := cellOf h.box 24 (v := .bool bk) rfl
 clear h
 go_enter Tryz.func72, Tryz.ntmps72
 go_wp2_with fail
 go_ret
 exact ⟨rfl, rfl⟩
/-- Numbers in a block. -/
def iV (l : List Nat) : List Value := l.map fun c => .int .i64 ((c : Nat) : Int)
def BoxI (w : World) (q : Nat) (l : List Nat) : Prop := w.heap[q]? = some (.cells (iV l).toArray 3 (0, 0))
theorem iV_get {l : List Nat} {j c : Nat} (h : l[j]? = some c) : (iV l)[j]? = some (.int .i64 (c : Int)) := by simp [iV, h]
theorem BoxI.cell {w : World} {q : Nat} {l : List Nat} (h : BoxI w q l) {j c : Nat} (hj : l[j]? = some c) : w.cell? ⟨q, j, none⟩ = some (.int .i64 (c : Int)) ∧ w.frozen? ⟨q, j, none⟩ = false :=
 ⟨cellOf h j (by rw [List.getElem?_toArray]; exact iV_get hj), frozenOf h j⟩
theorem BoxI.set {w : World} {q : Nat} {l : List Nat} (h : BoxI w q l) (j c : Nat) : BoxI (w.setCell ⟨q, j, none⟩ (.int .i64 (c : Int))) q (l.set j c) := by
 have h1 := setOf h j (.int .i64 (c : Int))
 unfold BoxI
 rw [h1]
 congr 2
 apply Array.toList_inj.1
 simp [iV, List.map_set]
/-- What walk has made. -/
def NmAt (w : World) (q gm gd mp m k : Nat) (lm ld : List Nat) : Prop := w.heap[q]? = some (.cells #[.slice (some ⟨gm, 0, none⟩) m m, .slice (some ⟨gd, 0, none⟩) k k, .map (some mp), .slice none 0 0] 327 (0, 0)) ∧ BoxI w gm lm ∧ BoxI w gd ld ∧ gm ≠ gd
theorem NmAt.below {w w' : World} {q gm gd mp m k : Nat} {lm ld : List Nat} (h : NmAt w q gm gd mp m k lm ld) (hb : Below w.heap.size w w') : NmAt w' q gm gd mp m k lm ld :=
 ⟨(hb.block _ (Array.getElem?_eq_some_iff.1 h.1).1).trans h.1, (hb.block _ (Array.getElem?_eq_some_iff.1 h.2.1).1).trans h.2.1, (hb.block _ (Array.getElem?_eq_some_iff.1 h.2.2.1).1).trans h.2.2.1, h.2.2.2⟩
end Go.Proofs.YtgmahhdnjikdjaaGreat
/- btree.may, walked. -/
namespace Go.Proofs.YtgmahhdnjikdjaaGreat
open Go.RowKit Go.Maps Wire
set_option linter.unusedVariables false
set_option linter.unusedSimpArgs false
set_option maxRecDepth 100000 in
set_option maxHeartbeats 6400000 in
theorem tmay_in {w : World} {S B pm pd mf md : Nat} {s : Su} {A D : M} {Fm Fd : List Nat} (h : StB w S B pm pd mf md s A D Fm Fd false) (n : Nat) (hn : n < A.now.length) : Calls Tryz.prog 73 #[.pointer (some ⟨S, 0, none⟩), .int .u32 (n : Int)] w fun e w' => e = .returned (.int .i64 0) ∧ Below w.heap.size w w' := by
 have CS := ssuper_at h
 have CB : Hid (∀ X, Below w.heap.size w X → Calls Tryz.prog 72 #[.pointer (some ⟨S, 0, none⟩)] X fun e w' => e = .returned (.bool false) ∧ X = w') := Lib.hid (fun X hX => sbroken_at (h.below hX))
 have hm9 := h.mok.max
 have hmt := h.ml
 rw [suL_v] at CS
 obtain ⟨SL, hSL⟩ : ∃ L, suL s = L := ⟨_, rfl⟩
 have HMT : Hid (SL[1]? = some (.int .i64 s.mt)) := Lib.hid (by rw [← hSL]; rfl)
 have HS19 : Hid (SL.length = 19) := Lib.hid (by rw [← hSL]; rfl)
 have HS1 : Hid (SL.toArray.all (·.oneCell') = true) := Lib.hid (by rw [← hSL]; exact Array.all_eq_true_iff_forall_mem.2 (fun v hv => suL_one s v (by simpa using hv)))
 have hss : SL.toArray.size = 19 := by rw [List.size_toArray, HS19.out]
 rw [hSL] at CS
 obtain ⟨mt, hm⟩ : ∃ x, s.mt = x := ⟨_, rfl⟩
 rw [hm] at HMT hmt
 have hn4 : (n : Int) < 4294967296 := by omega
 have hz : (mt == 0) = false := by simp; omega
 have hn1 : decide (mt ≤ (n : Int)) = false := by simp; omega
 clear h hSL hm hmt
 go_enter Tryz.func73, Tryz.ntmps73
 go_wp2_with fail
 refine CS.mono ?_
 rintro e w2 ⟨rfl, hb2⟩
 have HB2 := Lib.hid hb2
 clear CS hb2
 dsimp only
 repeat (first
  | (refine wpList_store_mid rfl 72 _ _ rfl w2.heap.size 0 SL.toArray rfl rfl (thereOf (heap_alloc_new w2 _) (by rw [hss]; simp)) (by rw [hss]; exact infoSup) HS1.out ?_; refine Hid.out ?_)
  | go_step)
 refine Lib.hid ?_
 obtain ⟨w4, hw4⟩ : ∃ W, (w2.alloc (.cells #[.int .u64 0, .int .i64 0, .int .i64 0, .int .u32 0, .int .u32 0, .int .u32 0, .int .u32 0, .int .u32 0, .int .u32 0, .int .u32 0, .int .u32 0, .int .u32 0, .int .i64 0, .int .u64 0, .int .u64 0, .int .u64 0, .int .u64 0, .int .u64 0, .bool false] 72)).setCells w2.heap.size 0 SL = W := ⟨_, rfl⟩
 have HB4 : Hid (Below w.heap.size w w4) := Lib.hid (by rw [← hw4]; exact bthn HB2.out (belowSets (Nat.le_refl _) _ _ _ (balloc (Below.refl _ _) _)))
 obtain ⟨g4, hg4⟩ : ∃ g, w2.heap.size = g := ⟨_, rfl⟩
 have HR4 : Hid (w4.rangeAt g4 0 SL) := Lib.hid (by rw [← hw4, ← hg4]; exact World.rangeAt_setCells_same _ _ _ _ (thereOf (heap_alloc_new w2 _) (by rw [HS19.out]; simp)))
 have hc1 : w4.cell? ⟨g4, 1, none⟩ = some (.int .i64 mt) := HR4.out 1 _ HMT.out
 have CB4 := CB.out w4 HB4.out
 simp only [List.toList_toArray]
 rw [hw4, hg4]
 clear hw4 hg4 CB
 go_wp2_with fail
 refine CB4.mono ?_
 rintro e w5 ⟨rfl, rfl⟩
 clear CB4
 go_wp2_with fail
 go_ret
 exact ⟨rfl, HB4.out⟩
end Go.Proofs.YtgmahhdnjikdjaaGreat
/- btree.Get of a tree that is a leaf, walked. -/
namespace Go.Proofs.YtgmahhdnjikdjaaGreat
open Go.RowKit Go.Maps Wire
set_option linter.unusedVariables false
set_option linter.unusedSimpArgs false
/-- What is under a key in a leaf. -/
def Nd.at_ (y : Nd) (x : Nat) : Option Nat := if y.keys[findI y.keys x]? = some x then y.vals[findI y.keys x]? else none
/-- What Get answers. -/
def GetP (w : World) (y : Nd) (x : Nat) (e : Ending) (w' : World) : Prop :=
 (match y.at_ x with
  | some v => e = .returned (.tuple #[.int .u64 (v : Int), .bool true, .int .i64 0])
  | none => e = .returned (.tuple #[.int .u64 0, .bool false, .int .i64 0])) ∧ Below w.heap.size w w'
end Go.Proofs.YtgmahhdnjikdjaaGreat
/- btree.walk of a leaf, and of an inner node without children, walked. -/
namespace Go.Proofs.YtgmahhdnjikdjaaGreat
open Go.RowKit Go.Maps Wire
set_option linter.unusedVariables false
set_option linter.unusedSimpArgs false
set_option maxRecDepth 100000 in
set_option maxHeartbeats 6400000 in
theorem twalk_nodesT {w : World} {S B pm pd mf md : Nat} {s : Su} {A D : M} {Fm Fd : List Nat} {l : List (Nat × (NdV × Nd))} (h : StF w S B pm pd mf md s A D Fm Fd l) (n : Nat) (h0 : n ≠ 0) (hn : n < A.now.length) (hc : ctN A.now n ≠ 0) (x : NdV) (y : Nd) (hg : getA n l = some (x, y)) (hy : y.Ok) (hk : y.k ≠ 1) (u0 : Value) (F : List Nat) (hF : ∀ k ∈ F, k < w.heap.size) (R : World → Prop)
  (CF : ∀ X x1, Below w.heap.size w X → NdAt X w.heap.size x1 y → Calls Tryz.prog 171 #[.int .u32 (n : Int), ndA x1, .int .i64 0, u0] X fun e w' => e = .returned (.bool true) ∧ Mods F X w' ∧ R w') :
  Calls Tryz.prog 86 #[.pointer (some ⟨S, 0, none⟩), .int .u32 (n : Int), .int .i64 0, .func (.func 171) #[] #[u0]] w fun e w' => e = .returned (.tuple #[.bool true, .int .i64 0]) ∧ Mods F w w' ∧ R w' := by
 have hm9 := h.st.mok.max
 have hyn := hy.n
 have hym := hy.m
 have CN := snode_in h n h0 hn hc x y hg (by omega) (by omega)
 have hk1 : (y.k == 1) = false := by simp; exact hk
 have hn4 : (n : Int) < 4294967296 := by omega
 have HCF := Lib.hid CF
 have HF := Lib.hid hF
 clear h hg hc hk CF hy hyn hym hF
 go_enter Tryz.func86, Tryz.ntmps86
 go_wp2_with fail
 refine CN.mono ?_
 rintro e w2 ⟨x1, rfl, hnd, hb2⟩
 have HB2 := Lib.hid hb2
 have HN2 := Lib.hid hnd
 obtain ⟨a1, a2, e1, e2, e3⟩ := ndA_eq x1
 rw [e1]
 have HE := Lib.hid (And.intro e2 e3)
 have HE1 := Lib.hid e1
 have HKB : Hid (x1.k = y.k ∧ x1.b = y.b ∧ x1.n1 = y.keys.length ∧ x1.n2 = y.vals.length) := Lib.hid ⟨hnd.k, hnd.b, hnd.n1, hnd.n2⟩
 obtain ⟨kd, hkd⟩ : ∃ z, x1.k = z := ⟨_, rfl⟩
 obtain ⟨bb, hbb⟩ : ∃ z, x1.b = z := ⟨_, rfl⟩
 obtain ⟨n1, hn1⟩ : ∃ z, x1.n1 = z := ⟨_, rfl⟩
 obtain ⟨n2, hn2⟩ : ∃ z, x1.n2 = z := ⟨_, rfl⟩
 obtain ⟨c1, hc1⟩ : ∃ z, x1.c1 = z := ⟨_, rfl⟩
 obtain ⟨c2, hc2⟩ : ∃ z, x1.c2 = z := ⟨_, rfl⟩
 rw [hkd, hbb, hn1, hn2, hc1, hc2] at HE1 ⊢
 rw [hkd, hbb, hn1, hn2] at HKB
 rw [← HKB.out.1] at hk1
 obtain ⟨w3, hw3⟩ : ∃ W, w2.alloc (.cells #[.int .i64 kd, .int .u64 (bb : Int), .slice a1 n1 c1, .slice a2 n2 c2] 159) = W := ⟨_, rfl⟩
 have hb3 : Below w2.heap.size w2 w3 := by rw [← hw3]; exact balloc (Below.refl _ _) _
 have hx3 : w3.heap[w2.heap.size]? = some (.cells #[.int .i64 kd, .int .u64 (bb : Int), .slice a1 n1 c1, .slice a2 n2 c2] 159 (0, 0)) := by rw [← hw3]; exact heap_alloc_new _ _
 have HX3 := Lib.hid hx3
 have HB3 := Lib.hid (bthn HB2.out hb3)
 have HN3 := Lib.hid (hnd.below hb3)
 have HQ : Hid (w.heap.size ≤ w2.heap.size) := Lib.hid HB2.out.size
 obtain ⟨q, hq⟩ : ∃ q, w2.heap.size = q := ⟨_, rfl⟩
 clear CN hnd hb2 e1 e2 e3 hkd hbb hn1 hn2 hc1 hc2 hb3 hx3
 dsimp only
 go_upto_region 4 with fail
 (try rw [hw3])
 rw [hq] at HX3 HQ
 (try rw [hq])
 have d0 := cellOf HX3.out 0 (v := .int .i64 kd) rfl
 have d1 := cellOf HX3.out 1 (v := .int .u64 (bb : Int)) rfl
 have d2 := cellOf HX3.out 2 (v := .slice a1 n1 c1) rfl
 have d3 := cellOf HX3.out 3 (v := .slice a2 n2 c2) rfl
 clear hw3 hq
 have C := HCF.out w3 x1 HB3.out HN3.out
 rw [HE1.out] at C
 clear HCF
 go_wp2_with fail
 refine C.mono ?_
 rintro e w4 ⟨rfl, hm4, hr4⟩
 have HM4 : Hid (Mods F w w4) := Lib.hid ((Mods.of_below HB3.out).trans hm4 (fun k hk => .inl hk))
 have HR4 := Lib.hid hr4
 have HX4 := Lib.hid ((hm4.block _ (Array.getElem?_eq_some_iff.1 HX3.out).1 (fun hh => by have := HF.out _ hh; have := HQ.out; omega)).trans HX3.out)
 clear C hm4 hr4 d0 d1 d2 d3
 have d0 := cellOf HX4.out 0 (v := .int .i64 kd) rfl
 have hk2 : (kd != 1) = true := by simp [bne, hk1]
 go_wp2_with fail
 go_ret2
 exact ⟨rfl, HM4.out, HR4.out⟩
end Go.Proofs.YtgmahhdnjikdjaaGreat
/- btree.first, Put into an empty tree, walked. -/
namespace Go.Proofs.YtgmahhdnjikdjaaGreat
open Go.RowKit Go.Maps Wire
set_option linter.unusedVariables false
set_option linter.unusedSimpArgs false
set_option maxRecDepth 100000 in
set_option maxHeartbeats 3200000 in
theorem tfirst_at (w : World) (y : Nd) (v1 v2 : Value) (h1 : Rd w 1 v1 y.keys.length (qV y.keys)) :
  Calls Tryz.prog 128 #[.agg #[.int .i64 y.k, .int .u64 (y.b : Int), v1, v2]] w fun e w' => e = .returned (.int .u64 (y.keys.getD 0 0 : Nat)) ∧ Below w.heap.size w w' := by
 obtain ⟨a1, c1, rfl, _⟩ := id h1
 obtain ⟨kd, hkd⟩ : ∃ x, y.k = x := ⟨_, rfl⟩
 obtain ⟨bb, hbb⟩ : ∃ x, y.b = x := ⟨_, rfl⟩
 obtain ⟨ks, hks⟩ : ∃ x, y.keys = x := ⟨_, rfl⟩
 rw [hkd, hbb]
 rw [hks] at h1 ⊢
 obtain ⟨n, hnn⟩ : ∃ n, ks.length = n := ⟨_, rfl⟩
 rw [hnn] at h1 ⊢
 obtain ⟨w1, hw1⟩ : ∃ W, w.alloc (.cells #[.int .i64 kd, .int .u64 (bb : Int), .slice a1 n c1, v2] 159) = W := ⟨_, rfl⟩
 have hb1 : Below w.heap.size w w1 := by rw [← hw1]; exact balloc (Below.refl _ _) _
 have hx1 : w1.heap[w.heap.size]? = some (.cells #[.int .i64 kd, .int .u64 (bb : Int), .slice a1 n c1, v2] 159 (0, 0)) := by rw [← hw1]; exact heap_alloc_new _ _
 have HB1 := Lib.hid hb1
 have d2 := cellOf hx1 2 (v := .slice a1 n c1) rfl
 have HR := Lib.hid (h1.below hb1)
 clear hb1 hx1 h1 hkd hbb hks
 cases ks with
 | nil =>
  have hn0 : n = 0 := hnn.symm
  subst hn0
  go_enter Tryz.func128, Tryz.ntmps128
  go_wp2_with fail
  (try rw [hw1])
  go_wp2_with fail
  go_ret
  exact ⟨rfl, HB1.out⟩
 | cons k ks =>
  obtain ⟨b0, off, rfl, hbl, hcell⟩ := rd_at HR.out (by simp)
  have e1 := hcell 0 k rfl
  rw [Nat.add_zero] at e1
  have hn1 : ((n : Int) == 0) = false := by simp at hnn ⊢; omega
  have hn2 : (0 : Int) < (n : Int) := by simp at hnn; omega
  clear hcell hbl hnn
  go_enter Tryz.func128, Tryz.ntmps128
  go_wp2_with fail
  (try rw [hw1])
  go_wp2_with fail
  go_ret
  exact ⟨rfl, HB1.out⟩
end Go.Proofs.YtgmahhdnjikdjaaGreat
/- btree.Put into an empty tree, walked. -/
namespace Go.Proofs.YtgmahhdnjikdjaaGreat
open Go.RowKit Go.Maps Wire
set_option linter.unusedVariables false
set_option linter.unusedSimpArgs false
theorem rd_one {X : World} {b v : Nat} (hx : X.heap[b]? = some (.cells #[.int .u64 (v : Int)] 26 (0, 0))) : Rd X 1 (.slice (some ⟨b, 0, none⟩) 1 1) 1 (qV [v]) := by
 refine ⟨_, _, rfl, rfl, by decide, ⟨fun h => by (cases h), by decide, by decide⟩, fun j u hu => ?_⟩
 refine ⟨b, 0, rfl, (Array.getElem?_eq_some_iff.1 hx).1, ?_⟩
 cases j with
 | zero => cases hu; exact cellOf hx 0 rfl
 | succ j => simp [qV] at hu
theorem nd_built (k : Int) (a b : Option Addr) : Tryz.prog.built 159 [(0, .int .i64 k), (2, .slice a 1 1), (3, .slice b 1 1)] = some #[.int .i64 k, .int .u64 0, .slice a 1 1, .slice b 1 1] := by kernel_rfl
theorem nd1_ok (k : Nat) (hk : k = 2 ∨ k = 3) (key val : Nat) (h1 : key < 18446744073709551616) (h2 : val < 18446744073709551616) : Nd.Ok ⟨(k : Int), 0, [key], [val]⟩ :=
 ⟨by show 1 ≤ (k : Int) ∧ (k : Int) ≤ 3; omega, by simp, rfl, fun i a b _ h => by simp at h, fun x hx => by rw [List.mem_singleton.1 hx]; exact h1, fun x hx => by rw [List.mem_singleton.1 hx]; exact h2⟩
theorem results_tmp4 {fn : Func} {t u v x : Tmp} (h : fn.results = #[.tmp t, .tmp u, .tmp v, .tmp x]) (tmps : Array Value) (P : Program) (w : World) :
  (results fn tmps).run P w = .ok (.tuple #[tmps.getD t undef, tmps.getD u undef, tmps.getD v undef, tmps.getD x undef]) w := by
 simp [results, h, Sem.run_bind, Result.andThen]
set_option maxRecDepth 100000 in
set_option maxHeartbeats 6400000 in
theorem tput_new {w : World} {S B pm pd mf md : Nat} {s : Su} {A D : M} {Fm Fd : List Nat} {l : List (Nat × (NdV × Nd))} (h : StF w S B pm pd mf md s A D Fm Fd l) (k key val : Nat) (hk : k = 2 ∨ k = 3) (hkey : key < 18446744073709551616) (hval : val < 18446744073709551616) (i : Nat) (hf : find A 0 = some i) (htx : s.tx + 1 < 18446744073709551616) (hlen : l.length ≤ 10000) :
  Calls Tryz.prog 33 #[.pointer (some ⟨S, 0, none⟩), .int .u32 0, .int .i64 (k : Int), .int .u64 (key : Int), .int .u64 (val : Int)] w fun e w' => ∃ x, e = .returned (.tuple #[.int .u32 (i : Int), .int .u64 0, .bool false, .int .i64 0]) ∧ StF w' S B pm pd mf md s (allocM A i) D Fm Fd (putA i (x, ⟨(k : Int), s.tx + 1, [key], [val]⟩) l) ∧ Mods (mf :: Fm) w w' ∧ ∀ j ∈ obN x, w.heap.size ≤ j := by
 have hpos := h.st.mok.pos
 have CM := tmay_in h.st 0 hpos
 have HH := Lib.hid h
 have HF := Lib.hid hf
 have HTX := Lib.hid htx
 have HLN := Lib.hid hlen
 have HKV := Lib.hid (And.intro hkey hval)
 have HK := Lib.hid hk
 clear h hf htx hlen hkey hval hpos
 rcases hk with rfl | rfl
 all_goals (
  go_enter Tryz.func33, Tryz.ntmps33
  go_wp2_with fail
  refine CM.mono ?_
  rintro e w1 ⟨rfl, hb1⟩
  have HB1 := Lib.hid hb1
  clear CM hb1
  dsimp only
  go_upto_region 7 with fail
  apply wp_region_lit
  iterate 18 go_step
  refine wpL_build (by kernel_rfl) 159 _ rfl _ (by simp only [List.map_toArray, List.map_cons, List.map_nil]; rfl) _ (nd_built _ _ _) ?_
  obtain ⟨w2, hw2⟩ : ∃ W, w1.alloc (.cells #[.int .u64 (key : Int)] 26) = W := ⟨_, rfl⟩
  have hb2 : Below w1.heap.size w1 w2 := by rw [← hw2]; exact balloc (Below.refl _ _) _
  have hx2 : w2.heap[w1.heap.size]? = some (.cells #[.int .u64 (key : Int)] 26 (0, 0)) := by rw [← hw2]; exact heap_alloc_new _ _
  rw [hw2]
  obtain ⟨w3, hw3⟩ : ∃ W, w2.alloc (.cells #[.int .u64 (val : Int)] 26) = W := ⟨_, rfl⟩
  have hb3 : Below w2.heap.size w2 w3 := by rw [← hw3]; exact balloc (Below.refl _ _) _
  have hx3 : w3.heap[w2.heap.size]? = some (.cells #[.int .u64 (val : Int)] 26 (0, 0)) := by rw [← hw3]; exact heap_alloc_new _ _
  rw [hw3]
  have hq : w2.heap.size = w1.heap.size + 1 := by rw [← hw2]; exact Array.size_push _
  rw [hq] at hx3
  have hx23 := (hb3.block _ (Array.getElem?_eq_some_iff.1 hx2).1).trans hx2
  have HB3 := Lib.hid (bthn HB1.out (bthn hb2 hb3))
  have CW : Hid (∀ (kk : Int) (hok : Nd.Ok ⟨kk, 0, [key], [val]⟩), _) := Lib.hid (fun kk hok => snew_in (HH.out.below HB3.out) ⟨kk, 0, [key], [val]⟩ (.slice (some ⟨w1.heap.size, 0, none⟩) 1 1) (.slice (some ⟨w1.heap.size + 1, 0, none⟩) 1 1) hok (fun X hX => rd_one ((hX.block _ (Array.getElem?_eq_some_iff.1 hx23).1 (fun hh => by have := HH.out.st.ma.lt _ hh; have := HB1.out.size; omega)).trans hx23)) (fun X hX => rd_one ((hX.block _ (Array.getElem?_eq_some_iff.1 hx3).1 (fun hh => by have := HH.out.st.ma.lt _ hh; have := HB1.out.size; omega)).trans hx3)) i HF.out HTX.out HLN.out)
  clear hw2 hb2 hx2 hw3 hb3 hx3 hx23 hq
  dsimp only [Act.put]
  go_wp2_with fail)
 ·have C := CW.out 2 (nd1_ok 2 (.inl rfl) key val HKV.out.1 HKV.out.2)
  clear CW

  refine C.mono ?_
  rintro e w4 ⟨x, rfl, hst, hms, hge⟩
  have HS4 := Lib.hid hst
  have HM4 := Lib.hid hms
  have HG4 := Lib.hid hge
  clear C hst hms hge
  go_wp2_with fail
  refine bodyPost_ret (results_tmp4 rfl _ _ _) rfl ?_
  exact ⟨x, rfl, HS4.out, (Mods.of_below HB3.out).trans HM4.out (fun k hk => .inl hk), fun j hj => Nat.le_trans HB3.out.size (HG4.out j hj)⟩
 ·have C := CW.out 3 (nd1_ok 3 (.inr rfl) key val HKV.out.1 HKV.out.2)
  clear CW

  refine C.mono ?_
  rintro e w4 ⟨x, rfl, hst, hms, hge⟩
  have HS4 := Lib.hid hst
  have HM4 := Lib.hid hms
  have HG4 := Lib.hid hge
  clear C hst hms hge
  go_wp2_with fail
  refine bodyPost_ret (results_tmp4 rfl _ _ _) rfl ?_
  exact ⟨x, rfl, HS4.out, (Mods.of_below HB3.out).trans HM4.out (fun k hk => .inl hk), fun j hj => Nat.le_trans HB3.out.size (HG4.out j hj)⟩
end Go.Proofs.YtgmahhdnjikdjaaGreat
