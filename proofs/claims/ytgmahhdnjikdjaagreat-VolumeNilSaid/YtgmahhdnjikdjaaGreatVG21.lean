import Derived.Test.YtgmahhdnjikdjaaGreatVG20
import Derived.Test.YtgmahhdnjikdjaaGreatVG17
set_option linter.unusedVariables false
set_option linter.unusedSimpArgs false
/- store.Shadow of a fresh block that is named once, walked. -/
namespace Go.Proofs.YtgmahhdnjikdjaaGreat
open Go.RowKit Go.Maps Wire
set_option linter.unusedVariables false
set_option linter.unusedSimpArgs false
/-- What Shadow leaves. -/
def ShadP (w : World) (i : Nat) (y : Nd) (e : Ending) (w' : World) : Prop := ∃ x, e = .returned (.tuple #[.int .u32 (i : Int), ndA x, .int .i64 0]) ∧ NdAt w' w.heap.size x y ∧ Below w.heap.size w w'
/-- Shadow's three answers in memory. -/
structure Tri (w : World) (q1 q2 q3 : Nat) (a : Value) (L : Array Value) (c : Value) : Prop where
 h1 : w.heap[q1]? = some (.cells #[a] 22 (0, 0))
 h2 : w.heap[q2]? = some (.cells L 159 (0, 0))
 h3 : w.heap[q3]? = some (.cells #[c] 23 (0, 0))
 lt : q1 < q2 ∧ q2 < q3
theorem Tri.s1 {w : World} {q1 q2 q3 : Nat} {a c : Value} {L : Array Value} (h : Tri w q1 q2 q3 a L c) (a' : Value) : Tri (w.setCell ⟨q1, 0, none⟩ a') q1 q2 q3 a' L c :=
 ⟨setOf h.h1 0 a', (Below.heap_setCell w ⟨q1, 0, none⟩ _ q2 (by show q2 ≠ q1; have := h.lt; omega)).trans h.h2, (Below.heap_setCell w ⟨q1, 0, none⟩ _ q3 (by show q3 ≠ q1; have := h.lt; omega)).trans h.h3, h.lt⟩
theorem Tri.s3 {w : World} {q1 q2 q3 : Nat} {a c : Value} {L : Array Value} (h : Tri w q1 q2 q3 a L c) (c' : Value) : Tri (w.setCell ⟨q3, 0, none⟩ c') q1 q2 q3 a L c' :=
 ⟨(Below.heap_setCell w ⟨q3, 0, none⟩ _ q1 (by show q1 ≠ q3; have := h.lt; omega)).trans h.h1, (Below.heap_setCell w ⟨q3, 0, none⟩ _ q2 (by show q2 ≠ q3; have := h.lt; omega)).trans h.h2, setOf h.h3 0 c', h.lt⟩
theorem Tri.s2 {w : World} {q1 q2 q3 : Nat} {a c u0 u1 u2 u3 : Value} (h : Tri w q1 q2 q3 a #[u0, u1, u2, u3] c) (v0 v1 v2 v3 : Value) : Tri ((((w.setCell ⟨q2, 0, none⟩ v0).setCell ⟨q2, 1, none⟩ v1).setCell ⟨q2, 2, none⟩ v2).setCell ⟨q2, 3, none⟩ v3) q1 q2 q3 a #[v0, v1, v2, v3] c := by
 have hm : Mods [q2] w ((((w.setCell ⟨q2, 0, none⟩ v0).setCell ⟨q2, 1, none⟩ v1).setCell ⟨q2, 2, none⟩ v2).setCell ⟨q2, 3, none⟩ v3) := ((((Mods.refl _ w).setCell (p := ⟨q2, 0, none⟩) (List.mem_singleton.2 rfl) _).setCell (p := ⟨q2, 1, none⟩) (List.mem_singleton.2 rfl) _).setCell (p := ⟨q2, 2, none⟩) (List.mem_singleton.2 rfl) _).setCell (p := ⟨q2, 3, none⟩) (List.mem_singleton.2 rfl) _
 have hl := h.lt
 exact ⟨(hm.block _ (Array.getElem?_eq_some_iff.1 h.h1).1 (by simp; omega)).trans h.h1, setOf (setOf (setOf (setOf h.h2 0 v0) 1 v1) 2 v2) 3 v3, (hm.block _ (Array.getElem?_eq_some_iff.1 h.h3).1 (by simp; omega)).trans h.h3, h.lt⟩
set_option maxRecDepth 100000 in
set_option maxHeartbeats 6400000 in
theorem sshad_in {w : World} {S B pm pd mf md : Nat} {s : Su} {A D : M} {Fm Fd : List Nat} {l : List (Nat × (NdV × Nd))} (h : StF w S B pm pd mf md s A D Fm Fd l) (i : Nat) (h0 : i ≠ 0) (hi9 : i < A.now.length) (hc : ctN A.now i = 1) (x : NdV) (y : Nd) (hg : getA i l = some (x, y)) (hy : y.keys.length ≤ 1000) (hv : y.vals.length ≤ 1000) :
  Calls Tryz.prog 125 #[.pointer (some ⟨S, 0, none⟩), .int .u32 (i : Int)] w (ShadP w i y) := by
 have hm9 := h.st.mok.max
 obtain ⟨w1, hw1⟩ : ∃ W, w.alloc (.cells #[.pointer (some ⟨S, 0, none⟩)] 37) = W := ⟨_, rfl⟩
 have hb1 : Below w.heap.size w w1 := by rw [← hw1]; exact balloc (Below.refl _ _) _
 have hx1 : w1.heap[w.heap.size]? = some (.cells #[.pointer (some ⟨S, 0, none⟩)] 37 (0, 0)) := by rw [← hw1]; exact heap_alloc_new _ _
 obtain ⟨w2, hw2⟩ : ∃ W, w1.alloc (.cells #[.int .u32 0] 22) = W := ⟨_, rfl⟩
 have hb2 : Below w1.heap.size w1 w2 := by rw [← hw2]; exact balloc (Below.refl _ _) _
 have hx2 : w2.heap[w1.heap.size]? = some (.cells #[.int .u32 0] 22 (0, 0)) := by rw [← hw2]; exact heap_alloc_new _ _
 obtain ⟨w3, hw3⟩ : ∃ W, w2.alloc (.cells #[.int .i64 0, .int .u64 0, .slice none 0 0, .slice none 0 0] 159) = W := ⟨_, rfl⟩
 have hb3 : Below w2.heap.size w2 w3 := by rw [← hw3]; exact balloc (Below.refl _ _) _
 have hx3 : w3.heap[w2.heap.size]? = some (.cells ndZ.toArray 159 (0, 0)) := by rw [← hw3]; exact heap_alloc_new _ _
 obtain ⟨w4, hw4⟩ : ∃ W, w3.alloc (.cells #[.int .i64 0] 23) = W := ⟨_, rfl⟩
 have hb4 : Below w3.heap.size w3 w4 := by rw [← hw4]; exact balloc (Below.refl _ _) _
 have hx4 : w4.heap[w3.heap.size]? = some (.cells #[.int .i64 0] 23 (0, 0)) := by rw [← hw4]; exact heap_alloc_new _ _
 obtain ⟨q1, hq1⟩ : ∃ q, w1.heap.size = q := ⟨_, rfl⟩
 obtain ⟨q2, hq2⟩ : ∃ q, w2.heap.size = q := ⟨_, rfl⟩
 obtain ⟨q3, hq3⟩ : ∃ q, w3.heap.size = q := ⟨_, rfl⟩
 have l1 := (Array.getElem?_eq_some_iff.1 hx1).1
 have l2 := (Array.getElem?_eq_some_iff.1 hx2).1
 have l3 := (Array.getElem?_eq_some_iff.1 hx3).1
 have l4 := (Array.getElem?_eq_some_iff.1 hx4).1
 rw [hq1] at hx2 l1 l2
 rw [hq2] at hx3 l2 l3
 rw [hq3] at hx4 l3 l4
 have HL := Lib.hid (And.intro l1 (And.intro l2 (And.intro l3 l4)))
 have hx4a : w4.heap[w.heap.size]? = some (.cells #[.pointer (some ⟨S, 0, none⟩)] 37 (0, 0)) := ((bthn hb2 (bthn hb3 hb4)).block _ (by omega)).trans hx1
 have hx4b : w4.heap[q1]? = some (.cells #[.int .u32 0] 22 (0, 0)) := ((bthn hb3 hb4).block _ (by omega)).trans hx2
 have hx4c : w4.heap[q2]? = some (.cells ndZ.toArray 159 (0, 0)) := (hb4.block _ (by omega)).trans hx3
 have HBB := Lib.hid (bthn hb1 (bthn hb2 (bthn hb3 hb4)))
 have h4 := h.below HBB.out
 have CI := sis_at h4.st i h0 hi9 (by rw [hc]; decide)
 have CN := snode_in h4 i h0 hi9 (by rw [hc]; decide) x y hg hy hv
 have ca := cellOf hx4a 0 rfl
 have HXA := Lib.hid hx4a
 have HXB := Lib.hid hx4b
 have HXC := Lib.hid hx4c
 have HXD := Lib.hid hx4
 have H4 := Lib.hid h4
 have HG := Lib.hid hg
 have HI32 : Hid (i < 4294967296) := Lib.hid (by omega)
 have HC := Lib.hid hc
 have HI9 := Lib.hid hi9
 clear hb1 hx1 hb2 hx2 hb3 hx3 hb4 hx4 hx4a hx4b hx4c l1 l2 l3 l4 h h4 hg hc hi9
 go_enter Tryz.func125, Tryz.ntmps125
 go_wp2_with fail
 (try rw [hw1, hq1])
 (try rw [hw2, hq2])
 (try rw [hw3, hq3])
 (try rw [hw4])
 clear hw1 hw2 hw3 hw4 hq1 hq2 hq3
 refine CI.mono ?_
 rintro e w5 ⟨rfl, rfl⟩
 clear CI
 go_wp2_with fail
 refine CN.mono ?_
 rintro e w5 ⟨x1, rfl, hnd, hb5⟩
 have HN5 := Lib.hid hnd
 have HB5 := Lib.hid hb5
 have ca5 := cellOf ((HB5.out.block _ (Array.getElem?_eq_some_iff.1 HXA.out).1).trans HXA.out) 0 (v := .pointer (some ⟨S, 0, none⟩)) rfl
 obtain ⟨a3, a4, e1, e2, e3⟩ := ndA_eq x1
 rw [e1]
 have HE := Lib.hid e1
 obtain ⟨k1, hk1⟩ : ∃ z, x1.k = z := ⟨_, rfl⟩
 obtain ⟨b1, hb1⟩ : ∃ z, x1.b = z := ⟨_, rfl⟩
 obtain ⟨n1, hn1⟩ : ∃ z, x1.n1 = z := ⟨_, rfl⟩
 obtain ⟨c1, hc1⟩ : ∃ z, x1.c1 = z := ⟨_, rfl⟩
 obtain ⟨n2, hn2⟩ : ∃ z, x1.n2 = z := ⟨_, rfl⟩
 obtain ⟨c2, hc2⟩ : ∃ z, x1.c2 = z := ⟨_, rfl⟩
 rw [hk1, hb1, hn1, hc1, hn2, hc2] at HE ⊢
 clear CN ca hnd hb5 e1 e2 e3 hk1 hb1 hn1 hc1 hn2 hc2
 dsimp only
 go_upto_region 7 with fail
 obtain ⟨w6, hw6⟩ : ∃ W, w5.alloc (.cells #[.int .i64 k1, .int .u64 (b1 : Int), .slice a3 n1 c1, .slice a4 n2 c2] 159) = W := ⟨_, rfl⟩
 rw [hw6]
 have hb6 : Below w5.heap.size w5 w6 := by rw [← hw6]; exact balloc (Below.refl _ _) _
 have hx6 : w6.heap[w5.heap.size]? = some (.cells #[.int .i64 k1, .int .u64 (b1 : Int), .slice a3 n1 c1, .slice a4 n2 c2] 159 (0, 0)) := by rw [← hw6]; exact heap_alloc_new _ _
 obtain ⟨p, hp⟩ : ∃ q, w5.heap.size = q := ⟨_, rfl⟩
 rw [hp] at hx6
 rw [hp]
 have HP : Hid (q3 < p) := Lib.hid (by rw [← hp]; exact Nat.lt_of_lt_of_le HL.out.2.2.2 HB5.out.size)
 have HX6 := Lib.hid hx6
 have HB46 : Hid (Below w4.heap.size w4 w6) := Lib.hid (bthn HB5.out hb6)
 have HN6 : Hid (NdAt w6 w4.heap.size x1 y) := Lib.hid (HN5.out.below hb6)
 have ca6 := cellOf ((HB46.out.block _ (Array.getElem?_eq_some_iff.1 HXA.out).1).trans HXA.out) 0 (v := .pointer (some ⟨S, 0, none⟩)) rfl
 have h6 := H4.out.below HB46.out
 have hl := (h6.look HI32.out HG.out).1
 have c22 := cellOf h6.st.box 22 (v := .map (some mf)) rfl
 obtain ⟨a5, a6, e1, e2, e3⟩ := ndA_eq x
 rw [e1] at hl
 clear e1 e2 e3
 obtain ⟨k0, hk0⟩ : ∃ z, x.k = z := ⟨_, rfl⟩
 obtain ⟨tx, htx⟩ : ∃ z, x.b = z := ⟨_, rfl⟩
 obtain ⟨n5, hn5⟩ : ∃ z, x.n1 = z := ⟨_, rfl⟩
 obtain ⟨c5, hc5⟩ : ∃ z, x.c1 = z := ⟨_, rfl⟩
 obtain ⟨n6, hn6⟩ : ∃ z, x.n2 = z := ⟨_, rfl⟩
 obtain ⟨c6, hc6⟩ : ∃ z, x.c2 = z := ⟨_, rfl⟩
 rw [hk0, htx, hn5, hc5, hn6, hc6] at hl
 clear hk0 htx hn5 hc5 hn6 hc6 hw6 hb6 hx6 hp h6 ca5
 go_upto_region 8 with fail
 obtain ⟨w7, hw7⟩ : ∃ W, w6.alloc (.cells #[.int .i64 k0, .int .u64 (tx : Int), .slice a5 n5 c5, .slice a6 n6 c6] 159) = W := ⟨_, rfl⟩
 rw [hw7]
 have hb7 : Below w6.heap.size w6 w7 := by rw [← hw7]; exact balloc (Below.refl _ _) _
 have HB7 := Lib.hid hb7
 have HB47 : Hid (Below w4.heap.size w4 w7) := Lib.hid (bthn HB46.out hb7)
 have CC := count_in (H4.out.below HB47.out).st.ma H4.out.st.mok i HI9.out
 rw [HC.out] at CC
 unfold pt at CC
 have c20 := cellOf (H4.out.below HB47.out).st.box 20 (v := .pointer (some ⟨pm, 0, none⟩)) rfl
 have ca7 := cellOf ((HB47.out.block _ (Array.getElem?_eq_some_iff.1 HXA.out).1).trans HXA.out) 0 (v := .pointer (some ⟨S, 0, none⟩)) rfl
 have hn4 : (i : Int) < 4294967296 := by have := HI32.out; omega
 have HX7 := Lib.hid ((hb7.block _ (Array.getElem?_eq_some_iff.1 HX6.out).1).trans HX6.out)
 clear hw7 hb7 hl c22 ca6
 go_wp2_with fail
 refine CC.mono ?_
 rintro e w8 ⟨rfl, rfl⟩
 clear CC
 go_wp2_with fail
 clear ca7 c20
 have HT7 : Hid (Tri w8 q1 q2 q3 (.int .u32 0) ndZ.toArray (.int .i64 0)) := Lib.hid ⟨(HB47.out.block _ (Array.getElem?_eq_some_iff.1 HXB.out).1).trans HXB.out, (HB47.out.block _ (Array.getElem?_eq_some_iff.1 HXC.out).1).trans HXC.out, (HB47.out.block _ (Array.getElem?_eq_some_iff.1 HXD.out).1).trans HXD.out, HL.out.2.1, HL.out.2.2.1⟩
 have HPL := Lib.hid (Array.getElem?_eq_some_iff.1 HX7.out).1
 have HPN : Hid (p ∉ [q1, q2, q3]) := Lib.hid (by have h1 := HP.out; have h2 := HL.out; simp; omega)
 have HSS : Hid (∀ X, Mods [q1, q2, q3] w8 X → (X.cell? ⟨p, 0, none⟩ = some (.int .i64 k1) ∧ X.cell? ⟨p, 1, none⟩ = some (.int .u64 (b1 : Int)) ∧ X.cell? ⟨p, 2, none⟩ = some (.slice a3 n1 c1) ∧ X.cell? ⟨p, 3, none⟩ = some (.slice a4 n2 c2)) ∧ Mods [q1, q2, q3] w8 X) := Lib.hid (fun X hb => ⟨⟨(World.cell?_of_block (hb.block _ (HPL.out) (HPN.out))).trans (cellOf HX7.out 0 rfl), (World.cell?_of_block (hb.block _ (HPL.out) (HPN.out))).trans (cellOf HX7.out 1 rfl), (World.cell?_of_block (hb.block _ (HPL.out) (HPN.out))).trans (cellOf HX7.out 2 rfl), (World.cell?_of_block (hb.block _ (HPL.out) (HPN.out))).trans (cellOf HX7.out 3 rfl)⟩, hb⟩)
 refine wp_region_held_drew (S := fun X => (X.cell? ⟨p, 0, none⟩ = some (.int .i64 k1) ∧ X.cell? ⟨p, 1, none⟩ = some (.int .u64 (b1 : Int)) ∧ X.cell? ⟨p, 2, none⟩ = some (.slice a3 n1 c1) ∧ X.cell? ⟨p, 3, none⟩ = some (.slice a4 n2 c2)) ∧ Mods [q1, q2, q3] w8 X) (by kernel_rfl) (HSS.out _ (Mods.of_below (Below.refl _ _).drew)) (fun hHeld => ?_)
 have hbe : Below w8.heap.size w8 w8.drew := (Below.refl _ _).drew
 obtain ⟨wd, hwd⟩ : ∃ y, w8.drew = y := ⟨_, rfl⟩
 rw [hwd] at hHeld hbe ⊢
 have HBE := Lib.hid hbe
 have HS0 : Hid (w8.heap.size ≤ wd.heap.size) := Lib.hid HBE.out.size
 clear hwd hbe
 have HMQ := Lib.hid (Mods.of_below (F := [q1, q2, q3]) HBE.out)
 have HTR : Hid (Tri wd q1 q2 q3 (.int .u32 0) #[.int .i64 0, .int .u64 0, .slice none 0 0, .slice none 0 0] (.int .i64 0)) := Lib.hid ⟨(HBE.out.block _ (Array.getElem?_eq_some_iff.1 HT7.out.h1).1).trans HT7.out.h1, (HBE.out.block _ (Array.getElem?_eq_some_iff.1 HT7.out.h2).1).trans HT7.out.h2, (HBE.out.block _ (Array.getElem?_eq_some_iff.1 HT7.out.h3).1).trans HT7.out.h3, HT7.out.lt⟩
 refine wpAnyH_take (i := 0) (v := ?_) rfl (by kernel_rfl) (by kernel_rfl) (by kernel_rfl) (fun _ _ _ h => h) (Or.inl ⟨by rfl, ?_⟩) (by assumption) ?_
 rotate_left
 ·(intro w hSw; (try dsimp only at hSw); simp only [List.getElem_toArray, List.getElem_cons_zero, List.getElem_cons_succ]; go_simp; first | done | with_reducible rfl)
 simp only [List.getElem_toArray, List.getElem_cons_zero, List.getElem_cons_succ, Act.put, List.setIfInBounds_toArray, List.set_cons_zero, List.set_cons_succ]
 refine wpAnyH_take (i := 1) (v := ?_) rfl (by kernel_rfl) (by kernel_rfl) (by kernel_rfl) (fun _ _ _ h => h) (Or.inl ⟨by rfl, ?_⟩) (by assumption) ?_
 rotate_left
 ·(intro w hSw; (try dsimp only at hSw); simp only [List.getElem_toArray, List.getElem_cons_zero, List.getElem_cons_succ]; go_simp; first | done | with_reducible rfl)
 simp only [List.getElem_toArray, List.getElem_cons_zero, List.getElem_cons_succ, Act.put, List.setIfInBounds_toArray, List.set_cons_zero, List.set_cons_succ]
 refine wpAnyH_ready (rs := [2]) (by kernel_rfl) (by simp) ?_
 refine AllReadyH.cons rfl (fun K hK => ?_) (AllReadyH.nil)
 have hcb := cellOf HTR.out.h1 0 (v := .int .u32 0) rfl
 have hfb := frozenOf HTR.out.h1 0
 simp only [List.getElem_toArray, List.getElem_cons_zero, List.getElem_cons_succ]
 go_simp
 refine hK.out _ _ ?_ (fun hHeld => ?_)
 ·exact HSS.out _ (HMQ.out.setCell (p := ⟨q1, 0, none⟩) (by simp) _)
 clear hK K
 try simp only [Act.put, List.setIfInBounds_toArray, List.set_cons_zero, List.set_cons_succ]
 clear hcb hfb
 have HTR := Lib.hid (HTR.out.s1 (.int .u32 (i : Int)))
 have HMQ := Lib.hid (HMQ.out.setCell (p := ⟨q1, 0, none⟩) (by simp) (.int .u32 (i : Int)))
 obtain ⟨z2, hz2⟩ : ∃ W, wd.setCell ⟨q1, 0, none⟩ (.int .u32 (i : Int)) = W := ⟨_, rfl⟩
 rw [hz2] at HTR HMQ hHeld ⊢
 clear hz2
 refine wpAnyH_ready (rs := [3]) (by kernel_rfl) (by simp) ?_
 refine AllReadyH.cons rfl (fun K hK => ?_) (AllReadyH.nil)
 have g0 := cellOf HTR.out.h2 0 rfl
 have g1 := cellOf HTR.out.h2 1 rfl
 have g2 := cellOf HTR.out.h2 2 rfl
 have g3 := cellOf HTR.out.h2 3 rfl
 have f0 := frozenOf HTR.out.h2 0
 have f1 := frozenOf HTR.out.h2 1
 have f2 := frozenOf HTR.out.h2 2
 have f3 := frozenOf HTR.out.h2 3
 simp only [List.getElem_toArray, List.getElem_cons_zero, List.getElem_cons_succ]
 go_simp
 refine hK.out _ _ ?_ (fun hHeld => ?_)
 ·exact HSS.out _ ((((HMQ.out.setCell (p := ⟨q2, 0, none⟩) (by simp) _).setCell (p := ⟨q2, 1, none⟩) (by simp) _).setCell (p := ⟨q2, 2, none⟩) (by simp) _).setCell (p := ⟨q2, 3, none⟩) (by simp) _)
 clear hK K
 try simp only [Act.put, List.setIfInBounds_toArray, List.set_cons_zero, List.set_cons_succ]
 clear g0 g1 g2 g3 f0 f1 f2 f3
 have HTR := Lib.hid (HTR.out.s2 (.int .i64 k1) (.int .u64 (b1 : Int)) (.slice a3 n1 c1) (.slice a4 n2 c2))
 have HMQ := Lib.hid ((((HMQ.out.setCell (p := ⟨q2, 0, none⟩) (by simp) (.int .i64 k1)).setCell (p := ⟨q2, 1, none⟩) (by simp) (.int .u64 (b1 : Int))).setCell (p := ⟨q2, 2, none⟩) (by simp) (.slice a3 n1 c1)).setCell (p := ⟨q2, 3, none⟩) (by simp) (.slice a4 n2 c2))
 obtain ⟨z3, hz3⟩ : ∃ W, (((z2.setCell ⟨q2, 0, none⟩ (.int .i64 k1)).setCell ⟨q2, 1, none⟩ (.int .u64 (b1 : Int))).setCell ⟨q2, 2, none⟩ (.slice a3 n1 c1)).setCell ⟨q2, 3, none⟩ (.slice a4 n2 c2) = W := ⟨_, rfl⟩
 rw [hz3] at HTR HMQ hHeld ⊢
 clear hz3
 refine wpAnyH_ready (rs := [4]) (by kernel_rfl) (by simp) ?_
 refine AllReadyH.cons rfl (fun K hK => ?_) (AllReadyH.nil)
 have hcb := cellOf HTR.out.h3 0 (v := .int .i64 0) rfl
 have hfb := frozenOf HTR.out.h3 0
 simp only [List.getElem_toArray, List.getElem_cons_zero, List.getElem_cons_succ]
 go_simp
 refine hK.out _ _ ?_ (fun hHeld => ?_)
 ·exact HSS.out _ (HMQ.out.setCell (p := ⟨q3, 0, none⟩) (by simp) _)
 clear hK K
 try simp only [Act.put, List.setIfInBounds_toArray, List.set_cons_zero, List.set_cons_succ]
 clear hcb hfb
 have HTR := Lib.hid (HTR.out.s3 (.int .i64 0))
 have HMQ := Lib.hid (HMQ.out.setCell (p := ⟨q3, 0, none⟩) (by simp) (.int .i64 0))
 obtain ⟨z4, hz4⟩ : ∃ W, z3.setCell ⟨q3, 0, none⟩ (.int .i64 0) = W := ⟨_, rfl⟩
 rw [hz4] at HTR HMQ hHeld ⊢
 clear hz4
 refine wpAnyH_done (by kernel_rfl) ?_ _
 have HEND := Lib.hid hHeld.2
 have HSE := Lib.hid hHeld.1
 clear hHeld
 clear HSS HSE HEND
 go_wp2_with fail
 have h8 := HN6.out.below HB7.out
 have hl := HL.out
 have hb8 := bthn HBB.out HB47.out
 refine bodyPost_ret (v := .tuple #[.int .u32 (i : Int), .agg #[.int .i64 k1, .int .u64 (b1 : Int), .slice a3 n1 c1, .slice a4 n2 c2], .int .i64 0]) ?_ rfl ⟨x1, by rw [HE.out], ?_, ?_⟩
 ·rw [ret_eq3 rfl]
  have r1 := lv_one agg24 (cellOf HTR.out.h1 0 (v := .int .u32 (i : Int)) rfl)
  have r2 := run_loadVar_mid (P := Tryz.prog) _ q2 0 159 [.int .i64 k1, .int .u64 (b1 : Int), .slice a3 n1 c1, .slice a4 n2 c2] _ (rangeOf HTR.out.h2) Tryz.underlying159 rfl infoNd
  have r3 := lv_one agg41 (cellOf HTR.out.h3 0 (v := .int .i64 0) rfl)
  simp only [asAddr, Array.getD_eq_getD_getElem?, List.getElem?_toArray, List.getElem?_cons_succ, List.getElem?_cons_zero, Option.getD_some, Sem.run_pure, Result.andThen_ok, r1, r2, r3]
 ·exact (h8.at_ (fun j hj => HMQ.out.block j (h8.lt j hj) (fun hh => by have h9 := h8.ge j hj; simp at hh; omega))).base HBB.out.size
 ·exact hb8.trans (HMQ.out.below (fun k hk => by simp at hk; omega) hb8.size)
end Go.Proofs.YtgmahhdnjikdjaaGreat
/- store.Hold, Drop, DropData, more where nothing is let go, walked. -/
namespace Go.Proofs.YtgmahhdnjikdjaaGreat
open Go.RowKit Go.Maps Wire
set_option linter.unusedVariables false
set_option linter.unusedSimpArgs false
/-- A block's count is another one. -/
def M.put (A : M) (i k : Nat) : M := { A with now := A.now.set i k }
section
variable {w w' : World} {S B pm pd mf md : Nat} {s : Su} {A D A' D' : M} {Fm Fd : List Nat} {l : List (Nat × (NdV × Nd))}
/-- The data area changed. -/
theorem StF.dataA (h : StF w S B pm pd mf md s A D Fm Fd l) (hm : Mods Fd w w') (ha : IA w' pd D' Fd) (ok : D'.Ok) (hl : D'.now.length = D.now.length) : StF w' S B pm pd mf md s A D' Fm Fd l :=
 ⟨⟨(hm.block _ (Array.getElem?_eq_some_iff.1 h.st.box).1 h.S_ne.2.2.2).trans h.st.box, h.st.ma.same (fun j hj => hm.block j (h.st.ma.lt j hj) (fun hh => h.dj j hh hj)), ha, h.st.mok, ok, h.st.ml, by rw [hl]; exact h.st.dl, h.st.wf⟩, h.map.mods hm h.mf_ne.2.2, fun p hp => (h.nd p hp).at_ (fun j hj => hm.block j ((h.nd p hp).lt j hj) (fun hh => h.sep p hp j hj (by simp [stF, hh]))), h.sep, Nat.lt_of_lt_of_le h.mdl hm.size, h.nS, h.nm, h.dj⟩
theorem putM_ok (ok : A.Ok) (i k : Nat) (hk : k < 65536) : (A.put i k).Ok := by
 refine ⟨by simpa [M.put] using ok.pos, by simpa [M.put] using ok.max, by simpa [M.put] using ok.len, by simpa [M.put] using ok.at_, by simpa [M.put] using ok.kept, ?_, ok.was⟩
 intro j hj
 rcases List.mem_or_eq_of_mem_set hj with h1 | h1
 ·exact ok.now j h1
 ·omega
end
set_option maxRecDepth 100000 in
set_option maxHeartbeats 3200000 in
theorem shold_0 {w : World} {S B pm pd mf md : Nat} {s : Su} {A D : M} {Fm Fd : List Nat} {l : List (Nat × (NdV × Nd))} (h : StF w S B pm pd mf md s A D Fm Fd l) : Calls Tryz.prog 42 #[.pointer (some ⟨S, 0, none⟩), .int .u32 0] w fun e w' => e = .returned (.int .i64 0) ∧ w = w' := by
 have CR := sready_at h.st
 clear h
 go_enter Tryz.func42, Tryz.ntmps42
 go_wp2_with fail
 refine CR.mono ?_
 rintro e w2 ⟨rfl, rfl⟩
 clear CR
 go_wp2_with fail
 go_ret
 exact ⟨rfl, rfl⟩
set_option maxRecDepth 100000 in
set_option maxHeartbeats 3200000 in
theorem shold_in {w : World} {S B pm pd mf md : Nat} {s : Su} {A D : M} {Fm Fd : List Nat} {l : List (Nat × (NdV × Nd))} (h : StF w S B pm pd mf md s A D Fm Fd l) (n : Nat) (h0 : n ≠ 0) (hn : n < A.now.length) (hc : ctN A.now n ≠ 0) (hx : ctN A.now n ≠ 65535) :
  Calls Tryz.prog 42 #[.pointer (some ⟨S, 0, none⟩), .int .u32 (n : Int)] w fun e w' => e = .returned (.int .i64 0) ∧ StF w' S B pm pd mf md s (A.put n (ctN A.now n + 1)) D Fm Fd l ∧ Mods Fm w w' := by
 have hm9 := h.st.mok.max
 have hcl : ctN A.now n < 65536 := h.st.mok.now _ (List.mem_of_getElem? (ctN_get hn))
 have CR := sready_at h.st
 have CS := sis_at h.st n h0 hn hc
 have CI := inc_in h.st.ma h.st.mok n hn hx hc
 have c2 := cellOf h.st.box 20 (v := .pointer (some ⟨pm, 0, none⟩)) rfl
 have hn0 : ((n : Int) == 0) = false := by simp; omega
 have hn4 : (n : Int) < 4294967296 := by omega
 have HH := Lib.hid h
 have HC := Lib.hid (And.intro hcl hx)
 unfold pt at CI
 clear h hcl hx hc
 go_enter Tryz.func42, Tryz.ntmps42
 go_wp2_with fail
 refine CR.mono ?_
 rintro e w2 ⟨rfl, rfl⟩
 clear CR
 go_wp2_with fail
 refine CS.mono ?_
 rintro e w2 ⟨rfl, rfl⟩
 clear CS
 go_wp2_with fail
 refine CI.mono ?_
 rintro e w3 ⟨rfl, hia, hlf⟩
 have H3 := Lib.hid (HH.out.area hlf.1 hia (putM_ok HH.out.st.mok n _ (by have := HC.out; omega)) (by simp [M.put]))
 have HM := Lib.hid hlf.1
 clear CI hia hlf c2
 go_wp2_with fail
 go_ret
 exact ⟨rfl, H3.out, HM.out⟩
set_option maxRecDepth 100000 in
set_option maxHeartbeats 3200000 in
theorem sdropd_in {w : World} {S B pm pd mf md : Nat} {s : Su} {A D : M} {Fm Fd : List Nat} {l : List (Nat × (NdV × Nd))} (h : StF w S B pm pd mf md s A D Fm Fd l) (n : Nat) (hn : n < D.now.length) (hc : 2 ≤ ctN D.now n) :
  Calls Tryz.prog 41 #[.pointer (some ⟨S, 0, none⟩), .int .u32 (n : Int)] w fun e w' => e = .returned (.int .i64 0) ∧ StF w' S B pm pd mf md s A (D.put n (ctN D.now n - 1)) Fm Fd l ∧ Mods Fd w w' := by
 have hm9 := h.st.dok.max
 have hcl : ctN D.now n < 65536 := h.st.dok.now _ (List.mem_of_getElem? (ctN_get hn))
 have CR := sready_at h.st
 have CD := dec_in h.st.da h.st.dok n hn (by omega)
 have c2 := cellOf h.st.box 21 (v := .pointer (some ⟨pd, 0, none⟩)) rfl
 have c3 := cellOf h.st.box 3 (v := .int .i64 s.data) rfl
 have hdl := h.st.dl
 obtain ⟨dt, hd⟩ : ∃ x, s.data = x := ⟨_, rfl⟩
 rw [hd] at c3 hdl
 have hn1 : decide (dt ≤ (n : Int)) = false := by simp; omega
 have hn4 : (n : Int) < 4294967296 := by omega
 obtain ⟨cc, hcc⟩ : ∃ x, ctN D.now n - 1 = x := ⟨_, rfl⟩
 rw [hcc] at CD ⊢
 have hz : ((cc : Int) == 0) = false := by simp; omega
 have HH := Lib.hid h
 have HC : Hid (cc < 65536) := Lib.hid (by omega)
 unfold pt at CD
 clear h hcl hc hd hdl hcc
 go_enter Tryz.func41, Tryz.ntmps41
 go_wp2_with fail
 refine CR.mono ?_
 rintro e w2 ⟨rfl, rfl⟩
 clear CR
 go_wp2_with fail
 refine CD.mono ?_
 rintro e w3 ⟨rfl, hia, hlf⟩
 have H3 := Lib.hid (HH.out.dataA hlf.1 hia (putM_ok HH.out.st.dok n _ HC.out) (by simp [M.put]))
 have HM := Lib.hid hlf.1
 clear CD hia hlf c2 c3
 dsimp only
 go_wp2_with fail
 go_ret
 exact ⟨rfl, H3.out, HM.out⟩
set_option maxRecDepth 100000 in
set_option maxHeartbeats 3200000 in
theorem smore_d {w : World} {S B pm pd mf md : Nat} {s : Su} {A D : M} {Fm Fd : List Nat} {l : List (Nat × (NdV × Nd))} (h : StF w S B pm pd mf md s A D Fm Fd l) (n : Nat) (hn : n < D.now.length) (hc : ctN D.now n ≠ 0) (hx : ctN D.now n ≠ 65535) :
  Calls Tryz.prog 161 #[.pointer (some ⟨S, 0, none⟩), .int .u32 (n : Int), .bool true] w fun e w' => e = .returned (.int .i64 0) ∧ StF w' S B pm pd mf md s A (D.put n (ctN D.now n + 1)) Fm Fd l ∧ Mods Fd w w' := by
 have hm9 := h.st.dok.max
 have hcl : ctN D.now n < 65536 := h.st.dok.now _ (List.mem_of_getElem? (ctN_get hn))
 have CI := inc_in h.st.da h.st.dok n hn hx hc
 have c1 := cellOf h.st.box 20 (v := .pointer (some ⟨pm, 0, none⟩)) rfl
 have c2 := cellOf h.st.box 21 (v := .pointer (some ⟨pd, 0, none⟩)) rfl
 have hn4 : (n : Int) < 4294967296 := by omega
 have HH := Lib.hid h
 have HC := Lib.hid (And.intro hcl hx)
 unfold pt at CI
 clear h hcl hx hc
 go_enter Tryz.func161, Tryz.ntmps161
 go_wp2_with fail
 refine CI.mono ?_
 rintro e w3 ⟨rfl, hia, hlf⟩
 have H3 := Lib.hid (HH.out.dataA hlf.1 hia (putM_ok HH.out.st.dok n _ (by have := HC.out; omega)) (by simp [M.put]))
 have HM := Lib.hid hlf.1
 clear CI hia hlf c1 c2
 go_wp2_with fail
 go_ret
 exact ⟨rfl, H3.out, HM.out⟩
end Go.Proofs.YtgmahhdnjikdjaaGreat
/- store.Drop of none, and of a block that is named more than once, walked. -/
namespace Go.Proofs.YtgmahhdnjikdjaaGreat
open Go.RowKit Go.Maps Wire
set_option linter.unusedVariables false
set_option linter.unusedSimpArgs false
set_option maxRecDepth 100000 in
set_option maxHeartbeats 6400000 in
theorem sdrop_0 {w : World} {S B pm pd mf md : Nat} {s : Su} {A D : M} {Fm Fd : List Nat} {l : List (Nat × (NdV × Nd))} (h : StF w S B pm pd mf md s A D Fm Fd l) : Calls Tryz.prog 37 #[.pointer (some ⟨S, 0, none⟩), .int .u32 0] w fun e w' => e = .returned (.int .i64 0) ∧ Below w.heap.size w w' := by
 obtain ⟨wa, hwa⟩ : ∃ W, w.alloc (.cells #[.pointer (some ⟨S, 0, none⟩)] 37) = W := ⟨_, rfl⟩
 have hba : Below w.heap.size w wa := by rw [← hwa]; exact balloc (Below.refl _ _) _
 have hxa : wa.heap[w.heap.size]? = some (.cells #[.pointer (some ⟨S, 0, none⟩)] 37 (0, 0)) := by rw [← hwa]; exact heap_alloc_new _ _
 obtain ⟨wb, hwb⟩ : ∃ W, wa.alloc (.cells #[.int .i64 0] 23) = W := ⟨_, rfl⟩
 have hbb : Below wa.heap.size wa wb := by rw [← hwb]; exact balloc (Below.refl _ _) _
 have hxb : wb.heap[wa.heap.size]? = some (.cells #[.int .i64 0] 23 (0, 0)) := by rw [← hwb]; exact heap_alloc_new _ _
 have HXA := Lib.hid ((hbb.block _ (Array.getElem?_eq_some_iff.1 hxa).1).trans hxa)
 have HXB := Lib.hid hxb
 have HBB := Lib.hid (bthn hba hbb)
 have HHB := Lib.hid (h.below HBB.out)
 have HZ : Hid (w.heap.size < wa.heap.size) := Lib.hid (Array.getElem?_eq_some_iff.1 hxa).1
 have c0 := cellOf HXA.out 0 (v := .pointer (some ⟨S, 0, none⟩)) rfl
 clear hba hxa hbb hxb
 have CR := sready_at HHB.out.st
 have b0 := cellOf HXB.out 0 (v := .int .i64 0) rfl
 have f0 := frozenOf HXB.out 0
 clear h
 go_enter Tryz.func37, Tryz.ntmps37
 go_wp2_with fail
 (try rw [hwa])
 (try rw [hwb])
 clear hwa hwb
 refine CR.mono ?_
 rintro e w2 ⟨rfl, rfl⟩
 clear CR
 go_wp2_with fail
 obtain ⟨w3, hw3⟩ : ∃ W, wb.setCell ⟨wa.heap.size, 0, none⟩ (.int .i64 0) = W := ⟨_, rfl⟩
 rw [hw3]
 have hx3 : w3.heap[wa.heap.size]? = some (.cells #[.int .i64 0] 23 (0, 0)) := by rw [← hw3]; exact setOf HXB.out 0 _
 have hb3 : Below w.heap.size w w3 := by rw [← hw3]; exact HBB.out.setCell (p := ⟨wa.heap.size, 0, none⟩) (Nat.le_of_lt HZ.out) _
 refine bodyPost_ret (v := .int .i64 0) ?_ rfl ⟨rfl, hb3⟩
 rw [ret_eq rfl]
 have r1 := lv_one agg41 (cellOf hx3 0 (v := .int .i64 0) rfl)
 simp only [asAddr, Array.getD_eq_getD_getElem?, List.getElem?_toArray, List.getElem?_cons_succ, List.getElem?_cons_zero, Option.getD_some, Sem.run_pure, Result.andThen_ok, r1]
set_option maxRecDepth 100000 in
set_option maxHeartbeats 6400000 in
theorem sdrop_more {w : World} {S B pm pd mf md : Nat} {s : Su} {A D : M} {Fm Fd : List Nat} {l : List (Nat × (NdV × Nd))} (h : StF w S B pm pd mf md s A D Fm Fd l) (n : Nat) (h0 : n ≠ 0) (hn : n < A.now.length) (hc : 2 ≤ ctN A.now n) :
  Calls Tryz.prog 37 #[.pointer (some ⟨S, 0, none⟩), .int .u32 (n : Int)] w fun e w' => e = .returned (.int .i64 0) ∧ StF w' S B pm pd mf md s (A.put n (ctN A.now n - 1)) D Fm Fd l ∧ Mods Fm w w' := by
 obtain ⟨wa, hwa⟩ : ∃ W, w.alloc (.cells #[.pointer (some ⟨S, 0, none⟩)] 37) = W := ⟨_, rfl⟩
 have hba : Below w.heap.size w wa := by rw [← hwa]; exact balloc (Below.refl _ _) _
 have hxa : wa.heap[w.heap.size]? = some (.cells #[.pointer (some ⟨S, 0, none⟩)] 37 (0, 0)) := by rw [← hwa]; exact heap_alloc_new _ _
 obtain ⟨wb, hwb⟩ : ∃ W, wa.alloc (.cells #[.int .i64 0] 23) = W := ⟨_, rfl⟩
 have hbb : Below wa.heap.size wa wb := by rw [← hwb]; exact balloc (Below.refl _ _) _
 have hxb : wb.heap[wa.heap.size]? = some (.cells #[.int .i64 0] 23 (0, 0)) := by rw [← hwb]; exact heap_alloc_new _ _
 have HXA := Lib.hid ((hbb.block _ (Array.getElem?_eq_some_iff.1 hxa).1).trans hxa)
 have HXB := Lib.hid hxb
 have HBB := Lib.hid (bthn hba hbb)
 have HHB := Lib.hid (h.below HBB.out)
 have HZ : Hid (w.heap.size < wa.heap.size) := Lib.hid (Array.getElem?_eq_some_iff.1 hxa).1
 have c0 := cellOf HXA.out 0 (v := .pointer (some ⟨S, 0, none⟩)) rfl
 clear hba hxa hbb hxb
 have hm9 := h.st.mok.max
 have hcl : ctN A.now n < 65536 := h.st.mok.now _ (List.mem_of_getElem? (ctN_get hn))
 have CR := sready_at HHB.out.st
 have CS := sis_at HHB.out.st n h0 hn (by omega)
 have hn0 : ((n : Int) == 0) = false := by simp; omega
 have hn4 : (n : Int) < 4294967296 := by omega
 have HOK := Lib.hid (And.intro h.st.mok hn)
 obtain ⟨wc, hwc⟩ : ∃ W, wb.alloc (.cells #[.int .i64 0, .int .u64 0, .slice none 0 0, .slice none 0 0] 159) = W := ⟨_, rfl⟩
 have hbc : Below wb.heap.size wb wc := by rw [← hwc]; exact balloc (Below.refl _ _) _
 have HBC := Lib.hid (bthn HBB.out hbc)
 have HHC := Lib.hid (HHB.out.below hbc)
 have HXA := Lib.hid ((hbc.block _ (Array.getElem?_eq_some_iff.1 HXA.out).1).trans HXA.out)
 have HXB := Lib.hid ((hbc.block _ (Array.getElem?_eq_some_iff.1 HXB.out).1).trans HXB.out)
 have CC := count_in HHC.out.st.ma h.st.mok n hn
 have CD := dec_in HHC.out.st.ma h.st.mok n hn (by omega)
 have c20 := cellOf HHC.out.st.box 20 (v := .pointer (some ⟨pm, 0, none⟩)) rfl
 have c1 := cellOf HXA.out 0 (v := .pointer (some ⟨S, 0, none⟩)) rfl
 have HLT : Hid (∀ k ∈ Fm, k < w.heap.size) := Lib.hid (fun k hk => h.lt k (by simp [stF, hk]))
 have HXL : Hid (∀ k ∈ stF S mf md Fm Fd, k < w.heap.size) := Lib.hid h.lt
 obtain ⟨c, hcc⟩ : ∃ x, ctN A.now n = x := ⟨_, rfl⟩
 rw [hcc] at CC CD hc hcl ⊢
 obtain ⟨cc, hcd⟩ : ∃ x, c - 1 = x := ⟨_, rfl⟩
 rw [hcd] at CD ⊢
 have hz : ((c : Int) == 1) = false := by simp; omega
 have hp : 0 < cc := by omega
 have hp4 : ¬ ((cc : Int) = 0) := by omega
 have HC : Hid (cc < 65536) := Lib.hid (by omega)
 unfold pt at CC CD
 clear h hcl hc hcc hcd hbc
 go_enter Tryz.func37, Tryz.ntmps37
 go_wp2_with fail
 (try rw [hwa])
 (try rw [hwb])
 clear hwa hwb
 refine CR.mono ?_
 rintro e w2 ⟨rfl, rfl⟩
 clear CR
 go_wp2_with fail
 refine CS.mono ?_
 rintro e w2 ⟨rfl, rfl⟩
 clear CS c0
 go_upto_region 8 with fail
 (try rw [hwc])
 clear hwc
 go_wp2_with fail
 refine CC.mono ?_
 rintro e w2 ⟨rfl, rfl⟩
 clear CC
 go_wp2_with fail
 refine CD.mono ?_
 rintro e w3 ⟨rfl, hia, hlf⟩
 have H3 := Lib.hid (HHC.out.area hlf.1 hia (putM_ok HOK.out.1 n _ HC.out) (by simp [M.put]))
 have HM3 : Hid (Mods Fm w w3) := Lib.hid ((Mods.of_below HBC.out).trans hlf.1 (fun k hk => .inl hk))
 have HXB3 : Hid (w3.heap[wa.heap.size]? = some (.cells #[.int .i64 0] 23 (0, 0))) := Lib.hid ((hlf.1.block _ (Array.getElem?_eq_some_iff.1 HXB.out).1 (fun hh => by have h1 := HLT.out _ hh; have := HZ.out; omega)).trans HXB.out)
 have b0 := cellOf HXB3.out 0 (v := .int .i64 0) rfl
 have f0 := frozenOf HXB3.out 0
 clear CD hia hlf c20 c1
 dsimp only
 go_wp2_with fail
 obtain ⟨w4, hw4⟩ : ∃ W, w3.setCell ⟨wa.heap.size, 0, none⟩ (.int .i64 0) = W := ⟨_, rfl⟩
 rw [hw4]
 have hx4 : w4.heap[wa.heap.size]? = some (.cells #[.int .i64 0] 23 (0, 0)) := by rw [← hw4]; exact setOf HXB3.out 0 _
 have hm4 : Mods [wa.heap.size] w3 w4 := by rw [← hw4]; exact (Mods.refl _ _).setCell (p := ⟨wa.heap.size, 0, none⟩) (List.mem_singleton.2 rfl) _
 refine bodyPost_ret (v := .int .i64 0) ?_ rfl ⟨rfl, ?_, ?_⟩
 ·rw [ret_eq rfl]
  have r1 := lv_one agg41 (cellOf hx4 0 (v := .int .i64 0) rfl)
  simp only [asAddr, Array.getD_eq_getD_getElem?, List.getElem?_toArray, List.getElem?_cons_succ, List.getElem?_cons_zero, Option.getD_some, Sem.run_pure, Result.andThen_ok, r1]
 ·refine H3.out.other hm4 (fun k hk hh => ?_) (fun p hp k hk hh => ?_)
  ·have e := List.mem_singleton.1 hh
   have h1 := HHB.out.lt k hk
   have h2 := HXL.out k hk
   have h3 := HZ.out
   omega
  ·have e := List.mem_singleton.1 hh
   subst e
   have h1 := H3.out.nd p hp
   rcases List.mem_append.1 hk with h2 | h2
   ·exact ob_tag h1.r1 HXB3.out (by decide) h2
   ·exact ob_tag h1.r2 HXB3.out (by decide) h2
 ·exact HM3.out.trans hm4 (fun k hk => .inr (by rw [List.mem_singleton.1 hk]; exact Nat.le_of_lt HZ.out))
end Go.Proofs.YtgmahhdnjikdjaaGreat
/- check: there, walk (of a store without trees), none, Names, Room, walked. -/
namespace Go.Proofs.YtgmahhdnjikdjaaGreat
open Go.RowKit Wire
set_option linter.unusedVariables false
set_option linter.unusedSimpArgs false
theorem stC_mid (B : Nat) (s : Su) (pm pd mf md : Nat) (bk : Bool) {j : Nat} {u : Value} (h : (suL s)[j]? = some u) : (stC B s pm pd mf md bk)[1 + j]? = some u := by
 have hj19 : j < 19 := (List.getElem?_eq_some_iff.1 h).1
 rcases (show j = 0 ∨ j = 1 ∨ j = 2 ∨ j = 3 ∨ j = 4 ∨ j = 5 ∨ j = 6 ∨ j = 7 ∨ j = 8 ∨ j = 9 ∨ j = 10 ∨ j = 11 ∨ j = 12 ∨ j = 13 ∨ j = 14 ∨ j = 15 ∨ j = 16 ∨ j = 17 ∨ j = 18 by omega) with rfl | rfl | rfl | rfl | rfl | rfl | rfl | rfl | rfl | rfl | rfl | rfl | rfl | rfl | rfl | rfl | rfl | rfl | rfl <;> exact h
theorem StB.sup {w : World} {S B pm pd mf md : Nat} {s : Su} {A D : M} {Fm Fd : List Nat} {bk : Bool} (h : StB w S B pm pd mf md s A D Fm Fd bk) : w.rangeAt S 1 (suL s) := fun j u hj => cellOf h.box (1 + j) (stC_mid B s pm pd mf md bk hj)
set_option maxRecDepth 100000 in
set_option maxHeartbeats 6400000 in
theorem ssuper_at {w : World} {S B pm pd mf md : Nat} {s : Su} {A D : M} {Fm Fd : List Nat} {bk : Bool} (h : StB w S B pm pd mf md s A D Fm Fd bk) : Calls Tryz.prog 44 #[.pointer (some ⟨S, 0, none⟩)] w fun e w' => e = .returned (suV s) ∧ Below w.heap.size w w' := by
 have HR : Hid (∀ X, Below w.heap.size w X → X.rangeAt S 1 (suL s)) := Lib.hid (fun X hX => (h.below hX).sup)
 rw [suL_v]
 obtain ⟨SL, hSL⟩ : ∃ L, suL s = L := ⟨_, rfl⟩
 have HS19 : Hid (SL.length = 19) := Lib.hid (by rw [← hSL]; rfl)
 have HS1 : Hid (∀ u ∈ SL, u.oneCell' = true) := Lib.hid (by rw [← hSL]; exact suL_one s)
 rw [hSL] at HR ⊢
 have hss : SL.toArray.size = 19 := by rw [List.size_toArray, HS19.out]
 have HIS : Hid ((Tryz.prog.info? 72).map (·.size) = some SL.length) := Lib.hid (by rw [HS19.out]; exact infoSup)
 clear h hSL
 go_enter Tryz.func44, Tryz.ntmps44
 go_upto_region 3 with fail
 apply wp_region_lit
 repeat (first
  | (refine wpList_load_mid rfl 72 _ rfl S 1 rfl SL _ (HR.out _ (balloc (Below.refl _ _) _)) Tryz.underlying72 rfl HIS.out ?_)
  | (refine wpList_store_mid rfl 72 _ _ rfl w.heap.size 0 SL.toArray rfl rfl (thereOf (heap_alloc_new w _) (by rw [hss]; simp)) (by rw [hss]; exact infoSup) (Array.all_eq_true_iff_forall_mem.2 (fun v hv => HS1.out v (by simpa using hv))) ?_)
  | go_step)
 refine bodyPost_ret (v := .agg SL.toArray) (res_one_sup rfl _ _ w.heap.size SL rfl (World.rangeAt_setCells_same _ _ _ _ (thereOf (heap_alloc_new w _) (by rw [HS19.out]; simp))) HIS.out) rfl ⟨rfl, ?_⟩
 exact belowSets (Nat.le_refl _) _ _ _ (balloc (Below.refl _ _) _)
set_option maxRecDepth 100000 in
set_option maxHeartbeats 3200000 in
theorem sbroken_at {w : World} {S B pm pd mf md : Nat} {s : Su} {A D : M} {Fm Fd : List Nat} {bk : Bool} (h : StB w S B pm pd mf md s A D Fm Fd bk) : Calls Tryz.prog 72 #[.pointer (some ⟨S, 0, none⟩)] w fun e w' => e = .returned (.bool bk) ∧ w = w' := by
 have c0 := cellOf h.box 24 (v := .bool bk) rfl
 clear h
 go_enter Tryz.func72, Tryz.ntmps72
 go_wp2_with fail
 go_ret
 exact ⟨rfl, rfl⟩
/-- Numbers in a block. -/
def iV (l : List Nat) : List Value := l.map fun c => .int .i64 ((c : Nat) : Int)
def BoxI (w : World) (q : Nat) (l : List Nat) : Prop := w.heap[q]? = some (.cells (iV l).toArray 3 (0, 0))
theorem iV_get {l : List Nat} {j c : Nat} (h : l[j]? = some c) : (iV l)[j]? = some (.int .i64 (c : Int)) := by simp [iV, h]
theorem BoxI.cell {w : World} {q : Nat} {l : List Nat} (h : BoxI w q l) {j c : Nat} (hj : l[j]? = some c) : w.cell? ⟨q, j, none⟩ = some (.int .i64 (c : Int)) ∧ w.frozen? ⟨q, j, none⟩ = false :=
 ⟨cellOf h j (by rw [List.getElem?_toArray]; exact iV_get hj), frozenOf h j⟩
theorem BoxI.set {w : World} {q : Nat} {l : List Nat} (h : BoxI w q l) (j c : Nat) : BoxI (w.setCell ⟨q, j, none⟩ (.int .i64 (c : Int))) q (l.set j c) := by
 have h1 := setOf h j (.int .i64 (c : Int))
 unfold BoxI
 rw [h1]
 congr 2
 apply Array.toList_inj.1
 simp [iV, List.map_set]
/-- What walk has made. -/
def NmAt (w : World) (q gm gd mp m k : Nat) (lm ld : List Nat) : Prop := w.heap[q]? = some (.cells #[.slice (some ⟨gm, 0, none⟩) m m, .slice (some ⟨gd, 0, none⟩) k k, .map (some mp), .slice none 0 0] 327 (0, 0)) ∧ BoxI w gm lm ∧ BoxI w gd ld ∧ gm ≠ gd
theorem NmAt.below {w w' : World} {q gm gd mp m k : Nat} {lm ld : List Nat} (h : NmAt w q gm gd mp m k lm ld) (hb : Below w.heap.size w w') : NmAt w' q gm gd mp m k lm ld :=
 ⟨(hb.block _ (Array.getElem?_eq_some_iff.1 h.1).1).trans h.1, (hb.block _ (Array.getElem?_eq_some_iff.1 h.2.1).1).trans h.2.1, (hb.block _ (Array.getElem?_eq_some_iff.1 h.2.2.1).1).trans h.2.2.1, h.2.2.2⟩
end Go.Proofs.YtgmahhdnjikdjaaGreat
/- btree.may, walked. -/
namespace Go.Proofs.YtgmahhdnjikdjaaGreat
open Go.RowKit Go.Maps Wire
set_option linter.unusedVariables false
set_option linter.unusedSimpArgs false
set_option maxRecDepth 100000 in
set_option maxHeartbeats 6400000 in
theorem tmay_in {w : World} {S B pm pd mf md : Nat} {s : Su} {A D : M} {Fm Fd : List Nat} (h : StB w S B pm pd mf md s A D Fm Fd false) (n : Nat) (hn : n < A.now.length) : Calls Tryz.prog 73 #[.pointer (some ⟨S, 0, none⟩), .int .u32 (n : Int)] w fun e w' => e = .returned (.int .i64 0) ∧ Below w.heap.size w w' := by
 have CS := ssuper_at h
 have CB : Hid (∀ X, Below w.heap.size w X → Calls Tryz.prog 72 #[.pointer (some ⟨S, 0, none⟩)] X fun e w' => e = .returned (.bool false) ∧ X = w') := Lib.hid (fun X hX => sbroken_at (h.below hX))
 have hm9 := h.mok.max
 have hmt := h.ml
 rw [suL_v] at CS
 obtain ⟨SL, hSL⟩ : ∃ L, suL s = L := ⟨_, rfl⟩
 have HMT : Hid (SL[1]? = some (.int .i64 s.mt)) := Lib.hid (by rw [← hSL]; rfl)
 have HS19 : Hid (SL.length = 19) := Lib.hid (by rw [← hSL]; rfl)
 have HS1 : Hid (SL.toArray.all (·.oneCell') = true) := Lib.hid (by rw [← hSL]; exact Array.all_eq_true_iff_forall_mem.2 (fun v hv => suL_one s v (by simpa using hv)))
 have hss : SL.toArray.size = 19 := by rw [List.size_toArray, HS19.out]
 rw [hSL] at CS
 obtain ⟨mt, hm⟩ : ∃ x, s.mt = x := ⟨_, rfl⟩
 rw [hm] at HMT hmt
 have hn4 : (n : Int) < 4294967296 := by omega
 have hz : (mt == 0) = false := by simp; omega
 have hn1 : decide (mt ≤ (n : Int)) = false := by simp; omega
 clear h hSL hm hmt
 go_enter Tryz.func73, Tryz.ntmps73
 go_wp2_with fail
 refine CS.mono ?_
 rintro e w2 ⟨rfl, hb2⟩
 have HB2 := Lib.hid hb2
 clear CS hb2
 dsimp only
 repeat (first
  | (refine wpList_store_mid rfl 72 _ _ rfl w2.heap.size 0 SL.toArray rfl rfl (thereOf (heap_alloc_new w2 _) (by rw [hss]; simp)) (by rw [hss]; exact infoSup) HS1.out ?_; refine Hid.out ?_)
  | go_step)
 refine Lib.hid ?_
 obtain ⟨w4, hw4⟩ : ∃ W, (w2.alloc (.cells #[.int .u64 0, .int .i64 0, .int .i64 0, .int .u32 0, .int .u32 0, .int .u32 0, .int .u32 0, .int .u32 0, .int .u32 0, .int .u32 0, .int .u32 0, .int .u32 0, .int .i64 0, .int .u64 0, .int .u64 0, .int .u64 0, .int .u64 0, .int .u64 0, .bool false] 72)).setCells w2.heap.size 0 SL = W := ⟨_, rfl⟩
 have HB4 : Hid (Below w.heap.size w w4) := Lib.hid (by rw [← hw4]; exact bthn HB2.out (belowSets (Nat.le_refl _) _ _ _ (balloc (Below.refl _ _) _)))
 obtain ⟨g4, hg4⟩ : ∃ g, w2.heap.size = g := ⟨_, rfl⟩
 have HR4 : Hid (w4.rangeAt g4 0 SL) := Lib.hid (by rw [← hw4, ← hg4]; exact World.rangeAt_setCells_same _ _ _ _ (thereOf (heap_alloc_new w2 _) (by rw [HS19.out]; simp)))
 have hc1 : w4.cell? ⟨g4, 1, none⟩ = some (.int .i64 mt) := HR4.out 1 _ HMT.out
 have CB4 := CB.out w4 HB4.out
 simp only [List.toList_toArray]
 rw [hw4, hg4]
 clear hw4 hg4 CB
 go_wp2_with fail
 refine CB4.mono ?_
 rintro e w5 ⟨rfl, rfl⟩
 clear CB4
 go_wp2_with fail
 go_ret
 exact ⟨rfl, HB4.out⟩
end Go.Proofs.YtgmahhdnjikdjaaGreat
