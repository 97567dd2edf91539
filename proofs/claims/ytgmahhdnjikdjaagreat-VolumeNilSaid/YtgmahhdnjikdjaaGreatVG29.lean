import Derived.Test.YtgmahhdnjikdjaaGreatVG28
import Derived.Test.YtgmahhdnjikdjaaGreatVG27
set_option linter.unusedVariables false
set_option linter.unusedSimpArgs false
/- store.Shadow of a fresh block that is named more than once: a leaf with one value, walked. -/
namespace Go.Proofs.YtgmahhdnjikdjaaGreat
open Go.RowKit Go.Maps Wire
set_option linter.unusedVariables false
set_option linter.unusedSimpArgs false
attribute [local go_sem] Oper.semAt_some
theorem rf_lit {F : Fence} {n : Nat} {P : Program} {c : Code} {Q : Exit → Act → World → Prop} {a : Act} {w : World} (H : ∀ a0, a0 = a → c.wpIn F n P Q a0 w) : c.wpIn F n P Q a w := H a rfl
theorem modsR {w w' : World} {row : Option Nat} (hg : w.grownBy w' row) : Mods row.toList w w' := ⟨hg.os, hg.tape, hg.output, hg.size, fun i hi hne => hg.block i hi (fun e => hne (by rw [← e]; simp))⟩
def dN (D : M) (v k : Nat) : M := if k = 0 then D else D.put v (ctN D.now v + 1)
theorem StF.grownR {w w' : World} {row : Option Nat} {S B pm pd mf md z : Nat} {s : Su} {A D : M} {Fm Fd : List Nat} {l : List (Nat × (NdV × Nd))} (h : StF w S B pm pd mf md s A D Fm Fd l) (hg : w.grownBy w' row) (hr : ∀ r, row = some r → z ≤ r) (h1 : ∀ k ∈ stF S mf md Fm Fd, k < z) (h2 : ∀ p ∈ l, ∀ j ∈ obN p.2.1, j < z) : StF w' S B pm pd mf md s A D Fm Fd l := by
 have hm : Mods row.toList w w' := ⟨hg.os, hg.tape, hg.output, hg.size, fun i hi hne => hg.block i hi (fun e => hne (by rw [← e]; simp))⟩
 refine h.other hm (fun k hk hh => ?_) (fun p hp j hj hh => ?_)
 ·have h3 := h1 k hk
  have h4 := hr k (by simpa using hh)
  omega
 ·have h3 := h2 p hp j hj
  have h4 := hr j (by simpa using hh)
  omega
/-- What Shadow leaves of a block that is named more than once. -/
def ShadM (w : World) (S B pm pd mf md : Nat) (s : Su) (A D : M) (Fm Fd : List Nat) (l : List (Nat × (NdV × Nd))) (i o v c : Nat) (y : Nd) (e : Ending) (w' : World) : Prop :=
 ∃ x xx base, e = .returned (.tuple #[.int .u32 (o : Int), ndA x, .int .i64 0]) ∧ NdAt w' base x { y with b := s.tx + 1 } ∧ StF w' S B pm pd mf md s ((allocM A o).put i (c - 1)) (D.put v (ctN D.now v + 1)) Fm Fd (putA o (xx, { y with b := s.tx + 1 }) l) ∧ Mods (mf :: (Fm ++ Fd)) w w' ∧
  w.heap.size ≤ base ∧ (∀ p ∈ putA o (xx, { y with b := s.tx + 1 }) l, ∀ j ∈ obN p.2.1, j < base) ∧ ∀ j ∈ obN xx, w.heap.size ≤ j
set_option maxRecDepth 100000 in
set_option maxHeartbeats 25600000 in
theorem sshad_more_in {w : World} {S B pm pd mf md : Nat} {s : Su} {A D : M} {Fm Fd : List Nat} {l : List (Nat × (NdV × Nd))} (h : StF w S B pm pd mf md s A D Fm Fd l) (i : Nat) (h0 : i ≠ 0) (hi9 : i < A.now.length) (c : Nat) (hcc : ctN A.now i = c) (h2c : 2 ≤ c) (x : NdV) (y : Nd) (hg : getA i l = some (x, y)) (hyo : y.Ok) (hyk : y.k = 2) (v : Nat) (hyv : y.vals = [v]) (hvl : v < D.now.length) (hvc : ctN D.now v ≠ 0) (hvx : ctN D.now v ≠ 65535) (o : Nat) (hf : find A 0 = some o) (hoc : ctN (allocM A o).now i = c) (hol : (allocM A o).now.length = A.now.length) (htx : s.tx + 1 < 18446744073709551616) (hlen : l.length ≤ 10000) :
  CallsIn Fence.wide 5 Tryz.prog 125 #[.pointer (some ⟨S, 0, none⟩), .int .u32 (i : Int)] w (ShadM w S B pm pd mf md s A D Fm Fd l i o v c y) := by
 have hro : Fence.wide.round = none := rfl
 have hy : y.keys.length ≤ 1000 := by have := hyo.n; omega
 have hv : y.vals.length ≤ 1000 := by rw [hyv]; show 1 ≤ 1000; omega
 have hm9 := h.st.mok.max
 have HH := Lib.hid h
 have HLS : Hid (∀ k ∈ stF S mf md Fm Fd, k < w.heap.size) := Lib.hid h.lt
 have HPRM := Lib.hid (And.intro hyo (And.intro hf (And.intro htx (And.intro hlen (And.intro hyk (And.intro hyv (And.intro hvl (And.intro hvc hvx))))))))
 obtain ⟨w1, hw1⟩ : ∃ W, w.alloc (.cells #[.pointer (some ⟨S, 0, none⟩)] 37) = W := ⟨_, rfl⟩
 have hb1 : Below w.heap.size w w1 := by rw [← hw1]; exact balloc (Below.refl _ _) _
 have hx1 : w1.heap[w.heap.size]? = some (.cells #[.pointer (some ⟨S, 0, none⟩)] 37 (0, 0)) := by rw [← hw1]; exact heap_alloc_new _ _
 obtain ⟨w2, hw2⟩ : ∃ W, w1.alloc (.cells #[.int .u32 0] 22) = W := ⟨_, rfl⟩
 have hb2 : Below w1.heap.size w1 w2 := by rw [← hw2]; exact balloc (Below.refl _ _) _
 have hx2 : w2.heap[w1.heap.size]? = some (.cells #[.int .u32 0] 22 (0, 0)) := by rw [← hw2]; exact heap_alloc_new _ _
 obtain ⟨w3, hw3⟩ : ∃ W, w2.alloc (.cells #[.int .i64 0, .int .u64 0, .slice none 0 0, .slice none 0 0] 159) = W := ⟨_, rfl⟩
 have hb3 : Below w2.heap.size w2 w3 := by rw [← hw3]; exact balloc (Below.refl _ _) _
 have hx3 : w3.heap[w2.heap.size]? = some (.cells ndZ.toArray 159 (0, 0)) := by rw [← hw3]; exact heap_alloc_new _ _
 obtain ⟨w4, hw4⟩ : ∃ W, w3.alloc (.cells #[.int .i64 0] 23) = W := ⟨_, rfl⟩
 have hb4 : Below w3.heap.size w3 w4 := by rw [← hw4]; exact balloc (Below.refl _ _) _
 have hx4 : w4.heap[w3.heap.size]? = some (.cells #[.int .i64 0] 23 (0, 0)) := by rw [← hw4]; exact heap_alloc_new _ _
 obtain ⟨q1, hq1⟩ : ∃ q, w1.heap.size = q := ⟨_, rfl⟩
 obtain ⟨q2, hq2⟩ : ∃ q, w2.heap.size = q := ⟨_, rfl⟩
 obtain ⟨q3, hq3⟩ : ∃ q, w3.heap.size = q := ⟨_, rfl⟩
 have l1 := (Array.getElem?_eq_some_iff.1 hx1).1
 have l2 := (Array.getElem?_eq_some_iff.1 hx2).1
 have l3 := (Array.getElem?_eq_some_iff.1 hx3).1
 have l4 := (Array.getElem?_eq_some_iff.1 hx4).1
 rw [hq1] at hx2 l1 l2
 rw [hq2] at hx3 l2 l3
 rw [hq3] at hx4 l3 l4
 have HL := Lib.hid (And.intro l1 (And.intro l2 (And.intro l3 l4)))
 have hx4a : w4.heap[w.heap.size]? = some (.cells #[.pointer (some ⟨S, 0, none⟩)] 37 (0, 0)) := ((bthn hb2 (bthn hb3 hb4)).block _ (by omega)).trans hx1
 have hx4b : w4.heap[q1]? = some (.cells #[.int .u32 0] 22 (0, 0)) := ((bthn hb3 hb4).block _ (by omega)).trans hx2
 have hx4c : w4.heap[q2]? = some (.cells ndZ.toArray 159 (0, 0)) := (hb4.block _ (by omega)).trans hx3
 have HBB := Lib.hid (bthn hb1 (bthn hb2 (bthn hb3 hb4)))
 have h4 := h.below HBB.out
 have CI := sis_at h4.st i h0 hi9 (by omega)
 have CN := snode_in h4 i h0 hi9 (by omega) x y hg hy hv
 have ca := cellOf hx4a 0 rfl
 have HXA := Lib.hid hx4a
 have HXB := Lib.hid hx4b
 have HXC := Lib.hid hx4c
 have HXD := Lib.hid hx4
 have H4 := Lib.hid h4
 have HG := Lib.hid hg
 have HI32 : Hid (i < 4294967296) := Lib.hid (by omega)
 have HC := Lib.hid hcc
 have HI9 := Lib.hid hi9
 have HOC := Lib.hid (And.intro hoc (And.intro hol h2c))
 have hc1 : ((c : Int) == 1) = false := by simp; omega
 clear hb1 hx1 hb2 hx2 hb3 hx3 hb4 hx4 hx4a hx4b hx4c l1 l2 l3 l4 h h4 hg hcc hi9 hyo hyk hyv hvl hvc hvx hf hoc hol htx hlen hy hv h2c
 refine callsIn_of_wp_marks Tryz.func125 rfl trivial ?_ hro
 refine wpIn_wide.2 ?_
 simp only [Tryz.ntmps125, List.size_toArray, List.length_cons, List.length_nil, Nat.reduceAdd, Nat.reduceSub, Array.replicate_succ, Array.replicate_zero, List.push_toArray, List.append_toArray, List.nil_append, List.cons_append]
 go_wp2_with fail
 (try rw [hw1, hq1])
 (try rw [hw2, hq2])
 (try rw [hw3, hq3])
 (try rw [hw4])
 clear hw1 hw2 hw3 hw4 hq1 hq2 hq3
 refine CI.mono ?_
 rintro e w5 ⟨rfl, rfl⟩
 clear CI
 go_wp2_with fail
 refine CN.mono ?_
 rintro e w5 ⟨x1, rfl, hnd, hb5⟩
 have HN5 := Lib.hid hnd
 have HB5 := Lib.hid hb5
 have ca5 := cellOf ((HB5.out.block _ (Array.getElem?_eq_some_iff.1 HXA.out).1).trans HXA.out) 0 (v := .pointer (some ⟨S, 0, none⟩)) rfl
 obtain ⟨a3, a4, e1, e2, e3⟩ := ndA_eq x1
 rw [e1]
 have HE := Lib.hid e1
 obtain ⟨k1, hk1⟩ : ∃ z, x1.k = z := ⟨_, rfl⟩
 obtain ⟨b1, hb1⟩ : ∃ z, x1.b = z := ⟨_, rfl⟩
 obtain ⟨n1, hn1⟩ : ∃ z, x1.n1 = z := ⟨_, rfl⟩
 obtain ⟨c1, hcc1⟩ : ∃ z, x1.c1 = z := ⟨_, rfl⟩
 obtain ⟨n2, hn2⟩ : ∃ z, x1.n2 = z := ⟨_, rfl⟩
 obtain ⟨c2, hc2⟩ : ∃ z, x1.c2 = z := ⟨_, rfl⟩
 rw [hk1, hb1, hn1, hcc1, hn2, hc2] at HE ⊢
 have HQ5 := Lib.hid (And.intro e2 (And.intro e3 (And.intro hk1 (And.intro hb1 (And.intro hn1 (And.intro hcc1 (And.intro hn2 hc2)))))))
 clear CN ca hnd hb5 e1 e2 e3 hk1 hb1 hn1 hcc1 hn2 hc2
 dsimp only
 go_upto_region 7 with fail
 obtain ⟨w6, hw6⟩ : ∃ W, w5.alloc (.cells #[.int .i64 k1, .int .u64 (b1 : Int), .slice a3 n1 c1, .slice a4 n2 c2] 159) = W := ⟨_, rfl⟩
 rw [hw6]
 have hb6 : Below w5.heap.size w5 w6 := by rw [← hw6]; exact balloc (Below.refl _ _) _
 have hx6 : w6.heap[w5.heap.size]? = some (.cells #[.int .i64 k1, .int .u64 (b1 : Int), .slice a3 n1 c1, .slice a4 n2 c2] 159 (0, 0)) := by rw [← hw6]; exact heap_alloc_new _ _
 obtain ⟨p, hp⟩ : ∃ q, w5.heap.size = q := ⟨_, rfl⟩
 rw [hp] at hx6
 rw [hp]
 have HP4 : Hid (w4.heap.size ≤ p) := Lib.hid (by rw [← hp]; exact HB5.out.size)
 have HP : Hid (q3 < p) := Lib.hid (by rw [← hp]; exact Nat.lt_of_lt_of_le HL.out.2.2.2 HB5.out.size)
 have HX6 := Lib.hid hx6
 have HB46 : Hid (Below w4.heap.size w4 w6) := Lib.hid (bthn HB5.out hb6)
 have HN6 : Hid (NdAt w6 w4.heap.size x1 y) := Lib.hid (HN5.out.below hb6)
 have ca6 := cellOf ((HB46.out.block _ (Array.getElem?_eq_some_iff.1 HXA.out).1).trans HXA.out) 0 (v := .pointer (some ⟨S, 0, none⟩)) rfl
 have h6 := H4.out.below HB46.out
 have hl := (h6.look HI32.out HG.out).1
 have c22 := cellOf h6.st.box 22 (v := .map (some mf)) rfl
 obtain ⟨a5, a6, e1, e2, e3⟩ := ndA_eq x
 rw [e1] at hl
 clear e1 e2 e3
 obtain ⟨k0, hk0⟩ : ∃ z, x.k = z := ⟨_, rfl⟩
 obtain ⟨tx, htx⟩ : ∃ z, x.b = z := ⟨_, rfl⟩
 obtain ⟨n5, hn5⟩ : ∃ z, x.n1 = z := ⟨_, rfl⟩
 obtain ⟨c5, hc5⟩ : ∃ z, x.c1 = z := ⟨_, rfl⟩
 obtain ⟨n6, hn6⟩ : ∃ z, x.n2 = z := ⟨_, rfl⟩
 obtain ⟨c6, hc6⟩ : ∃ z, x.c2 = z := ⟨_, rfl⟩
 rw [hk0, htx, hn5, hc5, hn6, hc6] at hl
 clear hk0 htx hn5 hc5 hn6 hc6 hw6 hb6 hx6 hp h6 ca5
 go_upto_region 8 with fail
 obtain ⟨w7, hw7⟩ : ∃ W, w6.alloc (.cells #[.int .i64 k0, .int .u64 (tx : Int), .slice a5 n5 c5, .slice a6 n6 c6] 159) = W := ⟨_, rfl⟩
 rw [hw7]
 have hb7 : Below w6.heap.size w6 w7 := by rw [← hw7]; exact balloc (Below.refl _ _) _
 have HB7 := Lib.hid hb7
 have HB47 : Hid (Below w4.heap.size w4 w7) := Lib.hid (bthn HB46.out hb7)
 have CC := count_in (H4.out.below HB47.out).st.ma H4.out.st.mok i HI9.out
 rw [HC.out] at CC
 unfold pt at CC
 have c20 := cellOf (H4.out.below HB47.out).st.box 20 (v := .pointer (some ⟨pm, 0, none⟩)) rfl
 have ca7 := cellOf ((HB47.out.block _ (Array.getElem?_eq_some_iff.1 HXA.out).1).trans HXA.out) 0 (v := .pointer (some ⟨S, 0, none⟩)) rfl
 have hn4 : (i : Int) < 4294967296 := by have := HI32.out; omega
 have HX7 := Lib.hid ((hb7.block _ (Array.getElem?_eq_some_iff.1 HX6.out).1).trans HX6.out)
 clear hw7 hb7 hl c22 ca6
 go_wp2_with fail
 refine CC.mono ?_
 rintro e w8 ⟨rfl, rfl⟩
 clear CC
 have HN8 : Hid (NdAt w8 w4.heap.size x1 y) := Lib.hid (HN6.out.below HB7.out)
 have HR1 : Hid (w8.ownsRow w4.heap.size 26 1 (.slice a3 n1 c1) n1 (qV y.keys)) := Lib.hid (by
  have h1 := HN8.out.r1
  have h2 := HN8.out.n1
  rw [HQ5.out.1, ← h2, HQ5.out.2.2.2.2.1, HQ5.out.2.2.2.2.2.1] at h1
  exact h1)
 have HR2 : Hid (w8.ownsRow w4.heap.size 26 1 (.slice a4 n2 c2) n2 (qV y.vals)) := Lib.hid (by
  have h1 := HN8.out.r2
  have h2 := HN8.out.n2
  rw [HQ5.out.2.1, ← h2, HQ5.out.2.2.2.2.2.2.1, HQ5.out.2.2.2.2.2.2.2] at h1
  exact h1)
 have hk1 : y.k = k1 := by rw [← HQ5.out.2.2.1]; exact HN8.out.k.symm
 have hb1 : y.b = b1 := by rw [← HQ5.out.2.2.2.1]; exact HN8.out.b.symm
 have hln1 : y.keys.length = n1 := by rw [← HN8.out.n1]; exact HQ5.out.2.2.2.2.1
 have hln2 : y.vals.length = n2 := by rw [← HN8.out.n2]; exact HQ5.out.2.2.2.2.2.2.1
 have HLN := Lib.hid (And.intro hln1 hln2)
 have CW := snew_in (H4.out.below HB47.out) y (.slice a3 n1 c1) (.slice a4 n2 c2) HPRM.out.1 (fun X hX => by
  rw [HLN.out.1]
  exact Rd.of_own (ownsRow_at HR1.out (fun k hk => hX.block k (ownsRow_lt HR1.out k hk) (fun hh => by
   have h1 := ownsRow_ge HR1.out k hk
   have h2 := HLS.out k (by simp [stF, hh])
   have h3 := HBB.out.size
   omega)))) (fun X hX => by
  rw [HLN.out.2]
  exact Rd.of_own (ownsRow_at HR2.out (fun k hk => hX.block k (ownsRow_lt HR2.out k hk) (fun hh => by
   have h1 := ownsRow_ge HR2.out k hk
   have h2 := HLS.out k (by simp [stF, hh])
   have h3 := HBB.out.size
   omega)))) o HPRM.out.2.1 HPRM.out.2.2.1 HPRM.out.2.2.2.1
 obtain rfl : k1 = 2 := by rw [← hk1]; exact HPRM.out.2.2.2.2.1
 rw [hk1, hb1] at CW
 have HBY : Hid (y.b = b1) := Lib.hid hb1
 clear hk1 hb1 hln1 hln2
 have d0 := cellOf HX7.out 0 (v := .int .i64 2) rfl
 have d1 := cellOf HX7.out 1 (v := .int .u64 (b1 : Int)) rfl
 have d2 := cellOf HX7.out 2 (v := .slice a3 n1 c1) rfl
 have d3 := cellOf HX7.out 3 (v := .slice a4 n2 c2) rfl
 go_wp2_with fail
 refine CW.mono ?_
 rintro e w9 ⟨xx, rfl, hst9, hm9', hge9⟩
 dsimp only
 have HNF : Hid (∀ k, w.heap.size ≤ k → k ∉ mf :: (Fm ++ Fd)) := Lib.hid (fun k hk hh => by
  have h1 := HLS.out k (by
   rcases List.mem_cons.1 hh with h | h
   ·simp [stF, h]
   ·rcases List.mem_append.1 h with h | h <;> simp [stF, h])
  omega)
 have HNG : Hid (∀ k, w.heap.size ≤ k → k ∉ mf :: Fm) := Lib.hid (fun k hk hh => HNF.out k hk (by
  rcases List.mem_cons.1 hh with h | h
  ·simp [h]
  ·simp [h]))
 have HW4 := Lib.hid HBB.out.size
 have HST9 := Lib.hid hst9
 have HGE9 := Lib.hid hge9
 have HM9 := Lib.hid hm9'
 have HX8A : Hid (w8.heap[w.heap.size]? = some (.cells #[.pointer (some ⟨S, 0, none⟩)] 37 (0, 0))) := Lib.hid ((HB47.out.block _ (Array.getElem?_eq_some_iff.1 HXA.out).1).trans HXA.out)
 have HX9A : Hid (w9.heap[w.heap.size]? = some (.cells #[.pointer (some ⟨S, 0, none⟩)] 37 (0, 0))) := Lib.hid ((HM9.out.block _ (Array.getElem?_eq_some_iff.1 HX8A.out).1 (HNG.out _ (Nat.le_refl _))).trans HX8A.out)
 have HX9P : Hid (w9.heap[p]? = some (.cells #[.int .i64 2, .int .u64 (b1 : Int), .slice a3 n1 c1, .slice a4 n2 c2] 159 (0, 0))) := Lib.hid ((HM9.out.block _ (Array.getElem?_eq_some_iff.1 HX7.out).1 (HNG.out _ (by have h1 := HP4.out; have h2 := HW4.out; omega))).trans HX7.out)
 have HR29 : Hid (w9.ownsRow w4.heap.size 26 1 (.slice a4 n2 c2) n2 (qV y.vals)) := Lib.hid (ownsRow_at HR2.out (fun k hk => HM9.out.block k (ownsRow_lt HR2.out k hk) (HNG.out k (by have h1 := ownsRow_ge HR2.out k hk; have h2 := HW4.out; omega))))
 have HYV : Hid (y.vals = [v]) := Lib.hid HPRM.out.2.2.2.2.2.1
 have hn2 : n2 = 1 := by rw [← HLN.out.2, HYV.out]; rfl
 obtain ⟨g, cp, cur, e9, hgb, hgl, _, _, hgx, _, htk⟩ := rowSome HR29.out (by omega)
 have hg0 : w9.cell? ⟨g, 0, none⟩ = some (.int .u64 (v : Int)) := cellOf hgx 0 (by
  have h9 : (qV y.vals)[0]? = some (.int .u64 (v : Int)) := by rw [HYV.out]; rfl
  rw [← htk, List.getElem?_take] at h9
  split at h9
  ·simpa using h9
  ·cases h9)
 obtain ⟨rfl, _, rfl⟩ := Value.slice.inj e9
 subst hn2
 have HGL : Hid (g < w9.heap.size ∧ w4.heap.size ≤ g) := Lib.hid ⟨hgl, hgb⟩
 have HG0 := Lib.hid hg0
 have CNM := names_any w9 2 (b1 : Int) (.slice a3 n1 c1) (.slice (some ⟨g, 0, none⟩) 1 c2) ⟨_, _, _, rfl⟩ ⟨_, _, _, rfl⟩
 have e0 := cellOf HX9P.out 0 (v := .int .i64 2) rfl
 have e1 := cellOf HX9P.out 1 (v := .int .u64 (b1 : Int)) rfl
 have e2 := cellOf HX9P.out 2 (v := .slice a3 n1 c1) rfl
 have e3 := cellOf HX9P.out 3 (v := .slice (some ⟨g, 0, none⟩) 1 c2) rfl
 clear CW hst9 hm9' hge9 e9 hgb hgl hgx htk hg0 d0 d1 d2 d3 ca7 c20
 go_wp2_with fail
 refine CNM.mono ?_
 rintro e wA ⟨rfl, hwA⟩
 have hbA : Below w9.heap.size w9 wA := by rw [← hwA]; exact balloc (Below.refl _ _) _
 have hxA : wA.heap[w9.heap.size]? = some (.cells #[.int .i64 2, .int .u64 (b1 : Int), .slice a3 n1 c1, .slice (some ⟨g, 0, none⟩) 1 c2] 159 (0, 0)) := by rw [← hwA]; exact heap_alloc_new _ _
 have HBA := Lib.hid hbA
 have HXPA := Lib.hid hxA
 have HSTA := Lib.hid (HST9.out.below hbA)
 obtain ⟨p2, hp2⟩ : ∃ z, w9.heap.size = z := ⟨_, rfl⟩
 rw [hp2] at HXPA ⊢
 clear CNM hwA hbA hxA e0 e1 e2 e3 hp2
 go_wp2_with fail
 obtain ⟨A1, hA1⟩ : ∃ z, allocM A o = z := ⟨_, rfl⟩
 obtain ⟨l1, hl1⟩ : ∃ z, putA o (xx, { y with b := s.tx + 1 }) l = z := ⟨_, rfl⟩
 rw [hA1, hl1] at HSTA
 have HA1 := Lib.hid hA1
 have HL1 := Lib.hid hl1
 clear hA1 hl1
 have HNA : Hid (∀ q ∈ l1, ∀ j ∈ obN q.2.1, j < wA.heap.size) := Lib.hid (fun q hq => (HSTA.out.nd q hq).lt)
 have HSA : Hid (∀ k ∈ stF S mf md Fm Fd, k < wA.heap.size) := Lib.hid HSTA.out.lt
 have HXAA : Hid (wA.heap[w.heap.size]? = some (.cells #[.pointer (some ⟨S, 0, none⟩)] 37 (0, 0))) := Lib.hid ((HBA.out.block _ (Array.getElem?_eq_some_iff.1 HX9A.out).1).trans HX9A.out)
 refine wpIn_wide.1 (rf_lit (n := 5) (fun a0 ha0 => ?_))
 refine wpIn_rangeFunc_ownH (n := 5) hro (by omega) (gf := 133) (lb := #[.pointer (some ⟨p2, 0, none⟩)]) (by rw [ha0]; rfl) trivial (enters_of Tryz.func133 (by kernel_rfl) rfl)
  (names_stops (5 - 1) (by omega) p2 g c2 v b1 (.slice a3 n1 c1) wA HXPA.out ((World.cell?_of_block (a := ⟨g, 0, none⟩) (HBA.out.block g HGL.out.1)).trans HG0.out) (Nat.lt_of_lt_of_le HGL.out.1 HBA.out.size) (by have h1 := HPRM.out.2.2.2.2.2.2.1; have h2 := HH.out.st.dok.max; omega)) (fun _ _ => trivial) (fun _ _ _ _ _ _ _ _ => trivial) (Below.refl _ _) (fun _ => rfl)
  (fun pre Y => StF Y S B pm pd mf md s A1 (dN D v pre.length) Fm Fd l1 ∧ Mods Fd wA Y) (fun _ _ _ => False) (fun pre W W' row hs hg hr => ⟨hs.1.grownR hg (fun r e => (hr r e).1) HSA.out HNA.out, hs.2.trans (modsR hg) (fun k hk => .inr ((hr k (by simpa using hk)).1))⟩) (fun _ _ _ _ _ hs _ _ => hs) ⟨HSTA.out, Mods.refl _ _⟩
  (fun x a' Y => a' = { tmps := (((a0.tmps.setIfInBounds 73 (.int .u32 (v : Int))).setIfInBounds 74 (.bool true)).setIfInBounds 14 (.int .u32 (v : Int))).setIfInBounds 15 (.bool true), defers := [] }) (fun _ _ _ _ _ _ hs _ _ => hs) ?assign ?body ?done ?stop
 case assign =>
  rintro l pre x Y K ⟨hst, hm⟩ hK
  subst ha0
  simp
  gi_wp2
  exact hK _ _ (KeepsFrom.refl _ _) trivial ⟨hst, hm⟩ rfl
 case body =>
  rintro lq pre x a' Y hlq hrq ⟨hst, hm⟩ rfl hlt
  subst ha0
  obtain rfl : pre = [] := List.eq_nil_of_length_eq_zero (by omega)
  have CM := smore_d (show StF Y S B pm pd mf md s A1 D Fm Fd l1 from hst) v HPRM.out.2.2.2.2.2.2.1 HPRM.out.2.2.2.2.2.2.2.1 HPRM.out.2.2.2.2.2.2.2.2
  have kca := cellOf ((hm.block _ (Array.getElem?_eq_some_iff.1 HXAA.out).1 (fun hh => HNF.out _ (Nat.le_refl _) (by simp [hh]))).trans HXAA.out) 0 (v := .pointer (some ⟨S, 0, none⟩)) rfl
  have HMY := Lib.hid hm
  simp only [List.setIfInBounds_toArray, List.set_cons_zero, List.set_cons_succ]
  clear hst hm hlq hrq hlt
  gi_wp2_with (refine ⟨trivial, ?_⟩; gi_at_call 161; refine ((callsIn_wide.2 CM).inRound _).mono ?_; rintro e Y1 ⟨rfl, hst1, hm1⟩)
  refine ⟨⟨hm1.size, fun k q hB hk hq => (hm1.block k (Array.getElem?_eq_some_iff.1 hk).1 (fun hh => ?_)).trans hk⟩, trivial, hst1, HMY.out.trans hm1 (fun k hk => .inl hk)⟩
  have h1 := HSA.out k (by simp [stF, hh])
  omega
 case done =>
  rintro Dq ys W hDq rfl ⟨hst, hm⟩ hK
  subst ha0
  have hstd : StF W S B pm pd mf md s A1 (D.put v (ctN D.now v + 1)) Fm Fd l1 := hst
  obtain ⟨D1, hD1⟩ : ∃ z, D.put v (ctN D.now v + 1) = z := ⟨_, rfl⟩
  have HD1 := Lib.hid hD1
  rw [hD1] at hstd
  have HSD := Lib.hid hstd
  have HMW := Lib.hid hm
  have HKD := Lib.hid hK
  have HDQ := Lib.hid hDq
  have hA1i : ctN A1.now i = c := by rw [← HA1.out]; exact HOC.out.1
  have hA1l : i < A1.now.length := by rw [← HA1.out, HOC.out.2.1]; exact HI9.out
  have h2c : 2 ≤ c := HOC.out.2.2
  have hcl : c < 65536 := by rw [← hA1i]; exact hstd.st.mok.now _ (List.mem_of_getElem? (ctN_get hA1l))
  have CD := dec_in hstd.st.ma hstd.st.mok i hA1l (by rw [hA1i]; omega)
  rw [hA1i] at CD
  unfold pt at CD
  have HXWA : Hid (W.heap[w.heap.size]? = some (.cells #[.pointer (some ⟨S, 0, none⟩)] 37 (0, 0))) := Lib.hid ((hm.block _ (Array.getElem?_eq_some_iff.1 HXAA.out).1 (fun hh => HNF.out _ (Nat.le_refl _) (by simp [hh]))).trans HXAA.out)
  have kca := cellOf HXWA.out 0 (v := .pointer (some ⟨S, 0, none⟩)) rfl
  have k20 := cellOf hstd.st.box 20 (v := .pointer (some ⟨pm, 0, none⟩)) rfl
  have HCP : Hid (c - 1 < 65536 ∧ 2 ≤ c) := Lib.hid ⟨by omega, h2c⟩
  obtain ⟨cc, hcd⟩ : ∃ z, c - 1 = z := ⟨_, rfl⟩
  have HCD := Lib.hid hcd
  rw [hcd] at CD
  have hz0 : ((cc : Int) == 0) = false := by simp; omega
  have hn4 : (i : Int) < 4294967296 := by have := HI32.out; omega
  have HMOK := Lib.hid hstd.st.mok
  clear hst hm hK hDq hD1 hstd hA1i hA1l h2c hcl hcd
  go_wp2_with fail
  refine CD.mono ?_
  rintro e w11 ⟨rfl, hia, hlf⟩
  dsimp only
  have HS11 : Hid (StF w11 S B pm pd mf md s (A1.put i cc) D1 Fm Fd l1) := Lib.hid (HSD.out.area hlf.1 hia (putM_ok HMOK.out i _ (by have := HCP.out; have := HCD.out; omega)) (by simp [M.put]))
  have HM11 := Lib.hid hlf.1
  have HX11 : Hid (w11.heap[w.heap.size]? = some (.cells #[.pointer (some ⟨S, 0, none⟩)] 37 (0, 0))) := Lib.hid ((hlf.1.block _ (Array.getElem?_eq_some_iff.1 HXWA.out).1 (fun hh => HNF.out _ (Nat.le_refl _) (by simp [hh]))).trans HXWA.out)
  have kcb := cellOf HX11.out 0 (v := .pointer (some ⟨S, 0, none⟩)) rfl
  have k22 := cellOf HS11.out.st.box 22 (v := .map (some mf)) rfl
  have hgo : getA o l1 = some (xx, ({ y with b := s.tx + 1 } : Nd)) := by rw [← HL1.out]; exact getA_put o _ l
  have ho32 : o < 4294967296 := by have h1 := find_lt HH.out.st.mok.pos _ _ _ HPRM.out.2.1; have h2 := HH.out.st.mok.max; omega
  have hlk := (HS11.out.look ho32 hgo).2
  have CK := copy_of w11 xx _ (HS11.out.nd _ (getA_some hgo)) (by show y.keys.length ≤ _; have := HPRM.out.1.n; omega) (by show y.vals.length ≤ _; rw [HYV.out]; show 1 ≤ 1000000; omega)
  clear CD hia hlf kca k20
  go_wp2_with fail
  refine CK.mono ?_
  rintro e w12 ⟨x3, rfl, hn3, hb12⟩
  dsimp only
  have HN3 := Lib.hid hn3
  have HB12 := Lib.hid hb12
  obtain ⟨a7, a8, e1, e2, e3⟩ := ndA_eq x3
  have HE3 := Lib.hid e1
  rw [e1]
  obtain ⟨k3, hk3⟩ : ∃ z, x3.k = z := ⟨_, rfl⟩
  obtain ⟨b3, hb3⟩ : ∃ z, x3.b = z := ⟨_, rfl⟩
  obtain ⟨n3, hn3'⟩ : ∃ z, x3.n1 = z := ⟨_, rfl⟩
  obtain ⟨c3, hc3⟩ : ∃ z, x3.c1 = z := ⟨_, rfl⟩
  obtain ⟨n4, hn4'⟩ : ∃ z, x3.n2 = z := ⟨_, rfl⟩
  obtain ⟨c4, hc4⟩ : ∃ z, x3.c2 = z := ⟨_, rfl⟩
  rw [hk3, hb3, hn3', hc3, hn4', hc4] at HE3 ⊢
  have HKT : Hid (∀ q, w.heap.size ≤ q → q < w4.heap.size → w12.heap[q]? = w4.heap[q]?) := Lib.hid (fun q hq1 hq2 => by
   have h8 := HB47.out.size
   have h9 := HM9.out.size
   have hA := HBA.out.size
   have hW := HMW.out.size
   have h11 := HM11.out.size
   have hn := HNF.out q hq1
   rw [HB12.out.block q (by omega), HM11.out.block q (by omega) (fun hh => hn (by simp [hh])), HMW.out.block q (by omega) (fun hh => hn (by simp [hh])), HBA.out.block q (by omega), HM9.out.block q (by omega) (HNG.out q hq1), HB47.out.block q hq2])
  have HTR : Hid (Tri w12 q1 q2 q3 (.int .u32 0) #[.int .i64 0, .int .u64 0, .slice none 0 0, .slice none 0 0] (.int .i64 0)) := Lib.hid (by
   have h := HL.out
   exact ⟨(HKT.out q1 (by omega) (by omega)).trans HXB.out, (HKT.out q2 (by omega) (by omega)).trans HXC.out, (HKT.out q3 (by omega) (by omega)).trans HXD.out, by omega, by omega⟩)
  have HT2 := Lib.hid (HTR.out.s1 (.int .u32 (o : Int)))
  have HT3 := Lib.hid (HT2.out.s2 (.int .i64 k3) (.int .u64 (b3 : Int)) (.slice a7 n3 c3) (.slice a8 n4 c4))
  have HT4 := Lib.hid (HT3.out.s3 (.int .i64 0))
  have t1 := cellOf HTR.out.h1 0 (v := .int .u32 0) rfl
  have f1 := frozenOf HTR.out.h1 0
  have t20 := cellOf HT2.out.h2 0 (v := .int .i64 0) rfl
  have t21 := cellOf HT2.out.h2 1 (v := .int .u64 0) rfl
  have t22 := cellOf HT2.out.h2 2 (v := .slice none 0 0) rfl
  have t23 := cellOf HT2.out.h2 3 (v := .slice none 0 0) rfl
  have f20 := frozenOf HT2.out.h2 0
  have f21 := frozenOf HT2.out.h2 1
  have f22 := frozenOf HT2.out.h2 2
  have f23 := frozenOf HT2.out.h2 3
  have t3 := cellOf HT3.out.h3 0 (v := .int .i64 0) rfl
  have f3 := frozenOf HT3.out.h3 0
  clear CK hlk hgo kcb k22 hn3 hb12 e1 e2 e3 hk3 hb3 hn3' hc3 hn4' hc4
  go_wp2_with fail
  clear t1 f1 t20 t21 t22 t23 f20 f21 f22 f23 t3 f3
  obtain ⟨Z, hZ⟩ : ∃ W, ((((((w12.setCell ⟨q1, 0, none⟩ (.int .u32 (o : Int))).setCell ⟨q2, 0, none⟩ (.int .i64 k3)).setCell ⟨q2, 1, none⟩ (.int .u64 (b3 : Int))).setCell ⟨q2, 2, none⟩ (.slice a7 n3 c3)).setCell ⟨q2, 3, none⟩ (.slice a8 n4 c4)).setCell ⟨q3, 0, none⟩ (.int .i64 0)) = W := ⟨_, rfl⟩
  have HMZ : Hid (Mods [q1, q2, q3] w12 Z) := Lib.hid (by
   rw [← hZ]
   exact ((((((Mods.refl _ _).setCell (p := ⟨q1, 0, none⟩) (by simp) _).setCell (p := ⟨q2, 0, none⟩) (by simp) _).setCell (p := ⟨q2, 1, none⟩) (by simp) _).setCell (p := ⟨q2, 2, none⟩) (by simp) _).setCell (p := ⟨q2, 3, none⟩) (by simp) _).setCell (p := ⟨q3, 0, none⟩) (by simp) _)
  rw [hZ] at HT4 ⊢
  have hl := HL.out
  have hl4 : w4.heap.size ≤ w12.heap.size := Nat.le_trans HB47.out.size (Nat.le_trans HM9.out.size (Nat.le_trans HBA.out.size (Nat.le_trans HMW.out.size (Nat.le_trans HM11.out.size HB12.out.size))))
  have hlA : wA.heap.size ≤ w11.heap.size := Nat.le_trans HMW.out.size HM11.out.size
  have hDn : w.heap.size ≤ Dq := Nat.le_trans HW4.out (Nat.le_trans HB47.out.size (Nat.le_trans HM9.out.size (Nat.le_trans HBA.out.size HDQ.out)))
  have hD4 : w4.heap.size ≤ Dq := Nat.le_trans HB47.out.size (Nat.le_trans HM9.out.size (Nat.le_trans HBA.out.size HDQ.out))
  have hK11 : w11.heap[Dq]? = some (.deferred (some [])) := (HM11.out.block Dq (Array.getElem?_eq_some_iff.1 HKD.out).1 (fun hh => HNF.out Dq hDn (by simp [hh]))).trans HKD.out
  have hK12 : w12.heap[Dq]? = some (.deferred (some [])) := (HB12.out.block Dq (Array.getElem?_eq_some_iff.1 hK11).1).trans hK11
  have hKZ : Z.heap[Dq]? = some (.deferred (some [])) := (HMZ.out.block Dq (Array.getElem?_eq_some_iff.1 hK12).1 (by simp; omega)).trans hK12
  have hD11 : Dq < w11.heap.size := (Array.getElem?_eq_some_iff.1 hK11).1
  refine ⟨by simp, .inl ⟨_, _, rfl, run_takeDeferred hKZ, ?_⟩⟩
  have hMD := mods_grown (grownBy_putObj' Z Dq (.deferred none))
  have hMF : Mods [q1, q2, q3, Dq] w12 (Z.putObj Dq (.deferred none)) := (Mods.mono HMZ.out (fun k hk => by simp at hk ⊢; omega)).trans hMD (fun k hk => .inl (by simp at hk ⊢; omega))
  have hq1 := (hMD.block q1 (Array.getElem?_eq_some_iff.1 HT4.out.h1).1 (by simp; omega)).trans HT4.out.h1
  have hq2 := (hMD.block q2 (Array.getElem?_eq_some_iff.1 HT4.out.h2).1 (by simp; omega)).trans HT4.out.h2
  have hq3 := (hMD.block q3 (Array.getElem?_eq_some_iff.1 HT4.out.h3).1 (by simp; omega)).trans HT4.out.h3
  have hnl : ∀ q ∈ l1, ∀ j ∈ obN q.2.1, j ∉ [q1, q2, q3] ∧ j < wA.heap.size := fun q hq j hj => by
   refine ⟨?_, HNA.out q hq j hj⟩
   rw [← HL1.out] at hq
   rcases mem_putA hq with rfl | hq
   ·have h1 := HGE9.out j hj
    have h2 := HB47.out.size
    simp; omega
   ·have h1 := (HH.out.nd q hq).lt j hj
    simp; omega
  refine ⟨.tuple #[.int .u32 (o : Int), .agg #[.int .i64 k3, .int .u64 (b3 : Int), .slice a7 n3 c3, .slice a8 n4 c4], .int .i64 0], ?_, x3, xx, w11.heap.size, by rw [HE3.out], ?_, ?_, ?_, ?_, ?_, ?_⟩
  ·rw [ret_eq3 rfl]
   have r1 := lv_one agg24 (cellOf hq1 0 (v := .int .u32 (o : Int)) rfl)
   have r2 := run_loadVar_mid (P := Tryz.prog) _ q2 0 159 [.int .i64 k3, .int .u64 (b3 : Int), .slice a7 n3 c3, .slice a8 n4 c4] _ (rangeOf hq2) Tryz.underlying159 rfl infoNd
   have r3 := lv_one agg41 (cellOf hq3 0 (v := .int .i64 0) rfl)
   simp only [asAddr, Array.getD_eq_getD_getElem?, List.getElem?_toArray, List.getElem?_cons_succ, List.getElem?_cons_zero, Option.getD_some, Sem.run_pure, Result.andThen_ok, r1, r2, r3]
  ·exact HN3.out.at_ (fun j hj => hMF.block j (HN3.out.lt j hj) (fun hh => by have h9 := HN3.out.ge j hj; have h8 := Nat.le_trans HB47.out.size (Nat.le_trans HM9.out.size (Nat.le_trans HBA.out.size hlA)); simp at hh; omega))
  ·rw [HA1.out, HL1.out, HD1.out, HCD.out]
   refine (HS11.out.below HB12.out).other hMF (fun k hk hh => ?_) (fun q hq j hj hh => ?_)
   ·have h1 := HLS.out k hk
    simp at hh
    omega
   ·have h1 := hnl q hq j hj
    have h2 := HDQ.out
    have h3 := h1.1
    simp at hh h3
    omega
  ·have m1 : Mods (mf :: (Fm ++ Fd)) w w8 := Mods.of_below (bthn HBB.out HB47.out)
   have m2 := m1.trans HM9.out (fun k hk => .inl (by rcases List.mem_cons.1 hk with h | h <;> simp [h]))
   have m3 := (m2.thenBelow HBA.out).trans HMW.out (fun k hk => .inl (by simp [hk]))
   have m4 := (m3.trans HM11.out (fun k hk => .inl (by simp [hk]))).thenBelow HB12.out
   exact m4.trans hMF (fun k hk => .inr (by simp at hk; omega))
  ·exact Nat.le_trans hDn (Nat.le_of_lt hD11)
  ·intro q hq j hj
   rw [HL1.out] at hq
   exact Nat.lt_of_lt_of_le (hnl q hq j hj).2 hlA
  ·exact fun j hj => Nat.le_trans HW4.out (Nat.le_trans HB47.out.size (HGE9.out j hj))
 case stop =>
  intro D c pre W _ _ h
  exact h.elim
theorem sshad_more {w : World} {S B pm pd mf md : Nat} {s : Su} {A D : M} {Fm Fd : List Nat} {l : List (Nat × (NdV × Nd))} (h : StF w S B pm pd mf md s A D Fm Fd l) (i : Nat) (h0 : i ≠ 0) (hi9 : i < A.now.length) (c : Nat) (hcc : ctN A.now i = c) (h2c : 2 ≤ c) (x : NdV) (y : Nd) (hg : getA i l = some (x, y)) (hyo : y.Ok) (hyk : y.k = 2) (v : Nat) (hyv : y.vals = [v]) (hvl : v < D.now.length) (hvc : ctN D.now v ≠ 0) (hvx : ctN D.now v ≠ 65535) (o : Nat) (hf : find A 0 = some o) (hoc : ctN (allocM A o).now i = c) (hol : (allocM A o).now.length = A.now.length) (htx : s.tx + 1 < 18446744073709551616) (hlen : l.length ≤ 10000) :
  Calls Tryz.prog 125 #[.pointer (some ⟨S, 0, none⟩), .int .u32 (i : Int)] w (ShadM w S B pm pd mf md s A D Fm Fd l i o v c y) :=
 callsIn_wide.1 (sshad_more_in h i h0 hi9 c hcc h2c x y hg hyo hyk v hyv hvl hvc hvx o hf hoc hol htx hlen)
end Go.Proofs.YtgmahhdnjikdjaaGreat
