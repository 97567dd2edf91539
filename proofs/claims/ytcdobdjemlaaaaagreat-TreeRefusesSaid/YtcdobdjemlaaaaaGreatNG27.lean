import Derived.Test.YtcdobdjemlaaaaaGreatNG21
import Derived.Test.YtcdobdjemlaaaaaGreatNG1
set_option linter.unusedVariables false
set_option linter.unusedSimpArgs false
/- btree.walk of a leaf, and of an inner node without children, walked. -/
namespace Go.Proofs.YtcdobdjemlaaaaaGreat
open Go.RowKit Go.Maps Wire
set_option linter.unusedVariables false
set_option linter.unusedSimpArgs false
set_option maxRecDepth 100000 in
set_option maxHeartbeats 6400000 in
theorem twalk_empty {w : World} {S B pm pd mf md : Nat} {s : Su} {A D : M} {Fm Fd : List Nat} {l : List (Nat × (NdV × Nd))} (h : StF w S B pm pd mf md s A D Fm Fd l) (n : Nat) (h0 : n ≠ 0) (hn : n < A.now.length) (hc : ctN A.now n ≠ 0) (x : NdV) (y : Nd) (hg : getA n l = some (x, y)) (hk : y.k = 1) (hks : y.keys = []) (hvs : y.vals = []) (f : Value) :
  Calls Tryz.prog 90 #[.pointer (some ⟨S, 0, none⟩), .int .u32 (n : Int), .int .i64 0, f] w fun e w' => e = .returned (.tuple #[.bool false, .int .i64 14]) ∧ Below w.heap.size w w' := by
 have hm9 := h.st.mok.max
 have CN := snode_in h n h0 hn hc x y hg (by rw [hks]; decide) (by rw [hvs]; decide)
 have hk1 : (y.k == 1) = true := by rw [hk]; rfl
 have HKS := Lib.hid (show y.keys.length = 0 by rw [hks]; rfl)
 have hn4 : (n : Int) < 4294967296 := by omega
 clear h hg hc hk hks hvs
 go_enter Tryz.func90, Tryz.ntmps90
 go_wp2_with fail
 refine CN.mono ?_
 rintro e w2 ⟨x1, rfl, hnd, hb2⟩
 have HB2 := Lib.hid hb2
 have HN2 := Lib.hid hnd
 obtain ⟨a1, a2, e1, e2, e3⟩ := ndA_eq x1
 rw [e1]
 have HE := Lib.hid (And.intro e2 e3)
 have HE1 := Lib.hid e1
 have HKB : Hid (x1.k = y.k ∧ x1.b = y.b ∧ x1.n1 = y.keys.length ∧ x1.n2 = y.vals.length) := Lib.hid ⟨hnd.k, hnd.b, hnd.n1, hnd.n2⟩
 obtain ⟨kd, hkd⟩ : ∃ z, x1.k = z := ⟨_, rfl⟩
 obtain ⟨bb, hbb⟩ : ∃ z, x1.b = z := ⟨_, rfl⟩
 obtain ⟨n1, hn1⟩ : ∃ z, x1.n1 = z := ⟨_, rfl⟩
 obtain ⟨n2, hn2⟩ : ∃ z, x1.n2 = z := ⟨_, rfl⟩
 obtain ⟨c1, hc1⟩ : ∃ z, x1.c1 = z := ⟨_, rfl⟩
 obtain ⟨c2, hc2⟩ : ∃ z, x1.c2 = z := ⟨_, rfl⟩
 rw [hkd, hbb, hn1, hn2, hc1, hc2] at HE1 ⊢
 rw [hkd, hbb, hn1, hn2] at HKB
 rw [← HKB.out.1] at hk1
 obtain ⟨w3, hw3⟩ : ∃ W, w2.alloc (.cells #[.int .i64 kd, .int .u64 (bb : Int), .slice a1 n1 c1, .slice a2 n2 c2] 40) = W := ⟨_, rfl⟩
 have hb3 : Below w2.heap.size w2 w3 := by rw [← hw3]; exact balloc (Below.refl _ _) _
 have hx3 : w3.heap[w2.heap.size]? = some (.cells #[.int .i64 kd, .int .u64 (bb : Int), .slice a1 n1 c1, .slice a2 n2 c2] 40 (0, 0)) := by rw [← hw3]; exact heap_alloc_new _ _
 have HX3 := Lib.hid hx3
 have HB3 := Lib.hid (bthn HB2.out hb3)
 have HN3 := Lib.hid (hnd.below hb3)
 have HQ : Hid (w.heap.size ≤ w2.heap.size) := Lib.hid HB2.out.size
 obtain ⟨q, hq⟩ : ∃ q, w2.heap.size = q := ⟨_, rfl⟩
 clear CN hnd hb2 e1 e2 e3 hkd hbb hn1 hn2 hc1 hc2 hb3 hx3
 dsimp only
 go_upto_region 4 with fail
 (try rw [hw3])
 rw [hq] at HX3 HQ
 (try rw [hq])
 have d0 := cellOf HX3.out 0 (v := .int .i64 kd) rfl
 have d1 := cellOf HX3.out 1 (v := .int .u64 (bb : Int)) rfl
 have d2 := cellOf HX3.out 2 (v := .slice a1 n1 c1) rfl
 have d3 := cellOf HX3.out 3 (v := .slice a2 n2 c2) rfl
 clear hw3 hq
 have hz : ((n1 : Int) == 0) = true := by rw [HKB.out.2.2.1, HKS.out]; rfl
 go_wp2_with fail
 go_ret2
 exact ⟨rfl, HB3.out⟩
set_option maxRecDepth 100000 in
set_option maxHeartbeats 6400000 in
theorem twalk_checkT {w : World} {S B pm pd mf md : Nat} {s : Su} {A D : M} {Fm Fd : List Nat} {l : List (Nat × (NdV × Nd))} (h : StF w S B pm pd mf md s A D Fm Fd l) (n : Nat) (h0 : n ≠ 0) (hn : n < A.now.length) (hc : ctN A.now n ≠ 0) (x : NdV) (y : Nd) (hg : getA n l = some (x, y)) (hy : y.Ok) (hk : y.k ≠ 1) (u0 u1 u2 u3 u4 : Value) (F : List Nat) (hF : ∀ k ∈ F, k < w.heap.size) (R : World → Prop)
  (CF : ∀ X x1, Below w.heap.size w X → NdAt X w.heap.size x1 y → Calls Tryz.prog 93 #[.int .u32 (n : Int), ndA x1, .int .i64 0, u0, u1, u2, u3, u4] X fun e w' => e = .returned (.bool true) ∧ Mods F X w' ∧ R w') :
  Calls Tryz.prog 90 #[.pointer (some ⟨S, 0, none⟩), .int .u32 (n : Int), .int .i64 0, .func (.func 93) #[] #[u0, u1, u2, u3, u4]] w fun e w' => e = .returned (.tuple #[.bool true, .int .i64 0]) ∧ Mods F w w' ∧ R w' := by
 have hm9 := h.st.mok.max
 have hyn := hy.n
 have hym := hy.m
 have CN := snode_in h n h0 hn hc x y hg (by omega) (by omega)
 have hk1 : (y.k == 1) = false := by simp; exact hk
 have hn4 : (n : Int) < 4294967296 := by omega
 have HCF := Lib.hid CF
 have HF := Lib.hid hF
 clear h hg hc hk CF hy hyn hym hF
 go_enter Tryz.func90, Tryz.ntmps90
 go_wp2_with fail
 refine CN.mono ?_
 rintro e w2 ⟨x1, rfl, hnd, hb2⟩
 have HB2 := Lib.hid hb2
 have HN2 := Lib.hid hnd
 obtain ⟨a1, a2, e1, e2, e3⟩ := ndA_eq x1
 rw [e1]
 have HE := Lib.hid (And.intro e2 e3)
 have HE1 := Lib.hid e1
 have HKB : Hid (x1.k = y.k ∧ x1.b = y.b ∧ x1.n1 = y.keys.length ∧ x1.n2 = y.vals.length) := Lib.hid ⟨hnd.k, hnd.b, hnd.n1, hnd.n2⟩
 obtain ⟨kd, hkd⟩ : ∃ z, x1.k = z := ⟨_, rfl⟩
 obtain ⟨bb, hbb⟩ : ∃ z, x1.b = z := ⟨_, rfl⟩
 obtain ⟨n1, hn1⟩ : ∃ z, x1.n1 = z := ⟨_, rfl⟩
 obtain ⟨n2, hn2⟩ : ∃ z, x1.n2 = z := ⟨_, rfl⟩
 obtain ⟨c1, hc1⟩ : ∃ z, x1.c1 = z := ⟨_, rfl⟩
 obtain ⟨c2, hc2⟩ : ∃ z, x1.c2 = z := ⟨_, rfl⟩
 rw [hkd, hbb, hn1, hn2, hc1, hc2] at HE1 ⊢
 rw [hkd, hbb, hn1, hn2] at HKB
 rw [← HKB.out.1] at hk1
 obtain ⟨w3, hw3⟩ : ∃ W, w2.alloc (.cells #[.int .i64 kd, .int .u64 (bb : Int), .slice a1 n1 c1, .slice a2 n2 c2] 40) = W := ⟨_, rfl⟩
 have hb3 : Below w2.heap.size w2 w3 := by rw [← hw3]; exact balloc (Below.refl _ _) _
 have hx3 : w3.heap[w2.heap.size]? = some (.cells #[.int .i64 kd, .int .u64 (bb : Int), .slice a1 n1 c1, .slice a2 n2 c2] 40 (0, 0)) := by rw [← hw3]; exact heap_alloc_new _ _
 have HX3 := Lib.hid hx3
 have HB3 := Lib.hid (bthn HB2.out hb3)
 have HN3 := Lib.hid (hnd.below hb3)
 have HQ : Hid (w.heap.size ≤ w2.heap.size) := Lib.hid HB2.out.size
 obtain ⟨q, hq⟩ : ∃ q, w2.heap.size = q := ⟨_, rfl⟩
 clear CN hnd hb2 e1 e2 e3 hkd hbb hn1 hn2 hc1 hc2 hb3 hx3
 dsimp only
 go_upto_region 4 with fail
 (try rw [hw3])
 rw [hq] at HX3 HQ
 (try rw [hq])
 have d0 := cellOf HX3.out 0 (v := .int .i64 kd) rfl
 have d1 := cellOf HX3.out 1 (v := .int .u64 (bb : Int)) rfl
 have d2 := cellOf HX3.out 2 (v := .slice a1 n1 c1) rfl
 have d3 := cellOf HX3.out 3 (v := .slice a2 n2 c2) rfl
 clear hw3 hq
 have C := HCF.out w3 x1 HB3.out HN3.out
 rw [HE1.out] at C
 clear HCF
 go_wp2_with fail
 refine C.mono ?_
 rintro e w4 ⟨rfl, hm4, hr4⟩
 have HM4 : Hid (Mods F w w4) := Lib.hid ((Mods.of_below HB3.out).trans hm4 (fun k hk => .inl hk))
 have HR4 := Lib.hid hr4
 have HX4 := Lib.hid ((hm4.block _ (Array.getElem?_eq_some_iff.1 HX3.out).1 (fun hh => by have := HF.out _ hh; have := HQ.out; omega)).trans HX3.out)
 clear C hm4 hr4 d0 d1 d2 d3
 have d0 := cellOf HX4.out 0 (v := .int .i64 kd) rfl
 have hk2 : (kd != 1) = true := by simp [bne, hk1]
 go_wp2_with fail
 go_ret2
 exact ⟨rfl, HM4.out, HR4.out⟩
set_option maxRecDepth 100000 in
set_option maxHeartbeats 6400000 in
theorem twalk_checkF {w : World} {S B pm pd mf md : Nat} {s : Su} {A D : M} {Fm Fd : List Nat} {l : List (Nat × (NdV × Nd))} (h : StF w S B pm pd mf md s A D Fm Fd l) (n : Nat) (h0 : n ≠ 0) (hn : n < A.now.length) (hc : ctN A.now n ≠ 0) (x : NdV) (y : Nd) (hg : getA n l = some (x, y)) (hy : y.Ok) (hk : y.k ≠ 1) (u0 u1 u2 u3 u4 : Value) (F : List Nat) (hF : ∀ k ∈ F, k < w.heap.size) (R : World → Prop)
  (CF : ∀ X x1, Below w.heap.size w X → NdAt X w.heap.size x1 y → Calls Tryz.prog 93 #[.int .u32 (n : Int), ndA x1, .int .i64 0, u0, u1, u2, u3, u4] X fun e w' => e = .returned (.bool false) ∧ Mods F X w' ∧ R w') :
  Calls Tryz.prog 90 #[.pointer (some ⟨S, 0, none⟩), .int .u32 (n : Int), .int .i64 0, .func (.func 93) #[] #[u0, u1, u2, u3, u4]] w fun e w' => e = .returned (.tuple #[.bool false, .int .i64 0]) ∧ Mods F w w' ∧ R w' := by
 have hm9 := h.st.mok.max
 have hyn := hy.n
 have hym := hy.m
 have CN := snode_in h n h0 hn hc x y hg (by omega) (by omega)
 have hk1 : (y.k == 1) = false := by simp; exact hk
 have hn4 : (n : Int) < 4294967296 := by omega
 have HCF := Lib.hid CF
 have HF := Lib.hid hF
 clear h hg hc hk CF hy hyn hym hF
 go_enter Tryz.func90, Tryz.ntmps90
 go_wp2_with fail
 refine CN.mono ?_
 rintro e w2 ⟨x1, rfl, hnd, hb2⟩
 have HB2 := Lib.hid hb2
 have HN2 := Lib.hid hnd
 obtain ⟨a1, a2, e1, e2, e3⟩ := ndA_eq x1
 rw [e1]
 have HE := Lib.hid (And.intro e2 e3)
 have HE1 := Lib.hid e1
 have HKB : Hid (x1.k = y.k ∧ x1.b = y.b ∧ x1.n1 = y.keys.length ∧ x1.n2 = y.vals.length) := Lib.hid ⟨hnd.k, hnd.b, hnd.n1, hnd.n2⟩
 obtain ⟨kd, hkd⟩ : ∃ z, x1.k = z := ⟨_, rfl⟩
 obtain ⟨bb, hbb⟩ : ∃ z, x1.b = z := ⟨_, rfl⟩
 obtain ⟨n1, hn1⟩ : ∃ z, x1.n1 = z := ⟨_, rfl⟩
 obtain ⟨n2, hn2⟩ : ∃ z, x1.n2 = z := ⟨_, rfl⟩
 obtain ⟨c1, hc1⟩ : ∃ z, x1.c1 = z := ⟨_, rfl⟩
 obtain ⟨c2, hc2⟩ : ∃ z, x1.c2 = z := ⟨_, rfl⟩
 rw [hkd, hbb, hn1, hn2, hc1, hc2] at HE1 ⊢
 rw [hkd, hbb, hn1, hn2] at HKB
 rw [← HKB.out.1] at hk1
 obtain ⟨w3, hw3⟩ : ∃ W, w2.alloc (.cells #[.int .i64 kd, .int .u64 (bb : Int), .slice a1 n1 c1, .slice a2 n2 c2] 40) = W := ⟨_, rfl⟩
 have hb3 : Below w2.heap.size w2 w3 := by rw [← hw3]; exact balloc (Below.refl _ _) _
 have hx3 : w3.heap[w2.heap.size]? = some (.cells #[.int .i64 kd, .int .u64 (bb : Int), .slice a1 n1 c1, .slice a2 n2 c2] 40 (0, 0)) := by rw [← hw3]; exact heap_alloc_new _ _
 have HX3 := Lib.hid hx3
 have HB3 := Lib.hid (bthn HB2.out hb3)
 have HN3 := Lib.hid (hnd.below hb3)
 have HQ : Hid (w.heap.size ≤ w2.heap.size) := Lib.hid HB2.out.size
 obtain ⟨q, hq⟩ : ∃ q, w2.heap.size = q := ⟨_, rfl⟩
 clear CN hnd hb2 e1 e2 e3 hkd hbb hn1 hn2 hc1 hc2 hb3 hx3
 dsimp only
 go_upto_region 4 with fail
 (try rw [hw3])
 rw [hq] at HX3 HQ
 (try rw [hq])
 have d0 := cellOf HX3.out 0 (v := .int .i64 kd) rfl
 have d1 := cellOf HX3.out 1 (v := .int .u64 (bb : Int)) rfl
 have d2 := cellOf HX3.out 2 (v := .slice a1 n1 c1) rfl
 have d3 := cellOf HX3.out 3 (v := .slice a2 n2 c2) rfl
 clear hw3 hq
 have C := HCF.out w3 x1 HB3.out HN3.out
 rw [HE1.out] at C
 clear HCF
 go_wp2_with fail
 refine C.mono ?_
 rintro e w4 ⟨rfl, hm4, hr4⟩
 have HM4 : Hid (Mods F w w4) := Lib.hid ((Mods.of_below HB3.out).trans hm4 (fun k hk => .inl hk))
 have HR4 := Lib.hid hr4
 have HX4 := Lib.hid ((hm4.block _ (Array.getElem?_eq_some_iff.1 HX3.out).1 (fun hh => by have := HF.out _ hh; have := HQ.out; omega)).trans HX3.out)
 clear C hm4 hr4 d0 d1 d2 d3
 have d0 := cellOf HX4.out 0 (v := .int .i64 kd) rfl
 have hk2 : (kd != 1) = true := by simp [bne, hk1]
 go_wp2_with fail
 go_ret2
 exact ⟨rfl, HM4.out, HR4.out⟩
set_option maxRecDepth 100000 in
set_option maxHeartbeats 6400000 in
theorem twalk_boundsT {w : World} {S B pm pd mf md : Nat} {s : Su} {A D : M} {Fm Fd : List Nat} {l : List (Nat × (NdV × Nd))} (h : StF w S B pm pd mf md s A D Fm Fd l) (n : Nat) (h0 : n ≠ 0) (hn : n < A.now.length) (hc : ctN A.now n ≠ 0) (x : NdV) (y : Nd) (hg : getA n l = some (x, y)) (hy : y.Ok) (hk : y.k ≠ 1) (u0 u1 : Value) (F : List Nat) (hF : ∀ k ∈ F, k < w.heap.size) (R : World → Prop)
  (CF : ∀ X x1, Below w.heap.size w X → NdAt X w.heap.size x1 y → Calls Tryz.prog 136 #[.int .u32 (n : Int), ndA x1, .int .i64 0, u0, u1] X fun e w' => e = .returned (.bool true) ∧ Mods F X w' ∧ R w') :
  Calls Tryz.prog 90 #[.pointer (some ⟨S, 0, none⟩), .int .u32 (n : Int), .int .i64 0, .func (.func 136) #[] #[u0, u1]] w fun e w' => e = .returned (.tuple #[.bool true, .int .i64 0]) ∧ Mods F w w' ∧ R w' := by
 have hm9 := h.st.mok.max
 have hyn := hy.n
 have hym := hy.m
 have CN := snode_in h n h0 hn hc x y hg (by omega) (by omega)
 have hk1 : (y.k == 1) = false := by simp; exact hk
 have hn4 : (n : Int) < 4294967296 := by omega
 have HCF := Lib.hid CF
 have HF := Lib.hid hF
 clear h hg hc hk CF hy hyn hym hF
 go_enter Tryz.func90, Tryz.ntmps90
 go_wp2_with fail
 refine CN.mono ?_
 rintro e w2 ⟨x1, rfl, hnd, hb2⟩
 have HB2 := Lib.hid hb2
 have HN2 := Lib.hid hnd
 obtain ⟨a1, a2, e1, e2, e3⟩ := ndA_eq x1
 rw [e1]
 have HE := Lib.hid (And.intro e2 e3)
 have HE1 := Lib.hid e1
 have HKB : Hid (x1.k = y.k ∧ x1.b = y.b ∧ x1.n1 = y.keys.length ∧ x1.n2 = y.vals.length) := Lib.hid ⟨hnd.k, hnd.b, hnd.n1, hnd.n2⟩
 obtain ⟨kd, hkd⟩ : ∃ z, x1.k = z := ⟨_, rfl⟩
 obtain ⟨bb, hbb⟩ : ∃ z, x1.b = z := ⟨_, rfl⟩
 obtain ⟨n1, hn1⟩ : ∃ z, x1.n1 = z := ⟨_, rfl⟩
 obtain ⟨n2, hn2⟩ : ∃ z, x1.n2 = z := ⟨_, rfl⟩
 obtain ⟨c1, hc1⟩ : ∃ z, x1.c1 = z := ⟨_, rfl⟩
 obtain ⟨c2, hc2⟩ : ∃ z, x1.c2 = z := ⟨_, rfl⟩
 rw [hkd, hbb, hn1, hn2, hc1, hc2] at HE1 ⊢
 rw [hkd, hbb, hn1, hn2] at HKB
 rw [← HKB.out.1] at hk1
 obtain ⟨w3, hw3⟩ : ∃ W, w2.alloc (.cells #[.int .i64 kd, .int .u64 (bb : Int), .slice a1 n1 c1, .slice a2 n2 c2] 40) = W := ⟨_, rfl⟩
 have hb3 : Below w2.heap.size w2 w3 := by rw [← hw3]; exact balloc (Below.refl _ _) _
 have hx3 : w3.heap[w2.heap.size]? = some (.cells #[.int .i64 kd, .int .u64 (bb : Int), .slice a1 n1 c1, .slice a2 n2 c2] 40 (0, 0)) := by rw [← hw3]; exact heap_alloc_new _ _
 have HX3 := Lib.hid hx3
 have HB3 := Lib.hid (bthn HB2.out hb3)
 have HN3 := Lib.hid (hnd.below hb3)
 have HQ : Hid (w.heap.size ≤ w2.heap.size) := Lib.hid HB2.out.size
 obtain ⟨q, hq⟩ : ∃ q, w2.heap.size = q := ⟨_, rfl⟩
 clear CN hnd hb2 e1 e2 e3 hkd hbb hn1 hn2 hc1 hc2 hb3 hx3
 dsimp only
 go_upto_region 4 with fail
 (try rw [hw3])
 rw [hq] at HX3 HQ
 (try rw [hq])
 have d0 := cellOf HX3.out 0 (v := .int .i64 kd) rfl
 have d1 := cellOf HX3.out 1 (v := .int .u64 (bb : Int)) rfl
 have d2 := cellOf HX3.out 2 (v := .slice a1 n1 c1) rfl
 have d3 := cellOf HX3.out 3 (v := .slice a2 n2 c2) rfl
 clear hw3 hq
 have C := HCF.out w3 x1 HB3.out HN3.out
 rw [HE1.out] at C
 clear HCF
 go_wp2_with fail
 refine C.mono ?_
 rintro e w4 ⟨rfl, hm4, hr4⟩
 have HM4 : Hid (Mods F w w4) := Lib.hid ((Mods.of_below HB3.out).trans hm4 (fun k hk => .inl hk))
 have HR4 := Lib.hid hr4
 have HX4 := Lib.hid ((hm4.block _ (Array.getElem?_eq_some_iff.1 HX3.out).1 (fun hh => by have := HF.out _ hh; have := HQ.out; omega)).trans HX3.out)
 clear C hm4 hr4 d0 d1 d2 d3
 have d0 := cellOf HX4.out 0 (v := .int .i64 kd) rfl
 have hk2 : (kd != 1) = true := by simp [bne, hk1]
 go_wp2_with fail
 go_ret2
 exact ⟨rfl, HM4.out, HR4.out⟩
end Go.Proofs.YtcdobdjemlaaaaaGreat
/- The closures of btree.Check and bounds at a leaf; rise; bounds, walked. -/
namespace Go.Proofs.YtcdobdjemlaaaaaGreat
open Go.RowKit Go.Maps Wire
set_option linter.unusedVariables false
set_option linter.unusedSimpArgs false
theorem tagNe {W : World} {a b : Nat} {c1 c2 : Array Value} {t1 t2 : TypeId} {f1 f2 : Nat × Nat} (h1 : W.heap[a]? = some (.cells c1 t1 f1)) (h2 : W.heap[b]? = some (.cells c2 t2 f2)) (hne : t1 ≠ t2) : a ≠ b := by
 rintro rfl
 rw [h1] at h2
 cases h2
 exact hne rfl
theorem row_slx1 {w : World} {base n : Nat} {e : TypeId} {v : Value} {xs : List Value} (h : w.ownsRow base e 1 v n xs) : ∃ a c, v = .slice a n c := by
 obtain ⟨g, c, rfl⟩ := row_slO h
 exact ⟨_, _, rfl⟩
set_option maxRecDepth 100000 in
set_option maxHeartbeats 12800000 in
theorem tcheck1_at (X : World) (n : Nat) (hn4 : (n : Int) < 4294967296) (base : Nat) (x : NdV) (y : Nd) (hnd : NdAt X base x y) (hy : y.keys.length ≤ 6) (hk : y.k ≠ 1) (hl : 1 ≤ y.keys.length) (rb sb db kb tb : Nat) (k : Int)
  (hrb : X.heap[rb]? = some (.cells #[.int .u32 (n : Int)] 24 (0, 0))) (hsb : X.heap[sb]? = some (.cells #[.bool true] 4 (0, 0))) (hdb : X.heap[db]? = some (.cells #[.int .i64 (-1)] 3 (0, 0)))
  (hkb : X.heap[kb]? = some (.cells #[.int .i64 k] 37 (0, 0))) (htb : X.heap[tb]? = some (.cells #[.slice none 0 0] 38 (0, 0))) :
  Calls Tryz.prog 93 #[.int .u32 (n : Int), ndA x, .int .i64 0, .pointer (some ⟨rb, 0, none⟩), .pointer (some ⟨sb, 0, none⟩), .pointer (some ⟨db, 0, none⟩), .pointer (some ⟨kb, 0, none⟩), .pointer (some ⟨tb, 0, none⟩)] X fun e w' =>
   e = .returned (.bool (decide (y.k = k))) ∧ Mods [sb, db, tb] X w' ∧ (w'.heap[sb]? = some (.cells #[.bool (decide (y.k = k))] 4 (0, 0)) ∧ ∃ v, w'.heap[tb]? = some (.cells #[v] 38 (0, 0)) ∧ Rd w' 1 v y.keys.length (qV y.keys)) := by
 obtain ⟨a1, a2, e1, e2, e3⟩ := ndA_eq x
 rw [e1]
 have HE := Lib.hid (And.intro e2 e3)
 have HKB : Hid (x.k = y.k ∧ x.b = y.b ∧ x.n1 = y.keys.length ∧ x.n2 = y.vals.length) := Lib.hid ⟨hnd.k, hnd.b, hnd.n1, hnd.n2⟩
 obtain ⟨kd, hkd⟩ : ∃ z, x.k = z := ⟨_, rfl⟩
 obtain ⟨bb, hbb⟩ : ∃ z, x.b = z := ⟨_, rfl⟩
 obtain ⟨n1, hn1⟩ : ∃ z, x.n1 = z := ⟨_, rfl⟩
 obtain ⟨n2, hn2⟩ : ∃ z, x.n2 = z := ⟨_, rfl⟩
 obtain ⟨c1, hc1⟩ : ∃ z, x.c1 = z := ⟨_, rfl⟩
 obtain ⟨c2, hc2⟩ : ∃ z, x.c2 = z := ⟨_, rfl⟩
 have HOW : Hid (X.ownsRow base 23 1 (.slice a1 n1 c1) n1 (qV y.keys)) := Lib.hid (by
  have := hnd.r1
  rw [e2, hn1, hc1, ← HKB.out.2.2.1, hn1] at this
  exact this)
 have HRW := Lib.hid (Rd.of_own HOW.out)
 rw [hkd, hbb, hn1, hn2, hc1, hc2]
 rw [hkd, hbb, hn1, hn2] at HKB
 have hkk : kd = y.k := HKB.out.1
 have hk1 : (kd == 1) = false := by rw [hkk]; simp; exact hk
 clear hnd e1 e2 e3 hkd hbb hn1 hn2 hc1 hc2 hkk hk
 obtain ⟨w1, hw1⟩ : ∃ W, X.alloc (.cells #[.int .i64 kd, .int .u64 (bb : Int), .slice a1 n1 c1, .slice a2 n2 c2] 40) = W := ⟨_, rfl⟩
 have hb1 : Below X.heap.size X w1 := by rw [← hw1]; exact balloc (Below.refl _ _) _
 have hx1 : w1.heap[X.heap.size]? = some (.cells #[.int .i64 kd, .int .u64 (bb : Int), .slice a1 n1 c1, .slice a2 n2 c2] 40 (0, 0)) := by rw [← hw1]; exact heap_alloc_new _ _
 have HX1 := Lib.hid hx1
 have HB1 := Lib.hid hb1
 have HR1 := Lib.hid (HRW.out.below hb1)
 clear hx1
 have HRX : Hid (∀ W, Mods [sb, db, tb] X W → Rd W 1 (.slice a1 n1 c1) n1 (qV y.keys)) := Lib.hid (fun W hW => Rd.of_own (ownsRow_at HOW.out (fun k hk => hW.block k (ownsRow_lt HOW.out k hk) (fun hh => by
  simp only [List.mem_cons, List.mem_nil_iff, or_false] at hh
  rcases hh with rfl | rfl | rfl
  ·exact ob_tag HOW.out hsb (by decide) hk
  ·exact ob_tag HOW.out hdb (by decide) hk
  ·exact ob_tag HOW.out htb (by decide) hk))))
 have HRB := Lib.hid ((hb1.block _ (Array.getElem?_eq_some_iff.1 hrb).1).trans hrb)
 have HSB := Lib.hid ((hb1.block _ (Array.getElem?_eq_some_iff.1 hsb).1).trans hsb)
 have HDB := Lib.hid ((hb1.block _ (Array.getElem?_eq_some_iff.1 hdb).1).trans hdb)
 have HKX := Lib.hid ((hb1.block _ (Array.getElem?_eq_some_iff.1 hkb).1).trans hkb)
 have HTB := Lib.hid ((hb1.block _ (Array.getElem?_eq_some_iff.1 htb).1).trans htb)
 obtain ⟨q, hq⟩ : ∃ q, X.heap.size = q := ⟨_, rfl⟩
 rw [hq] at HX1
 have hnn : n1 = y.keys.length := HKB.out.2.2.1
 have hge : decide ((1 : Int) ≤ (n1 : Int)) = true := by simp; omega
 have HN6 : Hid (n1 ≤ 6) := Lib.hid (by omega)
 have HMQ : Hid (q ∉ [sb, db, tb] ∧ rb ∉ [sb, db, tb] ∧ kb ∉ [sb, db, tb] ∧ sb ≠ db ∧ sb ≠ tb ∧ db ≠ tb) := Lib.hid (by
  have n1 := tagNe HX1.out HSB.out (by decide)
  have n2 := tagNe HX1.out HDB.out (by decide)
  have n3 := tagNe HX1.out HTB.out (by decide)
  have n4 := tagNe HRB.out HSB.out (by decide)
  have n5 := tagNe HRB.out HDB.out (by decide)
  have n6 := tagNe HRB.out HTB.out (by decide)
  have n7 := tagNe HKX.out HSB.out (by decide)
  have n8 := tagNe HKX.out HDB.out (by decide)
  have n9 := tagNe HKX.out HTB.out (by decide)
  exact ⟨by simp [n1, n2, n3], by simp [n4, n5, n6], by simp [n7, n8, n9], tagNe HSB.out HDB.out (by decide), tagNe HSB.out HTB.out (by decide), tagNe HDB.out HTB.out (by decide)⟩)
 have d0 := cellOf HX1.out 0 (v := .int .i64 kd) rfl
 have d2 := cellOf HX1.out 2 (v := .slice a1 n1 c1) rfl
 have r0 := cellOf HRB.out 0 (v := .int .u32 (n : Int)) rfl
 have s0 := cellOf HSB.out 0 (v := .bool true) rfl
 have sf := frozenOf HSB.out 0
 clear hrb hsb hdb hkb htb hb1 hnn
 go_enter Tryz.func93, Tryz.ntmps93
 go_upto_region 7 with fail
 (try rw [hw1])
 (try rw [hq])
 have hne := HMQ.out
 simp only [List.mem_cons, List.mem_nil_iff, or_false, not_or] at hne
 obtain ⟨⟨q1, q2, q3⟩, ⟨r1, r2, r3⟩, ⟨k1, k2, k3⟩, m1, m2, m3⟩ := hne
 have HNE : Hid (q ≠ sb ∧ q ≠ db ∧ q ≠ tb ∧ kb ≠ sb ∧ kb ≠ db ∧ kb ≠ tb ∧ sb ≠ db ∧ sb ≠ tb ∧ db ≠ tb) := Lib.hid ⟨q1, q2, q3, k1, k2, k3, m1, m2, m3⟩
 clear q1 q2 q3 r1 r2 r3 k1 k2 k3 m1 m2 m3 d0 d2 r0 s0 sf hw1 hq
 obtain ⟨w2, hw2⟩ : ∃ W, w1.setCell ⟨sb, 0, none⟩ (.bool true) = W := ⟨_, rfl⟩
 rw [hw2]
 have hm : Mods [sb] w1 w2 := by rw [← hw2]; exact (Mods.refl _ _).setCell (p := ⟨sb, 0, none⟩) (List.mem_singleton.2 rfl) _
 have HMw2 : Hid (Mods [sb, db, tb] w1 w2) := Lib.hid (hm.mono (fun k hk => by rw [List.mem_singleton.1 hk]; simp))
 have HX1 := Lib.hid ((hm.block _ (Array.getElem?_eq_some_iff.1 HX1.out).1 (fun hh => HNE.out.1 (List.mem_singleton.1 hh))).trans HX1.out)
 have HKX := Lib.hid ((hm.block _ (Array.getElem?_eq_some_iff.1 HKX.out).1 (fun hh => HNE.out.2.2.2.1 (List.mem_singleton.1 hh))).trans HKX.out)
 have HSB : Hid (w2.heap[sb]? = some (.cells #[.bool true] 4 (0, 0))) := Lib.hid (by rw [← hw2]; exact setOf HSB.out 0 _)
 have HDB := Lib.hid ((hm.block _ (Array.getElem?_eq_some_iff.1 HDB.out).1 (fun hh => HNE.out.2.2.2.2.2.2.1 (List.mem_singleton.1 hh).symm)).trans HDB.out)
 have HTB := Lib.hid ((hm.block _ (Array.getElem?_eq_some_iff.1 HTB.out).1 (fun hh => HNE.out.2.2.2.2.2.2.2.1 (List.mem_singleton.1 hh).symm)).trans HTB.out)
 clear hw2 hm
 have d0 := cellOf HX1.out 0 (v := .int .i64 kd) rfl
 have t0 := cellOf HDB.out 0 (v := .int .i64 (-1)) rfl
 have tf := frozenOf HDB.out 0
 go_upto_region 11 with fail
 clear d0 t0 tf
 obtain ⟨w3, hw3⟩ : ∃ W, w2.setCell ⟨db, 0, none⟩ (.int .i64 0) = W := ⟨_, rfl⟩
 rw [hw3]
 have hm : Mods [db] w2 w3 := by rw [← hw3]; exact (Mods.refl _ _).setCell (p := ⟨db, 0, none⟩) (List.mem_singleton.2 rfl) _
 have HMw3 : Hid (Mods [sb, db, tb] w2 w3) := Lib.hid (hm.mono (fun k hk => by rw [List.mem_singleton.1 hk]; simp))
 have HX1 := Lib.hid ((hm.block _ (Array.getElem?_eq_some_iff.1 HX1.out).1 (fun hh => HNE.out.2.1 (List.mem_singleton.1 hh))).trans HX1.out)
 have HKX := Lib.hid ((hm.block _ (Array.getElem?_eq_some_iff.1 HKX.out).1 (fun hh => HNE.out.2.2.2.2.1 (List.mem_singleton.1 hh))).trans HKX.out)
 have HSB := Lib.hid ((hm.block _ (Array.getElem?_eq_some_iff.1 HSB.out).1 (fun hh => HNE.out.2.2.2.2.2.2.1 (List.mem_singleton.1 hh))).trans HSB.out)
 have HDB : Hid (w3.heap[db]? = some (.cells #[.int .i64 0] 3 (0, 0))) := Lib.hid (by rw [← hw3]; exact setOf HDB.out 0 _)
 have HTB := Lib.hid ((hm.block _ (Array.getElem?_eq_some_iff.1 HTB.out).1 (fun hh => HNE.out.2.2.2.2.2.2.2.2 (List.mem_singleton.1 hh).symm)).trans HTB.out)
 clear hw3 hm
 have d0 := cellOf HX1.out 0 (v := .int .i64 kd) rfl
 have t0 := cellOf HDB.out 0 (v := .int .i64 0) rfl
 have s0 := cellOf HSB.out 0 (v := .bool true) rfl
 have sf := frozenOf HSB.out 0
 have k0 := cellOf HKX.out 0 (v := .int .i64 k) rfl
 have HKD : Hid (decide (y.k = k) = decide (kd = k)) := Lib.hid (by rw [HKB.out.1])
 by_cases hkk : kd = k
 ·have hkb : (kd == k) = true := by simp; exact hkk
  have HDK : Hid (decide (y.k = k) = true) := Lib.hid (by rw [HKD.out]; simp; exact hkk)
  go_upto_region 12 with fail
  clear d0 t0 s0 sf k0 hkk hkb
  obtain ⟨w4, hw4⟩ : ∃ W, w3.setCell ⟨sb, 0, none⟩ (.bool true) = W := ⟨_, rfl⟩
  rw [hw4]
  have hm : Mods [sb] w3 w4 := by rw [← hw4]; exact (Mods.refl _ _).setCell (p := ⟨sb, 0, none⟩) (List.mem_singleton.2 rfl) _
  have HMw4 : Hid (Mods [sb, db, tb] w3 w4) := Lib.hid (hm.mono (fun k hk => by rw [List.mem_singleton.1 hk]; simp))
  have HX1 := Lib.hid ((hm.block _ (Array.getElem?_eq_some_iff.1 HX1.out).1 (fun hh => HNE.out.1 (List.mem_singleton.1 hh))).trans HX1.out)
  have HKX := Lib.hid ((hm.block _ (Array.getElem?_eq_some_iff.1 HKX.out).1 (fun hh => HNE.out.2.2.2.1 (List.mem_singleton.1 hh))).trans HKX.out)
  have HSB : Hid (w4.heap[sb]? = some (.cells #[.bool true] 4 (0, 0))) := Lib.hid (by rw [← hw4]; exact setOf HSB.out 0 _)
  have HDB := Lib.hid ((hm.block _ (Array.getElem?_eq_some_iff.1 HDB.out).1 (fun hh => HNE.out.2.2.2.2.2.2.1 (List.mem_singleton.1 hh).symm)).trans HDB.out)
  have HTB := Lib.hid ((hm.block _ (Array.getElem?_eq_some_iff.1 HTB.out).1 (fun hh => HNE.out.2.2.2.2.2.2.2.1 (List.mem_singleton.1 hh).symm)).trans HTB.out)
  clear hw4 hm
  have HB3 : Hid (Mods [sb, db, tb] X w4) := Lib.hid (((((Mods.of_below HB1.out).trans HMw2.out (fun k hk => .inl hk)).trans HMw3.out (fun k hk => .inl hk)).trans HMw4.out (fun k hk => .inl hk)))
  have HR4 : Hid (Rd w4 1 (.slice a1 n1 c1) n1 (qV y.keys)) := Lib.hid (HRX.out w4 HB3.out)
  have d2 := cellOf HX1.out 2 (v := .slice a1 n1 c1) rfl
  have t0 := cellOf HTB.out 0 (v := .slice none 0 0) rfl
  have tf := frozenOf HTB.out 0
  have s0 := cellOf HSB.out 0 (v := .bool true) rfl
  apply wp_region_lit
  iterate 9 go_step
  refine wpL_met (by kernel_rfl) (fun K hK => wp_apps _ _ 38 rfl w4.heap.size 23 (.int .u64 0) 1 8 Tryz.underlying38 infoU64 rfl (by decide) (by decide) (.slice none 0 0) 0 [] rfl (World.ownsRow_nil w4 w4.heap.size 23 1) (.slice a1 n1 c1) n1 (qV y.keys) rfl HR4.out (qV_one _) (by have := HN6.out; omega) (Nat.le_refl _) (fun v' w5 ho hb _ _ _ => hK _ _ ?_))
  rw [Nat.zero_add, List.nil_append] at ho
  obtain ⟨a5, c5, rfl⟩ := row_slx1 ho
  have HO5 := Lib.hid ho
  have HB5 := Lib.hid hb
  have HSB5 := Lib.hid ((hb.block _ (Array.getElem?_eq_some_iff.1 HSB.out).1).trans HSB.out)
  have HTB5 := Lib.hid ((hb.block _ (Array.getElem?_eq_some_iff.1 HTB.out).1).trans HTB.out)
  clear d2 t0 tf s0 ho hb hK K
  have t0 := cellOf HTB5.out 0 (v := .slice none 0 0) rfl
  have tf := frozenOf HTB5.out 0
  go_upto_region 13 with fail
  clear t0 tf
  obtain ⟨w6, hw6⟩ : ∃ W, w5.setCell ⟨tb, 0, none⟩ (.slice a5 n1 c5) = W := ⟨_, rfl⟩
  rw [hw6]
  have hm6 : Mods [tb] w5 w6 := by rw [← hw6]; exact (Mods.refl _ _).setCell (p := ⟨tb, 0, none⟩) (List.mem_singleton.2 rfl) _
  have hx6 : w6.heap[tb]? = some (.cells #[.slice a5 n1 c5] 38 (0, 0)) := by rw [← hw6]; exact setOf HTB5.out 0 _
  have hs6 := (hm6.block _ (Array.getElem?_eq_some_iff.1 HSB5.out).1 (fun hh => HNE.out.2.2.2.2.2.2.2.1 (List.mem_singleton.1 hh))).trans HSB5.out
  have HS6 := Lib.hid hs6
  have HT6 := Lib.hid hx6
  have HM6 := Lib.hid hm6
  have s0 := cellOf hs6 0 (v := .bool true) rfl
  clear hw6 hm6 hx6 hs6
  go_wp2_with fail
  go_ret
  rw [HDK.out]
  refine ⟨rfl, (HB3.out.thenBelow HB5.out).trans HM6.out (fun k hk => .inl (by rw [List.mem_singleton.1 hk]; simp)), HS6.out, _, HT6.out, ?_⟩
  rw [← HKB.out.2.2.1]
  exact Rd.of_own (ownsRow_at HO5.out (fun k hk => HM6.out.block k (ownsRow_lt HO5.out k hk) (fun hh => by
   have h1 := ownsRow_ge HO5.out k hk
   have h2 := (Array.getElem?_eq_some_iff.1 HTB.out).1
   have := List.mem_singleton.1 hh
   omega)))
 ·have hkb : (kd == k) = false := by simp; exact hkk
  have HDK : Hid (decide (y.k = k) = false) := Lib.hid (by rw [HKD.out]; simp; exact hkk)
  go_upto_region 12 with fail
  clear d0 t0 s0 sf k0 hkk hkb
  obtain ⟨w4, hw4⟩ : ∃ W, w3.setCell ⟨sb, 0, none⟩ (.bool false) = W := ⟨_, rfl⟩
  rw [hw4]
  have hm : Mods [sb] w3 w4 := by rw [← hw4]; exact (Mods.refl _ _).setCell (p := ⟨sb, 0, none⟩) (List.mem_singleton.2 rfl) _
  have HMw4 : Hid (Mods [sb, db, tb] w3 w4) := Lib.hid (hm.mono (fun k hk => by rw [List.mem_singleton.1 hk]; simp))
  have HX1 := Lib.hid ((hm.block _ (Array.getElem?_eq_some_iff.1 HX1.out).1 (fun hh => HNE.out.1 (List.mem_singleton.1 hh))).trans HX1.out)
  have HKX := Lib.hid ((hm.block _ (Array.getElem?_eq_some_iff.1 HKX.out).1 (fun hh => HNE.out.2.2.2.1 (List.mem_singleton.1 hh))).trans HKX.out)
  have HSB : Hid (w4.heap[sb]? = some (.cells #[.bool false] 4 (0, 0))) := Lib.hid (by rw [← hw4]; exact setOf HSB.out 0 _)
  have HDB := Lib.hid ((hm.block _ (Array.getElem?_eq_some_iff.1 HDB.out).1 (fun hh => HNE.out.2.2.2.2.2.2.1 (List.mem_singleton.1 hh).symm)).trans HDB.out)
  have HTB := Lib.hid ((hm.block _ (Array.getElem?_eq_some_iff.1 HTB.out).1 (fun hh => HNE.out.2.2.2.2.2.2.2.1 (List.mem_singleton.1 hh).symm)).trans HTB.out)
  clear hw4 hm
  have HB3 : Hid (Mods [sb, db, tb] X w4) := Lib.hid (((((Mods.of_below HB1.out).trans HMw2.out (fun k hk => .inl hk)).trans HMw3.out (fun k hk => .inl hk)).trans HMw4.out (fun k hk => .inl hk)))
  have HR4 : Hid (Rd w4 1 (.slice a1 n1 c1) n1 (qV y.keys)) := Lib.hid (HRX.out w4 HB3.out)
  have d2 := cellOf HX1.out 2 (v := .slice a1 n1 c1) rfl
  have t0 := cellOf HTB.out 0 (v := .slice none 0 0) rfl
  have tf := frozenOf HTB.out 0
  have s0 := cellOf HSB.out 0 (v := .bool false) rfl
  apply wp_region_lit
  iterate 9 go_step
  refine wpL_met (by kernel_rfl) (fun K hK => wp_apps _ _ 38 rfl w4.heap.size 23 (.int .u64 0) 1 8 Tryz.underlying38 infoU64 rfl (by decide) (by decide) (.slice none 0 0) 0 [] rfl (World.ownsRow_nil w4 w4.heap.size 23 1) (.slice a1 n1 c1) n1 (qV y.keys) rfl HR4.out (qV_one _) (by have := HN6.out; omega) (Nat.le_refl _) (fun v' w5 ho hb _ _ _ => hK _ _ ?_))
  rw [Nat.zero_add, List.nil_append] at ho
  obtain ⟨a5, c5, rfl⟩ := row_slx1 ho
  have HO5 := Lib.hid ho
  have HB5 := Lib.hid hb
  have HSB5 := Lib.hid ((hb.block _ (Array.getElem?_eq_some_iff.1 HSB.out).1).trans HSB.out)
  have HTB5 := Lib.hid ((hb.block _ (Array.getElem?_eq_some_iff.1 HTB.out).1).trans HTB.out)
  clear d2 t0 tf s0 ho hb hK K
  have t0 := cellOf HTB5.out 0 (v := .slice none 0 0) rfl
  have tf := frozenOf HTB5.out 0
  go_upto_region 13 with fail
  clear t0 tf
  obtain ⟨w6, hw6⟩ : ∃ W, w5.setCell ⟨tb, 0, none⟩ (.slice a5 n1 c5) = W := ⟨_, rfl⟩
  rw [hw6]
  have hm6 : Mods [tb] w5 w6 := by rw [← hw6]; exact (Mods.refl _ _).setCell (p := ⟨tb, 0, none⟩) (List.mem_singleton.2 rfl) _
  have hx6 : w6.heap[tb]? = some (.cells #[.slice a5 n1 c5] 38 (0, 0)) := by rw [← hw6]; exact setOf HTB5.out 0 _
  have hs6 := (hm6.block _ (Array.getElem?_eq_some_iff.1 HSB5.out).1 (fun hh => HNE.out.2.2.2.2.2.2.2.1 (List.mem_singleton.1 hh))).trans HSB5.out
  have HS6 := Lib.hid hs6
  have HT6 := Lib.hid hx6
  have HM6 := Lib.hid hm6
  have s0 := cellOf hs6 0 (v := .bool false) rfl
  clear hw6 hm6 hx6 hs6
  go_wp2_with fail
  go_ret
  rw [HDK.out]
  refine ⟨rfl, (HB3.out.thenBelow HB5.out).trans HM6.out (fun k hk => .inl (by rw [List.mem_singleton.1 hk]; simp)), HS6.out, _, HT6.out, ?_⟩
  rw [← HKB.out.2.2.1]
  exact Rd.of_own (ownsRow_at HO5.out (fun k hk => HM6.out.block k (ownsRow_lt HO5.out k hk) (fun hh => by
   have h1 := ownsRow_ge HO5.out k hk
   have h2 := (Array.getElem?_eq_some_iff.1 HTB.out).1
   have := List.mem_singleton.1 hh
   omega)))
end Go.Proofs.YtcdobdjemlaaaaaGreat
