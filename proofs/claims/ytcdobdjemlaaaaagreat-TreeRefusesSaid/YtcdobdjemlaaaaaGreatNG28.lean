import Derived.Test.YtcdobdjemlaaaaaGreatNG27
import Derived.Test.YtcdobdjemlaaaaaGreatNG25
set_option linter.unusedVariables false
set_option linter.unusedSimpArgs false
/- btree.bounds and Check of a leaf with one key, walked. -/
namespace Go.Proofs.YtcdobdjemlaaaaaGreat
open Go.RowKit Go.Maps Wire
set_option linter.unusedVariables false
set_option linter.unusedSimpArgs false
set_option maxRecDepth 100000 in
set_option maxHeartbeats 3200000 in
theorem trise_1 (w : World) (a : Option Addr) (c : Nat) : Calls Tryz.prog 94 #[.slice a 1 c] w fun e w' => e = .returned (.bool true) ∧ w = w' := by
 go_enter Tryz.func94, Tryz.ntmps94
 go_wp2_with fail
 go_loopw [3] (fun v wr => v = .int .i64 1 ∧ w = wr) (fun _ _ => 0)
 case atStart => exact ⟨rfl, rfl⟩
 case round =>
  obtain ⟨rfl, rfl⟩ := hrel
  go_wp2_with fail
  go_ret
  exact ⟨rfl, rfl⟩
set_option maxRecDepth 100000 in
set_option maxHeartbeats 6400000 in
theorem tbounds1_at (X : World) (n : Nat) (base : Nat) (x : NdV) (y : Nd) (hnd : NdAt X base x y) (hy : y.keys.length ≤ 6) (hk : y.k ≠ 1) (u0 : Value) (sb : Nat) (hsb : X.heap[sb]? = some (.cells #[.bool true] 4 (0, 0))) :
  Calls Tryz.prog 136 #[.int .u32 (n : Int), ndA x, .int .i64 0, u0, .pointer (some ⟨sb, 0, none⟩)] X fun e w' => e = .returned (.bool true) ∧ Mods [] X w' := by
 obtain ⟨a1, a2, e1, e2, e3⟩ := ndA_eq x
 rw [e1]
 have HE := Lib.hid (And.intro e2 e3)
 have HKB : Hid (x.k = y.k ∧ x.b = y.b ∧ x.n1 = y.keys.length ∧ x.n2 = y.vals.length) := Lib.hid ⟨hnd.k, hnd.b, hnd.n1, hnd.n2⟩
 obtain ⟨kd, hkd⟩ : ∃ z, x.k = z := ⟨_, rfl⟩
 obtain ⟨bb, hbb⟩ : ∃ z, x.b = z := ⟨_, rfl⟩
 obtain ⟨n1, hn1⟩ : ∃ z, x.n1 = z := ⟨_, rfl⟩
 obtain ⟨n2, hn2⟩ : ∃ z, x.n2 = z := ⟨_, rfl⟩
 obtain ⟨c1, hc1⟩ : ∃ z, x.c1 = z := ⟨_, rfl⟩
 obtain ⟨c2, hc2⟩ : ∃ z, x.c2 = z := ⟨_, rfl⟩
 have HOW : Hid (X.ownsRow base 23 1 (.slice a1 n1 c1) n1 (qV y.keys)) := Lib.hid (by
  have := hnd.r1
  rw [e2, hn1, hc1, ← HKB.out.2.2.1, hn1] at this
  exact this)
 have HRW := Lib.hid (Rd.of_own HOW.out)
 rw [hkd, hbb, hn1, hn2, hc1, hc2]
 rw [hkd, hbb, hn1, hn2] at HKB
 have hkk : kd = y.k := HKB.out.1
 have hk1 : (kd == 1) = false := by rw [hkk]; simp; exact hk
 clear hnd e1 e2 e3 hkd hbb hn1 hn2 hc1 hc2 hkk hk
 obtain ⟨w1, hw1⟩ : ∃ W, X.alloc (.cells #[.int .i64 kd, .int .u64 (bb : Int), .slice a1 n1 c1, .slice a2 n2 c2] 40) = W := ⟨_, rfl⟩
 have hb1 : Below X.heap.size X w1 := by rw [← hw1]; exact balloc (Below.refl _ _) _
 have hx1 : w1.heap[X.heap.size]? = some (.cells #[.int .i64 kd, .int .u64 (bb : Int), .slice a1 n1 c1, .slice a2 n2 c2] 40 (0, 0)) := by rw [← hw1]; exact heap_alloc_new _ _
 have HX1 := Lib.hid hx1
 have HB1 := Lib.hid hb1
 have HR1 := Lib.hid (HRW.out.below hb1)
 clear hx1
 have HSB := Lib.hid ((hb1.block _ (Array.getElem?_eq_some_iff.1 hsb).1).trans hsb)
 obtain ⟨q, hq⟩ : ∃ q, X.heap.size = q := ⟨_, rfl⟩
 rw [hq] at HX1
 have d0 := cellOf HX1.out 0 (v := .int .i64 kd) rfl
 have d2 := cellOf HX1.out 2 (v := .slice a1 n1 c1) rfl
 have s0 := cellOf HSB.out 0 (v := .bool true) rfl
 have hk2 : (kd != 1) = true := by simp [bne, hk1]
 clear hsb hb1
 go_enter Tryz.func136, Tryz.ntmps136
 go_wp2_with fail
 (try rw [hw1])
 (try rw [hq])
 clear hw1 hq
 go_loopw [15] (fun v wr => v = .int .i64 0 ∧ wr = w1) (fun _ _ => 0)
 case atStart => exact ⟨rfl, rfl⟩
 case round =>
  obtain ⟨rfl, rfl⟩ := hrel
  by_cases hz : 0 < n1
  ·have hz0 : (0 : Int) < (n1 : Int) := by omega
   go_wp2_with fail
   go_ret
   exact ⟨rfl, Mods.of_below HB1.out⟩
  ·have hz0 : ¬ (0 : Int) < (n1 : Int) := by omega
   go_wp2_with fail
   go_ret
   exact ⟨rfl, Mods.of_below HB1.out⟩
set_option maxRecDepth 100000 in
set_option maxHeartbeats 6400000 in
theorem tbounds_leaf {w : World} {S B pm pd mf md : Nat} {s : Su} {A D : M} {Fm Fd : List Nat} {l : List (Nat × (NdV × Nd))} (h : StF w S B pm pd mf md s A D Fm Fd l) (n : Nat) (h0 : n ≠ 0) (hn : n < A.now.length) (hc : ctN A.now n ≠ 0) (x : NdV) (y : Nd) (hg : getA n l = some (x, y)) (hy : y.Ok) (hk : y.k ≠ 1) :
  Calls Tryz.prog 95 #[.pointer (some ⟨S, 0, none⟩), .int .u32 (n : Int)] w fun e w' => e = .returned (.int .i64 0) ∧ Below w.heap.size w w' := by
 obtain ⟨wa, hwa⟩ : ∃ W, w.alloc (.cells #[.pointer (some ⟨S, 0, none⟩)] 35) = W := ⟨_, rfl⟩
 have hba : Below w.heap.size w wa := by rw [← hwa]; exact balloc (Below.refl _ _) _
 have hxa : wa.heap[w.heap.size]? = some (.cells #[.pointer (some ⟨S, 0, none⟩)] 35 (0, 0)) := by rw [← hwa]; exact heap_alloc_new _ _
 obtain ⟨wb, hwb⟩ : ∃ W, wa.alloc (.cells #[.bool true] 4) = W := ⟨_, rfl⟩
 have hbb : Below wa.heap.size wa wb := by rw [← hwb]; exact balloc (Below.refl _ _) _
 have hxb : wb.heap[wa.heap.size]? = some (.cells #[.bool true] 4 (0, 0)) := by rw [← hwb]; exact heap_alloc_new _ _
 have HXB := Lib.hid hxb
 have HBB := Lib.hid (bthn hba hbb)
 have C := twalk_boundsT (h.below HBB.out) n h0 hn hc x y hg hy hk (.pointer (some ⟨w.heap.size, 0, none⟩)) (.pointer (some ⟨wa.heap.size, 0, none⟩)) [] (fun k hk => by simp at hk) (fun _ => True) (fun X x1 hX hnd => (tbounds1_at X n _ x1 y hnd hy.n hk _ wa.heap.size ((hX.block _ (Array.getElem?_eq_some_iff.1 HXB.out).1).trans HXB.out)).mono fun e w' hp => ⟨hp.1, hp.2, trivial⟩)
 have c0 := cellOf ((hbb.block _ (Array.getElem?_eq_some_iff.1 hxa).1).trans hxa) 0 (v := .pointer (some ⟨S, 0, none⟩)) rfl
 have hmf : ∀ (fn : Fn) (first cap : Array Value) (w : World), (Instr.makeFunc fn first cap).run Tryz.prog w = .ok (.func fn first cap) w := by intros; rfl
 clear h hg hy hk hba hxa hbb hxb
 go_enter Tryz.func95, Tryz.ntmps95
 go_wp2_with fail
 (try rw [hwa])
 (try rw [hwb])
 clear hwa hwb
 refine C.mono ?_
 rintro e w3 ⟨rfl, hm, _⟩
 have s0 := cellOf ((hm.block _ (Array.getElem?_eq_some_iff.1 HXB.out).1 (by simp)).trans HXB.out) 0 (v := .bool true) rfl
 have HM := Lib.hid hm
 clear C hm c0 hmf
 go_wp2_with fail
 go_ret
 exact ⟨rfl, ((Mods.of_below HBB.out).trans HM.out (fun k hk => .inl hk)).below (F := []) (fun k hk => by simp at hk) (Nat.le_refl _)⟩
/-- What Check answers of a leaf. -/
def chkE (a b : Int) : Int := if a = b then 0 else 14
set_option maxRecDepth 100000 in
set_option maxHeartbeats 12800000 in
theorem tcheck_leaf {w : World} {S B pm pd mf md : Nat} {s : Su} {A D : M} {Fm Fd : List Nat} {l : List (Nat × (NdV × Nd))} (h : StF w S B pm pd mf md s A D Fm Fd l) (n : Nat) (h0 : n ≠ 0) (hn : n < A.now.length) (hc : ctN A.now n ≠ 0) (x : NdV) (y : Nd) (hg : getA n l = some (x, y)) (hy : y.Ok) (hk : y.k ≠ 1) (hl : y.keys.length = 1) (k : Int) :
  Calls Tryz.prog 36 #[.pointer (some ⟨S, 0, none⟩), .int .u32 (n : Int), .int .i64 k] w fun e w' => e = .returned (.int .i64 (chkE y.k k)) ∧ Below w.heap.size w w' := by
 have hm9 := h.st.mok.max
 have hn4 : (n : Int) < 4294967296 := by omega
 have hn0 : ((n : Int) == 0) = false := by simp; omega
 obtain ⟨wa, hwa⟩ : ∃ W, w.alloc (.cells #[.int .u32 (n : Int)] 24) = W := ⟨_, rfl⟩
 have hba : Below w.heap.size w wa := by rw [← hwa]; exact balloc (Below.refl _ _) _
 have hxa : wa.heap[w.heap.size]? = some (.cells #[.int .u32 (n : Int)] 24 (0, 0)) := by rw [← hwa]; exact heap_alloc_new _ _
 obtain ⟨wb, hwb⟩ : ∃ W, wa.alloc (.cells #[.int .i64 k] 37) = W := ⟨_, rfl⟩
 have hbb : Below wa.heap.size wa wb := by rw [← hwb]; exact balloc (Below.refl _ _) _
 have hxb : wb.heap[wa.heap.size]? = some (.cells #[.int .i64 k] 37 (0, 0)) := by rw [← hwb]; exact heap_alloc_new _ _
 have HXA := Lib.hid ((hbb.block _ (Array.getElem?_eq_some_iff.1 hxa).1).trans hxa)
 have HXB := Lib.hid hxb
 have HBB := Lib.hid (bthn hba hbb)
 have HLA : Hid (w.heap.size < wa.heap.size) := Lib.hid (Array.getElem?_eq_some_iff.1 hxa).1
 have HH := Lib.hid h
 have HG := Lib.hid hg
 have HY := Lib.hid hy
 have HK := Lib.hid hk
 have HL := Lib.hid hl
 have HC := Lib.hid hc
 have C := tmay_in (h.below HBB.out).st n hn
 have c0 := cellOf HXA.out 0 (v := .int .u32 (n : Int)) rfl
 clear h hba hxa hbb hxb hg hy hk hl hc
 go_enter Tryz.func36, Tryz.ntmps36
 go_wp2_with fail
 (try rw [hwa])
 (try rw [hwb])
 clear hwa hwb
 refine C.mono ?_
 rintro e w1 ⟨rfl, hb1⟩
 have HB1 := Lib.hid (bthn HBB.out hb1)
 have HXA1 := Lib.hid ((hb1.block _ (Array.getElem?_eq_some_iff.1 HXA.out).1).trans HXA.out)
 have HXB1 := Lib.hid ((hb1.block _ (Array.getElem?_eq_some_iff.1 HXB.out).1).trans HXB.out)
 clear C c0 hb1
 have c0 := cellOf HXA1.out 0 (v := .int .u32 (n : Int)) rfl
 go_upto_region 6 with fail
 clear c0
 obtain ⟨v1, hv1⟩ : ∃ W, w1.alloc (.cells #[.int .i64 (-1)] 3) = W := ⟨_, rfl⟩
 have bv1 : Below w1.heap.size w1 v1 := by rw [← hv1]; exact balloc (Below.refl _ _) _
 have xv1 : v1.heap[w1.heap.size]? = some (.cells #[.int .i64 (-1)] 3 (0, 0)) := by rw [← hv1]; exact heap_alloc_new _ _
 have z1 : v1.heap.size = w1.heap.size + 1 := by rw [← hv1]; exact Array.size_push _
 rw [hv1]
 obtain ⟨v2, hv2⟩ : ∃ W, v1.alloc (.cells #[.bool true] 4) = W := ⟨_, rfl⟩
 have bv2 : Below v1.heap.size v1 v2 := by rw [← hv2]; exact balloc (Below.refl _ _) _
 have xv2 : v2.heap[v1.heap.size]? = some (.cells #[.bool true] 4 (0, 0)) := by rw [← hv2]; exact heap_alloc_new _ _
 have z2 : v2.heap.size = v1.heap.size + 1 := by rw [← hv2]; exact Array.size_push _
 rw [hv2]
 obtain ⟨v3, hv3⟩ : ∃ W, v2.alloc (.cells #[.slice none 0 0] 38) = W := ⟨_, rfl⟩
 have bv3 : Below v2.heap.size v2 v3 := by rw [← hv3]; exact balloc (Below.refl _ _) _
 have xv3 : v3.heap[v2.heap.size]? = some (.cells #[.slice none 0 0] 38 (0, 0)) := by rw [← hv3]; exact heap_alloc_new _ _
 rw [hv3]
 rw [z1] at z2 xv2
 rw [z2] at xv3
 have b13 := bthn bv1 (bthn bv2 bv3)
 have XD := Lib.hid (((bthn bv2 bv3).block _ (Array.getElem?_eq_some_iff.1 xv1).1).trans xv1)
 have XS := Lib.hid ((bv3.block _ (Array.getElem?_eq_some_iff.1 xv2).1).trans xv2)
 have XK := Lib.hid xv3
 have XA := Lib.hid ((b13.block _ (Array.getElem?_eq_some_iff.1 HXA1.out).1).trans HXA1.out)
 have XB := Lib.hid ((b13.block _ (Array.getElem?_eq_some_iff.1 HXB1.out).1).trans HXB1.out)
 have HB3 := Lib.hid (bthn HB1.out b13)
 have HZ : Hid (w.heap.size < w1.heap.size) := Lib.hid (Array.getElem?_eq_some_iff.1 HXA1.out).1
 obtain ⟨d, hd⟩ : ∃ d, w1.heap.size = d := ⟨_, rfl⟩
 rw [hd] at XD XS XK HZ ⊢
 have c0 := cellOf XA.out 0 (v := .int .u32 (n : Int)) rfl
 have hmf : ∀ (fn : Fn) (first cap : Array Value) (w : World), (Instr.makeFunc fn first cap).run Tryz.prog w = .ok (.func fn first cap) w := by intros; rfl
 clear hv1 bv1 xv1 z1 hv2 bv2 xv2 z2 hv3 bv3 xv3 b13 hd
 by_cases hyk : y.k = k
 ·have C := twalk_checkT (HH.out.below HB3.out) n h0 hn HC.out x y HG.out HY.out HK.out (.pointer (some ⟨w.heap.size, 0, none⟩)) (.pointer (some ⟨d + 1, 0, none⟩)) (.pointer (some ⟨d, 0, none⟩)) (.pointer (some ⟨wa.heap.size, 0, none⟩)) (.pointer (some ⟨d + 1 + 1, 0, none⟩)) [d + 1, d, d + 1 + 1] (fun k hk => by
    have := (Array.getElem?_eq_some_iff.1 XK.out).1
    simp only [List.mem_cons, List.mem_nil_iff, or_false] at hk
    omega) (fun W => W.heap[d + 1]? = some (.cells #[.bool true] 4 (0, 0)) ∧ ∃ v, W.heap[d + 1 + 1]? = some (.cells #[v] 38 (0, 0)) ∧ Rd W 1 v y.keys.length (qV y.keys)) (fun X x1 hX hnd => by
    have h9 := tcheck1_at X n hn4 _ x1 y hnd HY.out.n HK.out (by rw [HL.out]; exact Nat.le_refl _) w.heap.size (d + 1) d wa.heap.size (d + 1 + 1) k ((hX.block _ (Array.getElem?_eq_some_iff.1 XA.out).1).trans XA.out) ((hX.block _ (Array.getElem?_eq_some_iff.1 XS.out).1).trans XS.out) ((hX.block _ (Array.getElem?_eq_some_iff.1 XD.out).1).trans XD.out) ((hX.block _ (Array.getElem?_eq_some_iff.1 XB.out).1).trans XB.out) ((hX.block _ (Array.getElem?_eq_some_iff.1 XK.out).1).trans XK.out)
    rw [decide_eq_true hyk] at h9
    exact h9)
  have HYK := Lib.hid hyk
  clear hyk
  go_wp2_with fail
  refine C.mono ?_
  rintro e w4 ⟨rfl, hm4, hs4, v4, hk4, hr4⟩
  have HB4 : Hid (Below w.heap.size w w4) := Lib.hid (((Mods.of_below HB3.out).trans hm4 (fun k hk => .inr (by
   have := HZ.out
   simp only [List.mem_cons, List.mem_nil_iff, or_false] at hk
   omega))).below (F := []) (fun k hk => by simp at hk) (Nat.le_refl _))
  have s0 := cellOf hs4 0 (v := .bool true) rfl
  have XA4 := Lib.hid ((hm4.block _ (Array.getElem?_eq_some_iff.1 XA.out).1 (fun hh => by
   have h1 := (Array.getElem?_eq_some_iff.1 HXA.out).1
   have h2 := HZ.out
   have h3 := HBB.out.size
   have h4 := HLA.out
   simp only [List.mem_cons, List.mem_nil_iff, or_false] at hh
   omega)).trans XA.out)
  rw [HL.out] at hr4
  obtain ⟨a4, c4, rfl, _⟩ := id hr4
  have k0 := cellOf hk4 0 (v := .slice a4 1 c4) rfl
  have CR := trise_1 w4 a4 c4
  clear C c0 hm4 hs4 hk4 hr4
  have c0 := cellOf XA4.out 0 (v := .int .u32 (n : Int)) rfl
  go_wp2_with fail
  refine CR.mono ?_
  rintro e w5 ⟨rfl, rfl⟩
  clear CR s0 k0
  have CB := tbounds_leaf (HH.out.below HB4.out) n h0 hn HC.out x y HG.out HY.out HK.out
  go_wp2_with fail
  refine CB.mono ?_
  rintro e w5 ⟨rfl, hb5⟩
  have HB5 := Lib.hid (bthn HB4.out hb5)
  clear CB hb5
  go_wp2_with fail
  go_ret
  rw [chkE, if_pos HYK.out]
  exact ⟨rfl, HB5.out⟩
 ·have C := twalk_checkF (HH.out.below HB3.out) n h0 hn HC.out x y HG.out HY.out HK.out (.pointer (some ⟨w.heap.size, 0, none⟩)) (.pointer (some ⟨d + 1, 0, none⟩)) (.pointer (some ⟨d, 0, none⟩)) (.pointer (some ⟨wa.heap.size, 0, none⟩)) (.pointer (some ⟨d + 1 + 1, 0, none⟩)) [d + 1, d, d + 1 + 1] (fun k hk => by
    have := (Array.getElem?_eq_some_iff.1 XK.out).1
    simp only [List.mem_cons, List.mem_nil_iff, or_false] at hk
    omega) (fun W => W.heap[d + 1]? = some (.cells #[.bool false] 4 (0, 0)) ∧ ∃ v, W.heap[d + 1 + 1]? = some (.cells #[v] 38 (0, 0)) ∧ Rd W 1 v y.keys.length (qV y.keys)) (fun X x1 hX hnd => by
    have h9 := tcheck1_at X n hn4 _ x1 y hnd HY.out.n HK.out (by rw [HL.out]; exact Nat.le_refl _) w.heap.size (d + 1) d wa.heap.size (d + 1 + 1) k ((hX.block _ (Array.getElem?_eq_some_iff.1 XA.out).1).trans XA.out) ((hX.block _ (Array.getElem?_eq_some_iff.1 XS.out).1).trans XS.out) ((hX.block _ (Array.getElem?_eq_some_iff.1 XD.out).1).trans XD.out) ((hX.block _ (Array.getElem?_eq_some_iff.1 XB.out).1).trans XB.out) ((hX.block _ (Array.getElem?_eq_some_iff.1 XK.out).1).trans XK.out)
    rw [decide_eq_false hyk] at h9
    exact h9)
  have HYK := Lib.hid hyk
  clear hyk
  go_wp2_with fail
  refine C.mono ?_
  rintro e w4 ⟨rfl, hm4, hs4, v4, hk4, hr4⟩
  have HB4 : Hid (Below w.heap.size w w4) := Lib.hid (((Mods.of_below HB3.out).trans hm4 (fun k hk => .inr (by
   have := HZ.out
   simp only [List.mem_cons, List.mem_nil_iff, or_false] at hk
   omega))).below (F := []) (fun k hk => by simp at hk) (Nat.le_refl _))
  have s0 := cellOf hs4 0 (v := .bool false) rfl
  clear C c0 hm4 hs4 hk4 hr4
  go_wp2_with fail
  go_ret
  rw [chkE, if_neg HYK.out]
  exact ⟨rfl, HB4.out⟩
end Go.Proofs.YtcdobdjemlaaaaaGreat
/- btree.Get, All, Check of an inner node without children; Put of another kind, walked. -/
namespace Go.Proofs.YtcdobdjemlaaaaaGreat
open Go.RowKit Go.Maps Wire
set_option linter.unusedVariables false
set_option linter.unusedSimpArgs false
set_option maxRecDepth 100000 in
set_option maxHeartbeats 3200000 in
theorem tput_bad {w : World} {S B pm pd mf md : Nat} {s : Su} {A D : M} {Fm Fd : List Nat} (h : StB w S B pm pd mf md s A D Fm Fd false) (kd k u : Int) (h2 : kd ≠ 2) (h3 : kd ≠ 3) : Calls Tryz.prog 31 #[.pointer (some ⟨S, 0, none⟩), .int .u32 0, .int .i64 kd, .int .u64 k, .int .u64 u] w fun e w' => e = .returned (.tuple #[.int .u32 0, .int .u64 0, .bool false, .int .i64 2]) ∧ Below w.heap.size w w' := by
 have C := tmay_in h 0 h.mok.pos
 have k2 : (kd == 2) = false := by simp; exact h2
 have k3 : (kd == 3) = false := by simp; exact h3
 have k2' : (kd != 2) = true := by simp [bne, k2]
 have k3' : (kd != 3) = true := by simp [bne, k3]
 clear h h2 h3
 go_enter Tryz.func31, Tryz.ntmps31
 go_wp2_with fail
 refine C.mono ?_
 rintro e w1 ⟨rfl, hb1⟩
 have HB1 := Lib.hid hb1
 clear C hb1
 go_wp2_with fail
 refine bodyPost_ret (results_t4 rfl _ _ _) rfl ?_
 exact ⟨rfl, HB1.out⟩
set_option maxRecDepth 100000 in
set_option maxHeartbeats 6400000 in
theorem tget_empty {w : World} {S B pm pd mf md : Nat} {s : Su} {A D : M} {Fm Fd : List Nat} {l : List (Nat × (NdV × Nd))} (h : StF w S B pm pd mf md s A D Fm Fd l) (n : Nat) (h0 : n ≠ 0) (hn : n < A.now.length) (hc : ctN A.now n ≠ 0) (x : NdV) (y : Nd) (hg : getA n l = some (x, y)) (hk : y.k = 1) (hks : y.keys = []) (hvs : y.vals = []) (key : Int) :
  Calls Tryz.prog 30 #[.pointer (some ⟨S, 0, none⟩), .int .u32 (n : Int), .int .u64 key] w fun e w' => e = .returned (.tuple #[.int .u64 0, .bool false, .int .i64 14]) ∧ Below w.heap.size w w' := by
 have hm9 := h.st.mok.max
 have CM := tmay_in h.st n hn
 have CN : Hid (∀ X, Below w.heap.size w X → Calls Tryz.prog 8 #[.pointer (some ⟨S, 0, none⟩), .int .u32 (n : Int)] X (NodeP X y)) := Lib.hid (fun X hX => snode_in (h.below hX) n h0 hn hc x y hg (by rw [hks]; decide) (by rw [hvs]; decide))
 have HKS := Lib.hid (show y.keys.length = 0 by rw [hks]; rfl)
 have hn0 : ((n : Int) == 0) = false := by simp; omega
 have hk1 : (y.k == 1) = true := by rw [hk]; rfl
 clear h hg hc hk hks hvs
 go_enter Tryz.func30, Tryz.ntmps30
 go_wp2_with fail
 refine CM.mono ?_
 rintro e w1 ⟨rfl, hb1⟩
 have HB1 := Lib.hid hb1
 clear CM hb1
 go_wp2_with fail
 go_loopw [10, 11] (fun u v wr => u = .int .u32 (n : Int) ∧ v = .int .i64 0 ∧ wr = w1) (fun _ _ _ => 0)
 case atStart => exact ⟨rfl, rfl, rfl⟩
 case round =>
  obtain ⟨rfl, rfl, rfl⟩ := hrel
  have C := CN.out wr HB1.out
  clear CN
  go_wp2_with fail
  refine C.mono ?_
  rintro e w2 ⟨x1, rfl, hnd, hb2⟩
  have HB2 := Lib.hid (bthn HB1.out hb2)
  obtain ⟨a1, a2, e1, e2, e3⟩ := ndA_eq x1
  rw [e1]
  have HKB : Hid (x1.k = y.k ∧ x1.b = y.b ∧ x1.n1 = y.keys.length ∧ x1.n2 = y.vals.length) := Lib.hid ⟨hnd.k, hnd.b, hnd.n1, hnd.n2⟩
  obtain ⟨kd, hkd⟩ : ∃ z, x1.k = z := ⟨_, rfl⟩
  obtain ⟨bb, hbb⟩ : ∃ z, x1.b = z := ⟨_, rfl⟩
  obtain ⟨n1, hn1⟩ : ∃ z, x1.n1 = z := ⟨_, rfl⟩
  obtain ⟨n2, hn2⟩ : ∃ z, x1.n2 = z := ⟨_, rfl⟩
  obtain ⟨c1, hc1⟩ : ∃ z, x1.c1 = z := ⟨_, rfl⟩
  obtain ⟨c2, hc2⟩ : ∃ z, x1.c2 = z := ⟨_, rfl⟩
  rw [hkd, hbb, hn1, hn2, hc1, hc2]
  rw [hkd, hbb, hn1, hn2] at HKB
  rw [← HKB.out.1] at hk1
  obtain ⟨w3, hw3⟩ : ∃ W, w2.alloc (.cells #[.int .i64 kd, .int .u64 (bb : Int), .slice a1 n1 c1, .slice a2 n2 c2] 40) = W := ⟨_, rfl⟩
  have hb3 : Below w2.heap.size w2 w3 := by rw [← hw3]; exact balloc (Below.refl _ _) _
  have hx3 : w3.heap[w2.heap.size]? = some (.cells #[.int .i64 kd, .int .u64 (bb : Int), .slice a1 n1 c1, .slice a2 n2 c2] 40 (0, 0)) := by rw [← hw3]; exact heap_alloc_new _ _
  have HX3 := Lib.hid hx3
  have HB3 := Lib.hid (bthn HB2.out hb3)
  have hz : ((n1 : Int) == 0) = true := by rw [HKB.out.2.2.1, HKS.out]; rfl
  clear C hnd hb2 e1 e2 e3 hkd hbb hn1 hn2 hc1 hc2 hb3 hx3
  have d0 := cellOf HX3.out 0 (v := .int .i64 kd) rfl
  have d2 := cellOf HX3.out 2 (v := .slice a1 n1 c1) rfl
  dsimp only
  go_wp2_with fail
  go_ret3
  exact ⟨rfl, HB3.out⟩
set_option maxRecDepth 100000 in
set_option maxHeartbeats 6400000 in
theorem tall_empty {w : World} {S B pm pd mf md : Nat} {s : Su} {A D : M} {Fm Fd : List Nat} {l : List (Nat × (NdV × Nd))} (h : StF w S B pm pd mf md s A D Fm Fd l) (n : Nat) (h0 : n ≠ 0) (hn : n < A.now.length) (hc : ctN A.now n ≠ 0) (x : NdV) (y : Nd) (hg : getA n l = some (x, y)) (hk : y.k = 1) (hks : y.keys = []) (hvs : y.vals = []) (k : Int) :
  Calls Tryz.prog 33 #[.pointer (some ⟨S, 0, none⟩), .int .u32 (n : Int), .int .u64 k] w fun e w' => e = .returned (.tuple #[.slice none 0 0, .int .i64 14]) ∧ Below w.heap.size w w' := by
 have hm9 := h.st.mok.max
 have hn4 : (n : Int) < 4294967296 := by omega
 have hn0 : ((n : Int) == 0) = false := by simp; omega
 obtain ⟨a0, ha0⟩ : ∃ W, w.alloc (.cells #[.int .u64 k] 23) = W := ⟨_, rfl⟩
 have ba0 : Below w.heap.size w a0 := by rw [← ha0]; exact balloc (Below.refl _ _) _
 obtain ⟨a1, ha1⟩ : ∃ W, a0.alloc (.cells #[.slice none 0 0] 72) = W := ⟨_, rfl⟩
 have ba1 : Below a0.heap.size a0 a1 := by rw [← ha1]; exact balloc (Below.refl _ _) _
 have xa1 : a1.heap[a0.heap.size]? = some (.cells #[.slice none 0 0] 72 (0, 0)) := by rw [← ha1]; exact heap_alloc_new _ _
 have HZ : Hid (w.heap.size ≤ a0.heap.size) := Lib.hid ba0.size
 have HB0 : Hid (Below w.heap.size w a1) := Lib.hid (bthn ba0 ba1)
 have HX0 := Lib.hid xa1
 have C := tmay_in (h.below HB0.out).st n hn
 have CW : Hid (∀ X f, Below w.heap.size w X → Calls Tryz.prog 90 #[.pointer (some ⟨S, 0, none⟩), .int .u32 (n : Int), .int .i64 0, f] X fun e w' => e = .returned (.tuple #[.bool false, .int .i64 14]) ∧ Below X.heap.size X w') := Lib.hid (fun X f hX => twalk_empty (h.below hX) n h0 hn hc x y hg hk hks hvs f)
 have hmf : ∀ (fn : Fn) (first cap : Array Value) (w : World), (Instr.makeFunc fn first cap).run Tryz.prog w = .ok (.func fn first cap) w := by intros; rfl
 clear h ba0 ba1 xa1 hg hc hk hks hvs
 go_enter Tryz.func33, Tryz.ntmps33
 go_wp2_with fail
 (try rw [ha0])
 (try rw [ha1])
 clear ha0 ha1
 refine C.mono ?_
 rintro e w1 ⟨rfl, hb1⟩
 have HB1 := Lib.hid (bthn HB0.out hb1)
 have HX1 := Lib.hid ((hb1.block _ (Array.getElem?_eq_some_iff.1 HX0.out).1).trans HX0.out)
 have CW1 := fun f => CW.out w1 f HB1.out
 clear C hb1 CW
 go_wp2_with fail
 refine (CW1 _).mono ?_
 rintro e w2 ⟨rfl, hb2⟩
 have HB2 := Lib.hid (bthn HB1.out hb2)
 have HX2 := Lib.hid ((hb2.block _ (Array.getElem?_eq_some_iff.1 HX1.out).1).trans HX1.out)
 have t0 := cellOf HX2.out 0 (v := .slice none 0 0) rfl
 have f0 := frozenOf HX2.out 0
 clear CW1 hb2 hmf
 go_wp2_with fail
 obtain ⟨w3, hw3⟩ : ∃ W, w2.setCell ⟨a0.heap.size, 0, none⟩ (.slice none 0 0) = W := ⟨_, rfl⟩
 rw [hw3]
 have hx2 : w3.heap[a0.heap.size]? = some (.cells #[.slice none 0 0] 72 (0, 0)) := by rw [← hw3]; exact setOf HX2.out 0 _
 have hb3 : Below w.heap.size w w3 := by rw [← hw3]; exact HB2.out.setCell (p := ⟨a0.heap.size, 0, none⟩) HZ.out _
 refine bodyPost_ret (v := .tuple #[.slice none 0 0, .int .i64 14]) ?_ rfl ⟨rfl, hb3⟩
 rw [results_cell_tmp rfl]
 have r1 := lv_one agg72 (cellOf hx2 0 (v := .slice none 0 0) rfl)
 simp only [asAddr, Array.getD_eq_getD_getElem?, List.getElem?_toArray, List.getElem?_cons_succ, List.getElem?_cons_zero, Option.getD_some, Sem.run_pure, Result.andThen_ok, r1]
set_option maxRecDepth 100000 in
set_option maxHeartbeats 6400000 in
theorem tcheck_empty {w : World} {S B pm pd mf md : Nat} {s : Su} {A D : M} {Fm Fd : List Nat} {l : List (Nat × (NdV × Nd))} (h : StF w S B pm pd mf md s A D Fm Fd l) (n : Nat) (h0 : n ≠ 0) (hn : n < A.now.length) (hc : ctN A.now n ≠ 0) (x : NdV) (y : Nd) (hg : getA n l = some (x, y)) (hk : y.k = 1) (hks : y.keys = []) (hvs : y.vals = []) (k : Int) :
  Calls Tryz.prog 36 #[.pointer (some ⟨S, 0, none⟩), .int .u32 (n : Int), .int .i64 k] w fun e w' => e = .returned (.int .i64 14) ∧ Below w.heap.size w w' := by
 have hm9 := h.st.mok.max
 have hn4 : (n : Int) < 4294967296 := by omega
 have hn0 : ((n : Int) == 0) = false := by simp; omega
 obtain ⟨wa, hwa⟩ : ∃ W, w.alloc (.cells #[.int .u32 (n : Int)] 24) = W := ⟨_, rfl⟩
 have hba : Below w.heap.size w wa := by rw [← hwa]; exact balloc (Below.refl _ _) _
 have hxa : wa.heap[w.heap.size]? = some (.cells #[.int .u32 (n : Int)] 24 (0, 0)) := by rw [← hwa]; exact heap_alloc_new _ _
 obtain ⟨wb, hwb⟩ : ∃ W, wa.alloc (.cells #[.int .i64 k] 37) = W := ⟨_, rfl⟩
 have hbb : Below wa.heap.size wa wb := by rw [← hwb]; exact balloc (Below.refl _ _) _
 have HXA := Lib.hid ((hbb.block _ (Array.getElem?_eq_some_iff.1 hxa).1).trans hxa)
 have HBB := Lib.hid (bthn hba hbb)
 have C := tmay_in (h.below HBB.out).st n hn
 have CW : Hid (∀ X f, Below w.heap.size w X → Calls Tryz.prog 90 #[.pointer (some ⟨S, 0, none⟩), .int .u32 (n : Int), .int .i64 0, f] X fun e w' => e = .returned (.tuple #[.bool false, .int .i64 14]) ∧ Below X.heap.size X w') := Lib.hid (fun X f hX => twalk_empty (h.below hX) n h0 hn hc x y hg hk hks hvs f)
 have c0 := cellOf HXA.out 0 (v := .int .u32 (n : Int)) rfl
 have hmf : ∀ (fn : Fn) (first cap : Array Value) (w : World), (Instr.makeFunc fn first cap).run Tryz.prog w = .ok (.func fn first cap) w := by intros; rfl
 clear h hba hxa hbb hg hc hk hks hvs
 go_enter Tryz.func36, Tryz.ntmps36
 go_wp2_with fail
 (try rw [hwa])
 (try rw [hwb])
 clear hwa hwb
 refine C.mono ?_
 rintro e w1 ⟨rfl, hb1⟩
 have HB1 := Lib.hid (bthn HBB.out hb1)
 have HXA1 := Lib.hid ((hb1.block _ (Array.getElem?_eq_some_iff.1 HXA.out).1).trans HXA.out)
 clear C c0 hb1
 have c0 := cellOf HXA1.out 0 (v := .int .u32 (n : Int)) rfl
 go_upto_region 6 with fail
 clear c0
 obtain ⟨v3, hv3⟩ : ∃ W, (((w1.alloc (.cells #[.int .i64 (-1)] 3)).alloc (.cells #[.bool true] 4)).alloc (.cells #[.slice none 0 0] 38)) = W := ⟨_, rfl⟩
 rw [hv3]
 have b13 : Below w1.heap.size w1 v3 := by rw [← hv3]; exact balloc (balloc (balloc (Below.refl _ _) _) _) _
 have HB3 := Lib.hid (bthn HB1.out b13)
 have c0 := cellOf ((b13.block _ (Array.getElem?_eq_some_iff.1 HXA1.out).1).trans HXA1.out) 0 (v := .int .u32 (n : Int)) rfl
 have CW1 := fun f => CW.out v3 f HB3.out
 clear hv3 b13 CW
 go_wp2_with fail
 refine (CW1 _).mono ?_
 rintro e w2 ⟨rfl, hb2⟩
 have HB2 := Lib.hid (bthn HB3.out hb2)
 clear CW1 hb2 hmf c0
 go_wp2_with fail
 go_ret
 exact ⟨rfl, HB2.out⟩
end Go.Proofs.YtcdobdjemlaaaaaGreat
