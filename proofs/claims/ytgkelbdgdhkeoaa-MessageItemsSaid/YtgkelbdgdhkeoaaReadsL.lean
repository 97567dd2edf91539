/- CommandReads, walked. -/
import Derived.Test.YtgkelbdgdhkeoaaCR
import Derived.Test.YtgkelbdgdhkeoaaCK
namespace Go.Proofs.Ytgkelbdgdhkeoaa
open Go.RowKit
set_option linter.unusedVariables false
set_option linter.unusedSimpArgs false
open Wire Cmd

theorem eA_cases {α : Type} (o : Option α) : (o.isSome = true ∧ eA o = 0) ∨ (o.isSome = false ∧ eA o = 4) := by
  cases o
  · exact .inr ⟨rfl, rfl⟩
  · exact .inl ⟨rfl, rfl⟩
theorem cells_one {l : List Value} {w : World} {n : Nat} {xs : List Value} {sl : Value} (hr : Rd w 1 sl n xs) : sl.oneCell' = true := by
  obtain ⟨_, _, rfl, _⟩ := hr; rfl
theorem oC_list (o : Op0) {w : World} {n : Nat} {xs : List Value} {sl : Value} (hr : Rd w 1 sl n xs) : ∃ C : List Value, oC o sl = C.toArray ∧ C.length = 7 ∧ ∀ u ∈ C, u.oneCell' = true := ⟨_, rfl, rfl, by
  obtain ⟨_, _, rfl, _⟩ := hr
  intro u hu
  simp only [List.mem_cons, List.not_mem_nil, or_false] at hu
  rcases hu with rfl | rfl | rfl | rfl | rfl | rfl | rfl <;> rfl⟩
theorem aC_list (o : Ans0) {w : World} {n : Nat} {xs : List Value} {sl : Value} (hr : Rd w 1 sl n xs) : ∃ C : List Value, aC o sl = C.toArray ∧ C.length = 3 ∧ (∀ u ∈ C, u.oneCell' = true) ∧ C[0]? = some (.int .i64 o.code) ∧ C[1]? = some (.int .i64 o.done) ∧ C[2]? = some sl := ⟨_, rfl, rfl, by
  obtain ⟨_, _, rfl, _⟩ := hr
  intro u hu
  simp only [List.mem_cons, List.not_mem_nil, or_false] at hu
  rcases hu with rfl | rfl | rfl <;> rfl, rfl, rfl, rfl⟩
theorem bthenA {a : Nat} {w x z : World} {b : Nat} (h : Below a w x) (k : Below b x z) (hb : a ≤ b) : Below a w z := h.trans (k.mono hb)
theorem range_box {w W : World} {T : TypeId} {cs : List Value} (hb : Below (w.heap.size + 1) (w.alloc (.cells cs.toArray T)) W) : W.rangeAt w.heap.size 0 cs :=
  rangeLow (range_new w T cs) (Nat.lt_succ_self _) hb

set_option maxRecDepth 100000 in
set_option maxHeartbeats 12800000 in
theorem commandReads_walk (bs cs : List UInt8) (v u : Value) (w : World) (hv : Rd w 1 v bs.length (bV bs)) (hu : Rd w 1 u cs.length (bV cs)) :
    Calls Try.prog 7 #[v, u] w fun e w' => e = .returned (.bool true) ∧ Below w.heap.size w w' := by
  have HV := Lib.hid hv
  have HU := Lib.hid hu
  have CK := Lib.hid (fun W => known13_any W)
  have hlv : bs.length ≤ 9223372036854775807 := by obtain ⟨_, _, _, _, h, _⟩ := hv; unfold maxLen at h; exact h
  have hlu : cs.length ≤ 9223372036854775807 := by obtain ⟨_, _, _, _, h, _⟩ := hu; unfold maxLen at h; exact h
  obtain ⟨ao, cap, rfl, _⟩ := hv
  obtain ⟨bo, cbp, rfl, _⟩ := hu
  by_cases hb9 : 9000 < (bs.length : Int)
  · skip
    go_enter Try.func7, Try.ntmps7
    go_wp2_with fail
    refine (CK.out _).mono ?_
    rintro e w2 ⟨rfl, hb2⟩
    have HB2 := Lib.hid hb2
    clear hb2
    go_wp2_with fail
    go_ret
    exact ⟨rfl, HB2.out⟩
  have hb9' : (bs.length : Int) ≤ 9000 := by omega
  by_cases hc9 : 9000 < (cs.length : Int)
  · skip
    go_enter Try.func7, Try.ntmps7
    go_wp2_with fail
    refine (CK.out _).mono ?_
    rintro e w2 ⟨rfl, hb2⟩
    have HB2 := Lib.hid hb2
    clear hb2
    go_wp2_with fail
    go_ret
    exact ⟨rfl, HB2.out⟩
  have hc9' : (cs.length : Int) ≤ 9000 := by omega
  have C1 := ofO_any bs _ w HV.out (by omega)
  have C2 : Hid (∀ W, Below w.heap.size w W → Calls Try.prog 44 #[.slice ao bs.length cap] W (ROOfP w W (ofO bs))) := Lib.hid (fun W hW => rofO_any bs _ w W HV.out hW (by omega))
  have C3 : Hid (∀ W, Below w.heap.size w W → Calls Try.prog 45 #[.slice bo cs.length cbp] W (AOfP W (ofA cs))) := Lib.hid (fun W hW => ansOf_any cs _ W (HU.out.below hW) (by omega))
  have C4 : Hid (∀ W, Below w.heap.size w W → Calls Try.prog 46 #[.slice bo cs.length cbp] W (RAOfP w W (ofA cs))) := Lib.hid (fun W hW => ransOf_any cs _ w W HU.out hW (by omega))
  generalize ofO bs = oo at *
  generalize ofA cs = aa at *
  have HEO := Lib.hid (eA_cases oo)
  have HEA := Lib.hid (eA_cases aa)
  obtain ⟨e1, he1⟩ : ∃ x, eA oo = x := ⟨_, rfl⟩
  obtain ⟨y1, hy1⟩ : ∃ x, oo.isSome = x := ⟨_, rfl⟩
  obtain ⟨e2, he2⟩ : ∃ x, eA aa = x := ⟨_, rfl⟩
  obtain ⟨y2, hy2⟩ : ∃ x, aa.isSome = x := ⟨_, rfl⟩
  rw [he1, hy1] at HEO
  rw [he2, hy2] at HEA
  have HE1 := Lib.hid he1
  have HY1 := Lib.hid hy1
  have HE2 := Lib.hid he2
  have HY2 := Lib.hid hy2
  clear hb9 hc9 he1 hy1 he2 hy2
  go_enter Try.func7, Try.ntmps7
  go_wp2_with fail
  refine C1.mono ?_
  rintro e w1 ⟨hb1, s1, rfl, hr1⟩
  rw [HE1.out]
  have HB1 := Lib.hid hb1
  have HR1 := Lib.hid hr1
  obtain ⟨D1, hD1, l1, n1⟩ := oC_list (oO oo) hr1
  rw [hD1]
  have hst1 := run_storeNew (P := Try.prog) w1 26 #[.int .i64 0, .int .u64 0, .int .u64 0, .int .i64 0, .int .i64 0, .int .i64 0, .slice none 0 0] D1.toArray (by simp [l1]) (by simpa using n1)
  have HD1 := Lib.hid hD1
  have HB1' : Hid (Below w.heap.size w (w1.alloc (.cells D1.toArray 26))) := Lib.hid (balloc hb1 _)
  clear C1 hb1 hr1 hD1 n1 hb9' hc9'
  go_wp2_with fail
  clear hst1
  refine (C2.out _ HB1'.out).mono ?_
  rintro e w2 ⟨hb2, s2, rfl, hr2⟩
  rw [HY1.out]
  have HB2 := Lib.hid hb2
  have HR2 := Lib.hid hr2
  obtain ⟨D2, hD2, l2, n2⟩ := oC_list (oO oo) hr2
  rw [hD2]
  have hst2 := run_storeNew (P := Try.prog) w2 26 #[.int .i64 0, .int .u64 0, .int .u64 0, .int .i64 0, .int .i64 0, .int .i64 0, .slice none 0 0] D2.toArray (by simp [l2]) (by simpa using n2)
  have HD2 := Lib.hid hD2
  have HB2' : Hid (Below w.heap.size w (w2.alloc (.cells D2.toArray 26))) := Lib.hid (balloc (bthen HB1'.out hb2) _)
  clear hb2 hr2 hD2 n2
  go_wp2_with fail
  clear hst2
  refine (C3.out _ HB2'.out).mono ?_
  rintro e w3 ⟨hb3, s3, rfl, hr3⟩
  rw [HE2.out]
  have HB3 := Lib.hid hb3
  have HR3 := Lib.hid hr3
  obtain ⟨D3, hD3, l3, n3, k3⟩ := aC_list (oA aa) hr3
  have HK3 := Lib.hid k3
  clear k3
  rw [hD3]
  have hst3 := run_storeNew (P := Try.prog) w3 47 #[.int .i64 0, .int .i64 0, .slice none 0 0] D3.toArray (by simp [l3]) (by simpa using n3)
  have HD3 := Lib.hid hD3
  have HB3' : Hid (Below w.heap.size w (w3.alloc (.cells D3.toArray 47))) := Lib.hid (balloc (bthen HB2'.out hb3) _)
  clear hb3 hr3 hD3 n3
  go_wp2_with fail
  clear hst3
  refine (C4.out _ HB3'.out).mono ?_
  rintro e w4 ⟨hb4, s4, rfl, hr4⟩
  rw [HY2.out]
  have HB4 := Lib.hid hb4
  have HR4 := Lib.hid hr4
  obtain ⟨D4, hD4, l4, n4, k4⟩ := aC_list (oA aa) hr4
  have HK4 := Lib.hid k4
  clear k4
  rw [hD4]
  have hst4 := run_storeNew (P := Try.prog) w4 47 #[.int .i64 0, .int .i64 0, .slice none 0 0] D4.toArray (by simp [l4]) (by simpa using n4)
  have HD4 := Lib.hid hD4
  have HB4' : Hid (Below w.heap.size w (w4.alloc (.cells D4.toArray 47))) := Lib.hid (balloc (bthen HB3'.out hb4) _)
  have HLS := Lib.hid (And.intro l1 (And.intro l2 (And.intro l3 l4)))
  clear hb4 hr4 hD4 n4
  go_upto_region 7 with fail
  clear hst4 l1 l2 l3 l4
  obtain ⟨wr, hwr⟩ : ∃ W, w4.alloc (.cells D4.toArray 47) = W := ⟨_, rfl⟩
  have HBR : Hid (Below w.heap.size w wr) := Lib.hid (by rw [← hwr]; exact HB4'.out)
  have HB4r : Hid (Below w4.heap.size w4 wr) := Lib.hid (by rw [← hwr]; exact balloc (Below.refl _ _) _)
  have HR4r : Hid (wr.rangeAt w4.heap.size 0 D4 ∧ w4.heap.size < wr.heap.size) := Lib.hid (by rw [← hwr]; exact ⟨range_new w4 _ D4, by simp⟩)
  have HB3r : Hid (Below (w3.heap.size + 1) (w3.alloc (.cells D3.toArray 47)) wr) := Lib.hid (by
    have h := HB4.out
    rw [World.size_alloc] at h
    exact h.trans (HB4r.out.mono (by have := h.size; simpa using this)))
  have HR3r : Hid (wr.rangeAt w3.heap.size 0 D3 ∧ w3.heap.size < wr.heap.size) := Lib.hid ⟨range_box HB3r.out, by have := HB3r.out.size; simp at this; omega⟩
  have HB2r : Hid (Below (w2.heap.size + 1) (w2.alloc (.cells D2.toArray 26)) wr) := Lib.hid (by
    have h := HB3.out
    rw [World.size_alloc] at h
    exact (h.trans ((balloc (Below.refl _ w3) _).mono (by have := h.size; simpa using this))).trans (HB3r.out.mono (by have := h.size; simp at this; omega)))
  have HR2r : Hid (wr.rangeAt w2.heap.size 0 D2 ∧ w2.heap.size < wr.heap.size) := Lib.hid ⟨range_box HB2r.out, by have := HB2r.out.size; simp at this; omega⟩
  have HB1r : Hid (Below (w1.heap.size + 1) (w1.alloc (.cells D1.toArray 26)) wr) := Lib.hid (by
    have h := HB2.out
    rw [World.size_alloc] at h
    exact (h.trans ((balloc (Below.refl _ w2) _).mono (by have := h.size; simpa using this))).trans (HB2r.out.mono (by have := h.size; simp at this; omega)))
  have HR1r : Hid (wr.rangeAt w1.heap.size 0 D1 ∧ w1.heap.size < wr.heap.size) := Lib.hid ⟨range_box HB1r.out, by have := HB1r.out.size; simp at this; omega⟩
  rw [hwr]
  clear hwr
  have CS1 : Hid (∀ X, Below wr.heap.size wr X → Calls Try.prog 24 #[.agg D1.toArray, .agg D2.toArray] X fun e w' => e = .returned (.bool true) ∧ Below X.heap.size X w') := Lib.hid (fun X hX => by
    rw [← HD1.out, ← HD2.out, ← opEq_yes (rfl : oO oo = oO oo)]
    exact rsame_any (oO oo) (oO oo) s1 s2 X ((HR1.out.below ((balloc (Below.refl _ _) _).trans (HB1r.out.mono (Nat.le_succ _)))).below hX) (HR2.out.below (bthen HBR.out hX)))
  have CS2 : Hid (∀ X, Below wr.heap.size wr X → Calls Try.prog 34 #[.agg #[.int .i64 (oA aa).code, .int .i64 (oA aa).done, s3], .agg #[.int .i64 (oA aa).code, .int .i64 (oA aa).done, s4]] X fun e w' => e = .returned (.bool true) ∧ Below X.heap.size X w') := Lib.hid (fun X hX => by
    rw [← ansEq_yes (rfl : oA aa = oA aa)]
    exact rsameA_any (oA aa) (oA aa) s3 s4 X ((HR3.out.below ((balloc (Below.refl _ _) _).trans (HB3r.out.mono (Nat.le_succ _)))).below hX) (HR4.out.below (bthen HBR.out hX)))
  have HI1 : Hid ((Try.prog.info? 26).map (·.size) = some D1.length) := Lib.hid (by rw [HLS.out.1]; exact infoOp)
  have HI2 : Hid ((Try.prog.info? 26).map (·.size) = some D2.length) := Lib.hid (by rw [HLS.out.2.1]; exact infoOp)
  have HI3 : Hid ((Try.prog.info? 47).map (·.size) = some D3.length) := Lib.hid (by rw [HLS.out.2.2.1]; exact infoAn)
  have HI4 : Hid ((Try.prog.info? 47).map (·.size) = some D4.length) := Lib.hid (by rw [HLS.out.2.2.2]; exact infoAn)
  have HSS : Hid (∀ X, Below wr.heap.size wr X → (X.rangeAt w1.heap.size 0 D1 ∧ X.rangeAt w2.heap.size 0 D2 ∧ X.rangeAt w3.heap.size 0 D3 ∧ X.rangeAt w4.heap.size 0 D4) ∧ Below wr.heap.size wr X) := Lib.hid (fun X hX => ⟨⟨rangeAt_below HR1r.out.1 HR1r.out.2 hX, rangeAt_below HR2r.out.1 HR2r.out.2 hX, rangeAt_below HR3r.out.1 HR3r.out.2 hX, rangeAt_below HR4r.out.1 HR4r.out.2 hX⟩, hX⟩)
  rcases HEO.out with ⟨rfl, rfl⟩ | ⟨rfl, rfl⟩ <;> rcases HEA.out with ⟨rfl, rfl⟩ | ⟨rfl, rfl⟩
  · clear HE1 HY1 HE2 HY2 HEO HEA
    go_wp2_with (first
      | (refine wpList_load_mid rfl 26 _ rfl w1.heap.size 0 rfl D1 _ HR1r.out.1 Try.underlying26 rfl HI1.out ?_)
      | (refine wpList_load_mid rfl 26 _ rfl w2.heap.size 0 rfl D2 _ HR2r.out.1 Try.underlying26 rfl HI2.out ?_))
    refine (CS1.out _ (Below.refl _ _)).mono ?_
    rintro e x1 ⟨rfl, hb1⟩
    have HQ := Lib.hid (HSS.out _ hb1)
    clear hb1
    have q0 : x1.cell? ⟨w3.heap.size, 0, none⟩ = _ := HQ.out.1.2.2.1 0 _ HK3.out.1
    have q1 : x1.cell? ⟨w3.heap.size, 1, none⟩ = _ := HQ.out.1.2.2.1 1 _ HK3.out.2.1
    have q2 : x1.cell? ⟨w3.heap.size, 2, none⟩ = _ := HQ.out.1.2.2.1 2 _ HK3.out.2.2
    have q3 : x1.cell? ⟨w4.heap.size, 0, none⟩ = _ := HQ.out.1.2.2.2 0 _ HK4.out.1
    have q4 : x1.cell? ⟨w4.heap.size, 1, none⟩ = _ := HQ.out.1.2.2.2 1 _ HK4.out.2.1
    have q5 : x1.cell? ⟨w4.heap.size, 2, none⟩ = _ := HQ.out.1.2.2.2 2 _ HK4.out.2.2
    go_wp2_with fail
    refine (num13_any _ _).mono ?_
    rintro e y1 ⟨rfl, rfl⟩
    go_wp2_with fail
    clear q0 q1 q2 q3 q4 q5
    refine (CS2.out _ HQ.out.2).mono ?_
    rintro e x2 ⟨rfl, hb2⟩
    have HP := Lib.hid (bthen HQ.out.2 hb2)
    clear hb2
    go_wp2_with fail
    refine (num13_any _ _).mono ?_
    rintro e y1 ⟨rfl, rfl⟩
    go_wp2_with fail
    refine (CK.out _).mono ?_
    rintro e x3 ⟨rfl, hb3⟩
    have HF := Lib.hid (bthen HBR.out (bthen HP.out hb3))
    clear hb3
    go_wp2_with fail
    go_ret
    exact ⟨rfl, HF.out⟩
  · clear HE1 HY1 HE2 HY2 HEO HEA
    go_wp2_with (first
      | (refine wpList_load_mid rfl 26 _ rfl w1.heap.size 0 rfl D1 _ HR1r.out.1 Try.underlying26 rfl HI1.out ?_)
      | (refine wpList_load_mid rfl 26 _ rfl w2.heap.size 0 rfl D2 _ HR2r.out.1 Try.underlying26 rfl HI2.out ?_))
    refine (CS1.out _ (Below.refl _ _)).mono ?_
    rintro e x1 ⟨rfl, hb1⟩
    have HQ := Lib.hid (HSS.out _ hb1)
    clear hb1
    have q0 : x1.cell? ⟨w3.heap.size, 0, none⟩ = _ := HQ.out.1.2.2.1 0 _ HK3.out.1
    have q1 : x1.cell? ⟨w3.heap.size, 1, none⟩ = _ := HQ.out.1.2.2.1 1 _ HK3.out.2.1
    have q2 : x1.cell? ⟨w3.heap.size, 2, none⟩ = _ := HQ.out.1.2.2.1 2 _ HK3.out.2.2
    have q3 : x1.cell? ⟨w4.heap.size, 0, none⟩ = _ := HQ.out.1.2.2.2 0 _ HK4.out.1
    have q4 : x1.cell? ⟨w4.heap.size, 1, none⟩ = _ := HQ.out.1.2.2.2 1 _ HK4.out.2.1
    have q5 : x1.cell? ⟨w4.heap.size, 2, none⟩ = _ := HQ.out.1.2.2.2 2 _ HK4.out.2.2
    go_wp2_with fail
    refine (num13_any _ _).mono ?_
    rintro e y1 ⟨rfl, rfl⟩
    go_wp2_with fail
    clear q0 q1 q2 q3 q4 q5
    refine (CS2.out _ HQ.out.2).mono ?_
    rintro e x2 ⟨rfl, hb2⟩
    have HP := Lib.hid (bthen HQ.out.2 hb2)
    clear hb2
    go_wp2_with fail
    refine (num13_any _ _).mono ?_
    rintro e y1 ⟨rfl, rfl⟩
    go_wp2_with fail
    refine (num13_any _ _).mono ?_
    rintro e y1 ⟨rfl, rfl⟩
    go_wp2_with fail
    refine (CK.out _).mono ?_
    rintro e x3 ⟨rfl, hb3⟩
    have HF := Lib.hid (bthen HBR.out (bthen HP.out hb3))
    clear hb3
    go_wp2_with fail
    go_ret
    exact ⟨rfl, HF.out⟩
  · clear HE1 HY1 HE2 HY2 HEO HEA
    go_wp2_with (first
      | (refine wpList_load_mid rfl 26 _ rfl w1.heap.size 0 rfl D1 _ HR1r.out.1 Try.underlying26 rfl HI1.out ?_)
      | (refine wpList_load_mid rfl 26 _ rfl w2.heap.size 0 rfl D2 _ HR2r.out.1 Try.underlying26 rfl HI2.out ?_))
    refine (CS1.out _ (Below.refl _ _)).mono ?_
    rintro e x1 ⟨rfl, hb1⟩
    have HQ := Lib.hid (HSS.out _ hb1)
    clear hb1
    have q0 : x1.cell? ⟨w3.heap.size, 0, none⟩ = _ := HQ.out.1.2.2.1 0 _ HK3.out.1
    have q1 : x1.cell? ⟨w3.heap.size, 1, none⟩ = _ := HQ.out.1.2.2.1 1 _ HK3.out.2.1
    have q2 : x1.cell? ⟨w3.heap.size, 2, none⟩ = _ := HQ.out.1.2.2.1 2 _ HK3.out.2.2
    have q3 : x1.cell? ⟨w4.heap.size, 0, none⟩ = _ := HQ.out.1.2.2.2 0 _ HK4.out.1
    have q4 : x1.cell? ⟨w4.heap.size, 1, none⟩ = _ := HQ.out.1.2.2.2 1 _ HK4.out.2.1
    have q5 : x1.cell? ⟨w4.heap.size, 2, none⟩ = _ := HQ.out.1.2.2.2 2 _ HK4.out.2.2
    go_wp2_with fail
    refine (num13_any _ _).mono ?_
    rintro e y1 ⟨rfl, rfl⟩
    go_wp2_with fail
    refine (num13_any _ _).mono ?_
    rintro e y1 ⟨rfl, rfl⟩
    go_wp2_with fail
    clear q0 q1 q2 q3 q4 q5
    refine (CS2.out _ HQ.out.2).mono ?_
    rintro e x2 ⟨rfl, hb2⟩
    have HP := Lib.hid (bthen HQ.out.2 hb2)
    clear hb2
    go_wp2_with fail
    refine (num13_any _ _).mono ?_
    rintro e y1 ⟨rfl, rfl⟩
    go_wp2_with fail
    refine (CK.out _).mono ?_
    rintro e x3 ⟨rfl, hb3⟩
    have HF := Lib.hid (bthen HBR.out (bthen HP.out hb3))
    clear hb3
    go_wp2_with fail
    go_ret
    exact ⟨rfl, HF.out⟩
  · clear HE1 HY1 HE2 HY2 HEO HEA
    go_wp2_with (first
      | (refine wpList_load_mid rfl 26 _ rfl w1.heap.size 0 rfl D1 _ HR1r.out.1 Try.underlying26 rfl HI1.out ?_)
      | (refine wpList_load_mid rfl 26 _ rfl w2.heap.size 0 rfl D2 _ HR2r.out.1 Try.underlying26 rfl HI2.out ?_))
    refine (CS1.out _ (Below.refl _ _)).mono ?_
    rintro e x1 ⟨rfl, hb1⟩
    have HQ := Lib.hid (HSS.out _ hb1)
    clear hb1
    have q0 : x1.cell? ⟨w3.heap.size, 0, none⟩ = _ := HQ.out.1.2.2.1 0 _ HK3.out.1
    have q1 : x1.cell? ⟨w3.heap.size, 1, none⟩ = _ := HQ.out.1.2.2.1 1 _ HK3.out.2.1
    have q2 : x1.cell? ⟨w3.heap.size, 2, none⟩ = _ := HQ.out.1.2.2.1 2 _ HK3.out.2.2
    have q3 : x1.cell? ⟨w4.heap.size, 0, none⟩ = _ := HQ.out.1.2.2.2 0 _ HK4.out.1
    have q4 : x1.cell? ⟨w4.heap.size, 1, none⟩ = _ := HQ.out.1.2.2.2 1 _ HK4.out.2.1
    have q5 : x1.cell? ⟨w4.heap.size, 2, none⟩ = _ := HQ.out.1.2.2.2 2 _ HK4.out.2.2
    go_wp2_with fail
    refine (num13_any _ _).mono ?_
    rintro e y1 ⟨rfl, rfl⟩
    go_wp2_with fail
    refine (num13_any _ _).mono ?_
    rintro e y1 ⟨rfl, rfl⟩
    go_wp2_with fail
    clear q0 q1 q2 q3 q4 q5
    refine (CS2.out _ HQ.out.2).mono ?_
    rintro e x2 ⟨rfl, hb2⟩
    have HP := Lib.hid (bthen HQ.out.2 hb2)
    clear hb2
    go_wp2_with fail
    refine (num13_any _ _).mono ?_
    rintro e y1 ⟨rfl, rfl⟩
    go_wp2_with fail
    refine (num13_any _ _).mono ?_
    rintro e y1 ⟨rfl, rfl⟩
    go_wp2_with fail
    refine (CK.out _).mono ?_
    rintro e x3 ⟨rfl, hb3⟩
    have HF := Lib.hid (bthen HBR.out (bthen HP.out hb3))
    clear hb3
    go_wp2_with fail
    go_ret
    exact ⟨rfl, HF.out⟩
end Go.Proofs.Ytgkelbdgdhkeoaa
