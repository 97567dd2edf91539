/- The law MessageHears, walked. -/
import Derived.Test.YtgkelbdgdhkeoaaSMOfC
import Derived.Test.YtgkelbdgdhkeoaaSMsg38
import Derived.Test.YtgkelbdgdhkeoaaSMsg4
namespace Go.Proofs.Ytgkelbdgdhkeoaa
open Go.RowKit
set_option linter.unusedVariables false
set_option linter.unusedSimpArgs false
open Wire Cmd
set_option maxRecDepth 100000 in
set_option maxHeartbeats 12800000 in
theorem messageHears_walk (bs : List UInt8) (v : Value) (w : World) (hv : Rd w 1 v bs.length (bV bs)) :
  Calls Try.prog 14 #[v] w fun e w' => e = .returned (.bool true) ∧ Below w.heap.size w w' := by
 have HV := Lib.hid hv
 have CK := Lib.hid (fun W => known19_any W)
 have hlv : bs.length ≤ 9223372036854775807 := by obtain ⟨_, _, _, _, h, _⟩ := hv; unfold maxLen at h; exact h
 obtain ⟨ao, cap, rfl⟩ := rd_slice hv
 by_cases hb9 : 9000 < (bs.length : Int)
 ·clear hv
  go_enter Try.func14, Try.ntmps14
  go_wp2_with fail
  refine (CK.out _).mono ?_
  rintro e w2 ⟨rfl, hb2⟩
  have HB2 := Lib.hid hb2
  clear hb2
  go_wp2_with fail
  go_ret
  exact ⟨rfl, HB2.out⟩
 have hb9' : (bs.length : Int) ≤ 9000 := by omega
 have C1 : Hid (Calls Try.prog 74 #[.slice ao bs.length cap] w (MOfP w (ofM bs))) := Lib.hid (ofM_own bs _ w HV.out (by omega))
 have C2 : Hid (∀ W, Below w.heap.size w W → Calls Try.prog 80 #[.slice ao bs.length cap] W (ROMfP w W (ofM bs))) := Lib.hid (fun W hW => rofM_any bs _ w W HV.out hW (by omega))
 have HCA := Lib.hid (ofM_cases bs)
 have HDA := Lib.hid (oM_data bs)
 unfold MOfP at C1
 unfold ROMfP at C2
 generalize oM (ofM bs) = mm at *
 generalize eA (ofM bs) = code at *
 generalize (ofM bs).isSome = y at *
 clear hv hb9
 go_enter Try.func14, Try.ntmps14
 go_wp2_with fail
 refine C1.out.mono ?_
 rintro e w1 ⟨hb1, s1, s2, rfl, ho1, ho2⟩
 obtain ⟨D1, hD1, l1, n1⟩ : ∃ L, msL mm s1 s2 = L ∧ L.length = 290 ∧ ∀ u ∈ L, u.oneCell' = true := ⟨_, rfl, msL_len HDA.out, msL_one (oneOwn ho1) (oneOwn ho2)⟩
 rw [hD1]
 have hst1 := msNew w1 l1 n1
 have HB1 : Hid (Below w.heap.size w (w1.alloc (.cells D1.toArray 81))) := Lib.hid (balloc hb1 _)
 have HO1 := Lib.hid (And.intro ho1 ho2)
 have HD1 := Lib.hid hD1
 have HL1 := Lib.hid l1
 clear hD1 n1 hb1 ho1 ho2 hb9'
 go_upto_region 4 with fail
 clear hst1 l1
 go_wp2_with fail
 refine (C2.out _ HB1.out).mono ?_
 rintro e w2 ⟨hb2, r1, r2, rfl, hr1, hr2⟩
 obtain ⟨D2, hD2, l2, n2⟩ : ∃ L, msL mm r1 r2 = L ∧ L.length = 290 ∧ ∀ u ∈ L, u.oneCell' = true := ⟨_, rfl, msL_len HDA.out, msL_one (rdOne hr1) (rdOne hr2)⟩
 rw [hD2]
 have hst2 := msNew w2 l2 n2
 have HB2 : Hid (Below (w1.alloc (.cells D1.toArray 81)).heap.size (w1.alloc (.cells D1.toArray 81)) (w2.alloc (.cells D2.toArray 81))) := Lib.hid (balloc hb2 _)
 have HR2 := Lib.hid (And.intro hr1 hr2)
 have HD2 := Lib.hid hD2
 have HL2 := Lib.hid l2
 clear hD2 n2 hb2 hr1 hr2
 go_upto_region 5 with fail
 clear hst2 l2
 have HBW : Hid (Below w.heap.size w (w2.alloc (.cells D2.toArray 81))) := Lib.hid (bthen HB1.out HB2.out)
 have HRD1 : Hid (∀ X, Below (w2.alloc (.cells D2.toArray 81)).heap.size (w2.alloc (.cells D2.toArray 81)) X → X.rangeAt w1.heap.size 0 D1) := Lib.hid (fun X hX => box_later (bthen HB2.out hX))
 have HRD2 : Hid (∀ X, Below (w2.alloc (.cells D2.toArray 81)).heap.size (w2.alloc (.cells D2.toArray 81)) X → X.rangeAt w2.heap.size 0 D2) := Lib.hid (fun X hX => box_later hX)
 have HO3 : Hid (∀ X, Below (w2.alloc (.cells D2.toArray 81)).heap.size (w2.alloc (.cells D2.toArray 81)) X → Rd X 1 s1 mm.op.data.length (bV mm.op.data) ∧ Rd X 1 s2 mm.item.op.data.length (bV mm.item.op.data)) := Lib.hid (fun X hX => ⟨((Rd.of_own HO1.out.1).below (balloc (Below.refl _ _) _)).below (bthen HB2.out hX), ((Rd.of_own HO1.out.2).below (balloc (Below.refl _ _) _)).below (bthen HB2.out hX)⟩)
 have HI1 : Hid ((Try.prog.info? 81).map (·.size) = some D1.length) := Lib.hid (infoM HL1.out)
 have HI2 : Hid ((Try.prog.info? 81).map (·.size) = some D2.length) := Lib.hid (infoM HL2.out)
 generalize w2.alloc (.cells D2.toArray 81) = wr at *
 rcases HCA.out with ⟨ho, rfl, rfl, rfl⟩ | ⟨ho, rfl, rfl⟩
 ·have CS : Hid (∀ X, Below wr.heap.size wr X → Calls Try.prog 51 #[.agg D1.toArray, .agg Try.zeroCells81] X fun e w' => e = .returned (.bool true) ∧ Below X.heap.size X w') := Lib.hid (fun X hX => by
   have h := rsameM_any ms0 ms0 s1 s2 (.slice none 0 0) (.slice none 0 0) X z256_len z256_len (HO3.out X hX).1 (HO3.out X hX).2 (Rd.of_own (World.ownsRow_nil X 0 5 1)) (Rd.of_own (World.ownsRow_nil X 0 5 1))
   rw [HD1.out, msEq_yes rfl] at h
   rw [zM_eq]
   exact h)
  clear ho
  go_wp2_with (first
   | (go_at_call 54; refine (num19_any _ _).mono ?_; rintro e w' ⟨rfl, rfl⟩)
   | (refine wpList_load_met (by kernel_rfl) 81 _ rfl w1.heap.size 0 rfl D1 _ (HRD1.out _ (Below.refl _ _)) Try.underlying81 rfl HI1.out ?_))
  refine (CS.out _ (Below.refl _ _)).mono ?_
  rintro e w3 ⟨rfl, hb3⟩
  have HB3 := Lib.hid (bthen HBW.out hb3)
  clear hb3
  go_wp2_with fail
  refine (CK.out _).mono ?_
  rintro e w4 ⟨rfl, hb4⟩
  have HB4 := Lib.hid (bthen HB3.out hb4)
  clear hb4
  go_wp2_with fail
  go_ret
  exact ⟨rfl, HB4.out⟩
 ·have HPK := Lib.hid (packM_ofM ho).1
  have HOK := Lib.hid (ofM_ok ho).1
  have CB : Hid (Calls Try.prog 49 #[.agg D1.toArray] wr (PackP wr (packM mm))) := Lib.hid (by
   have h := bytesM_any mm HOK.out s1 s2 wr (HO3.out wr (Below.refl _ _)).1 (HO3.out wr (Below.refl _ _)).2
   rw [HD1.out] at h
   exact h)
  have CS : Hid (∀ X, Below wr.heap.size wr X → Calls Try.prog 51 #[.agg D1.toArray, .agg D2.toArray] X fun e w' => e = .returned (.bool true) ∧ Below X.heap.size X w') := Lib.hid (fun X hX => by
   have h := rsameM_any mm mm s1 s2 r1 r2 X HDA.out HDA.out (HO3.out X hX).1 (HO3.out X hX).2 (HR2.out.1.below (bthen HBW.out hX)) (HR2.out.2.below (bthen HBW.out hX))
   rw [HD1.out, HD2.out, msEq_yes rfl] at h
   exact h)
  clear ho
  go_wp2_with (refine wpList_load_mid rfl 81 _ rfl w1.heap.size 0 rfl D1 _ (HRD1.out _ (Below.refl _ _)) Try.underlying81 rfl HI1.out ?_)
  refine CB.out.mono ?_
  intro e w3 hP
  obtain ⟨a3, c3, rfl, hb3, ho3⟩ := hP.yes HPK.out
  have HB3 := Lib.hid hb3
  have HO4 := Lib.hid ho3
  clear hP hb3 ho3
  go_wp2_with (first
   | (go_at_call 54; refine (num19_any _ _).mono ?_; rintro e w' ⟨rfl, rfl⟩)
   | (refine wpList_load_met (by kernel_rfl) 81 _ rfl w1.heap.size 0 rfl D1 _ (HRD1.out _ HB3.out) Try.underlying81 rfl HI1.out ?_)
   | (refine wpList_load_met (by kernel_rfl) 81 _ rfl w2.heap.size 0 rfl D2 _ (HRD2.out _ HB3.out) Try.underlying81 rfl HI2.out ?_))
  refine (CS.out _ HB3.out).mono ?_
  rintro e w4 ⟨rfl, hb4⟩
  have HB4 := Lib.hid (bthen HBW.out (bthen HB3.out hb4))
  have ht1 := run_text w4 _ _ bs ((Rd.of_own HO4.out).below hb4)
  have ht2 := run_text w4 _ _ bs (HV.out.below HB4.out)
  clear hb4
  go_wp2_with fail
  refine (CK.out _).mono ?_
  rintro e w5 ⟨rfl, hb5⟩
  have HB5 := Lib.hid (bthen HB4.out hb5)
  clear hb5 ht1 ht2
  go_wp2_with fail
  go_ret
  exact ⟨rfl, HB5.out⟩
end Go.Proofs.Ytgkelbdgdhkeoaa
