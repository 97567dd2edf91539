/- DeviceNil, walked. -/
import Derived.Test.YthkmihedkddnmaaGreatDev26
namespace Go.Proofs.YthkmihedkddnmaaGreat
open Go.RowKit Go.Maps Wire Cmd
set_option linter.unusedVariables false
set_option linter.unusedSimpArgs false

set_option maxRecDepth 100000 in
set_option maxHeartbeats 1600000 in
theorem allnil_stops (n : Nat) (Bx : Nat) (w : World) (hb : w.heap[Bx]? = some (.cells #[.pointer none] 25 (0, 0))) (Fp : World → Nat → Prop) :
    SeqStopsK Fence.wide n Tryz.prog 55 #[.pointer (some ⟨Bx, 0, none⟩)] (fun _ : Unit => #[undef, undef]) (KpF Fp) (fun ys => ys = []) (fun pre => pre <+: []) 0 w := by
  intro l J Jx W hW hJ hJx hY h0
  have HJ := Lib.hid h0
  have hx := (hW.block Bx (Array.getElem?_eq_some_iff.1 hb).1).trans hb
  have c0 := cellOf hx 0 (v := .pointer none) rfl
  have CV := dvolumes_no W (.pointer none) (.inl ⟨rfl, rfl⟩)
  clear h0 hY hb hx
  refine callsIn_of_wp Tryz.func55 rfl trivial ?_ rfl
  refine wpIn_wide.2 ?_
  simp only [Tryz.ntmps55, List.size_toArray, List.length_cons, List.length_nil, Nat.reduceAdd, Nat.reduceSub, Array.replicate_succ, Array.replicate_zero, List.push_toArray, List.append_toArray, List.nil_append, List.cons_append]
  go_wp2_with fail
  refine CV.mono ?_
  rintro e w1 ⟨rfl, rfl⟩
  go_wp2_with fail
  go_loopw [10] (fun i wr => i = .int .i64 0 ∧ W = wr) (fun _ _ => 0)
  case atStart => exact ⟨rfl, rfl⟩
  case round =>
    obtain ⟨rfl, rfl⟩ := hrel
    go_wp2_with fail
    go_end0
    exact ⟨⟨_, rfl⟩, .inl (by simpa using HJ.out)⟩
def o0 : Op0 := ⟨0, 0, 0, 0, 0, 0, []⟩
def oF : Op0 := ⟨8, 0, 0, 0, 0, 0, []⟩
theorem oF_Ok : oF.Ok := by constructor <;> decide
theorem oF_step : (stepD [] oF 1024).1.code = 0 := by kernel_rfl
theorem neqFn (k : Nat) (W : World) : (binOp .neq 67 (.func (.func 55) #[] #[.pointer (some ⟨k, 0, none⟩)]) .nilFunc).run Tryz.prog W = .ok (.bool true) W := by kernel_rfl
theorem eqlFn (k : Nat) (W : World) : (binOp .eql 67 (.func (.func 55) #[] #[.pointer (some ⟨k, 0, none⟩)]) .nilFunc).run Tryz.prog W = .ok (.bool false) W := by kernel_rfl
theorem fldAns (a b : Int) (so : Option Addr) (n c : Nat) (W : World) : (Instr.field 35 (.agg #[.int .i64 a, .int .i64 b, .slice so n c]) 0).run Tryz.prog W = .ok (.int .i64 a) W := by kernel_rfl
set_option maxRecDepth 100000 in
set_option maxHeartbeats 6400000 in
theorem devNil_in (w : World) : CallsIn Fence.wide 5 Tryz.prog 5 #[] w fun e w' => e = .returned (.bool true) ∧ Below w.heap.size w w' := by
  have hro : Fence.wide.round = none := rfl
  refine callsIn_of_wp_marks Tryz.func5 rfl trivial ?_ hro
  refine wpIn_wide.2 ?_
  simp only [Tryz.ntmps5, List.size_toArray, List.length_cons, List.length_nil, Nat.reduceAdd, Nat.reduceSub, Array.replicate_succ, Array.replicate_zero, List.push_toArray, List.append_toArray, List.nil_append, List.cons_append]
  obtain ⟨w1, hw1⟩ : ∃ y, w.alloc (.cells #[.map none] 63) = y := ⟨_, rfl⟩
  have hb1 : Below w.heap.size w w1 := by rw [← hw1]; exact balloc (Below.refl _ _) _
  have hx1 : w1.heap[w.heap.size]? = some (.cells #[.map none] 63 (0, 0)) := by rw [← hw1]; exact heap_alloc_new w _
  obtain ⟨z, hz⟩ : ∃ z, w.heap.size = z := ⟨_, rfl⟩
  rw [hz] at hx1
  have HZW := Lib.hid hz
  have HV : Hid (∀ X, Below w1.heap.size w1 X → DevV X (.pointer (some ⟨z, 0, none⟩)) false) := Lib.hid (fun X hX => (show DevV w1 (.pointer (some ⟨z, 0, none⟩)) false from .inr (.inl ⟨z, rfl, hx1, rfl⟩)).below hX)
  have HN : Hid (∀ X, DevV X (.pointer none) false) := Lib.hid (fun X => .inl ⟨rfl, rfl⟩)
  have HB1 := Lib.hid hb1
  clear hb1 hx1
  have C1 := ddo_no w1 (.pointer none) o0 (.slice none 0 0) (HN.out _)
  go_wp2_with fail
  refine C1.mono ?_
  rintro e w2 ⟨rfl, hb2⟩
  unfold ansE
  dsimp only
  clear C1 hw1
  go_wp2_with fail
  obtain ⟨w3, hw3⟩ : ∃ y, w2.alloc (.cells #[.int .i64 1, .int .i64 0, .slice none 0 0] 35) = y := ⟨_, rfl⟩
  have hb3 : Below w2.heap.size w2 w3 := by rw [← hw3]; exact balloc (Below.refl _ _) _
  have HX3 : Hid (w3.heap[w2.heap.size]? = some (.cells #[.int .i64 1, .int .i64 0, .slice none 0 0] 35 (0, 0))) := Lib.hid (by rw [← hw3]; exact heap_alloc_new w2 _)
  have HB3 := Lib.hid (bthen hb2 hb3)
  rw [hw3]
  clear hb2 hb3 hw3
  have C2 := dpart_no w3 (.pointer (some ⟨z, 0, none⟩)) oF (.slice none 0 0) 1 (HV.out _ HB3.out)
  refine C2.mono ?_
  rintro e w4 ⟨rfl, hb4⟩
  unfold ansE
  dsimp only
  clear C2
  go_wp2_with fail
  obtain ⟨w5, hw5⟩ : ∃ y, w4.alloc (.cells #[.int .i64 1, .int .i64 0, .slice none 0 0] 35) = y := ⟨_, rfl⟩
  have hb5 : Below w4.heap.size w4 w5 := by rw [← hw5]; exact balloc (Below.refl _ _) _
  have HX5 : Hid (w5.heap[w4.heap.size]? = some (.cells #[.int .i64 1, .int .i64 0, .slice none 0 0] 35 (0, 0))) := Lib.hid (by rw [← hw5]; exact heap_alloc_new w4 _)
  have HB35 := Lib.hid (bthen hb4 hb5)
  rw [hw5]
  clear hb4 hb5 hw5
  have HB5 := Lib.hid (bthen HB3.out HB35.out)
  have C3 := dsize_no w5 (.pointer none) 1 (HN.out _)
  have C4 := dblock_no w5 (.pointer (some ⟨z, 0, none⟩)) 1 1 (HV.out _ HB5.out)
  refine C3.mono ?_
  rintro e w5' ⟨rfl, rfl⟩
  go_wp2_with fail
  refine C4.mono ?_
  rintro e w6 ⟨rfl, hb6⟩
  unfold bA
  have hcl : zeroB.length = 256 := by
    unfold zeroB
    rw [List.length_replicate]
  obtain ⟨c, hc⟩ : ∃ c, zeroB = c := ⟨_, rfl⟩
  rw [hc] at hcl ⊢
  have hst : (storeCells ⟨w6.heap.size, 0, none⟩ (bV c)).run Tryz.prog (w6.alloc (.cells Tryz.zeroCells50 50)) = .ok () (w6.alloc (.cells (bV c).toArray 50)) := by
    have := run_storeNew (P := Tryz.prog) w6 50 Tryz.zeroCells50 (bV c).toArray (by rw [zszM]; simp [bV_len, hcl]) (by simpa using bV_one c)
    simpa using this
  have hcs : (bV c).toArray.size = 256 := by simp [bV_len, hcl]
  have HB6 := Lib.hid (bthen HB5.out hb6)
  have HB56 := Lib.hid hb6
  dsimp only
  clear C3 C4 hcl hc hb6
  go_wp2_with fail
  clear hst
  obtain ⟨w7, hw7⟩ : ∃ y, w6.alloc (.cells (bV c).toArray 50) = y := ⟨_, rfl⟩
  have hb7 : Below w6.heap.size w6 w7 := by rw [← hw7]; exact balloc (Below.refl _ _) _
  have hs7 : w7.heap.size = w6.heap.size + 1 := by rw [← hw7]; simp
  rw [hw7]
  clear hw7
  obtain ⟨w8, hw8⟩ : ∃ y, w7.alloc (.cells #[.int .i64 0] 3) = y := ⟨_, rfl⟩
  have hb8 : Below w7.heap.size w7 w8 := by rw [← hw8]; exact balloc (Below.refl _ _) _
  have hx8 : w8.heap[w7.heap.size]? = some (.cells #[.int .i64 0] 3 (0, 0)) := by rw [← hw8]; exact heap_alloc_new w7 _
  rw [hs7] at hx8
  have HX8 := Lib.hid hx8
  rw [hw8]
  have HB8 := Lib.hid (bthen HB6.out (bthen hb7 hb8))
  have HB68 := Lib.hid (bthen hb7 hb8)
  clear hw8 hb7 hb8 hx8 hs7 hcs
  have C5 := dall_no w8 (.pointer (some ⟨z, 0, none⟩)) (HV.out _ HB8.out)
  refine C5.mono ?_
  rintro e w9 ⟨rfl, hw9⟩
  have HB9 : Hid (Below w8.heap.size w8 w9) := Lib.hid (by rw [← hw9]; exact balloc (Below.refl _ _) _)
  have HX9 : Hid (w9.heap[w8.heap.size]? = some (.cells #[.pointer none] 25 (0, 0))) := Lib.hid (by rw [← hw9]; exact heap_alloc_new w8 _)
  dsimp only
  clear C5 hw9
  have hnf := neqFn w8.heap.size
  have hef := eqlFn w8.heap.size
  go_wp2_with fail
  clear hnf hef
  refine wpIn_wide.1 (wpIn_rangeFunc_ownH (n := 5) hro (by omega) (gf := 55) (lb := #[.pointer (some ⟨w8.heap.size, 0, none⟩)]) rfl trivial (enters_of Tryz.func55 (by kernel_rfl) rfl)
    (allnil_stops (5 - 1) w8.heap.size w9 HX9.out (fun _ _ => False)) KpF.trans (KpF.put (fun _ _ _ _ _ _ _ _ h => h)) (Below.refl _ _) (fun _ => rfl)
    (fun pre W => Below w9.heap.size w9 W) (fun _ _ _ => False) (ownFrom_below (Nat.le_refl _) (Nat.le_refl _)) (fun _ _ _ _ _ hs _ _ => hs) (Below.refl _ _) (fun _ _ _ => True) (fun _ _ _ _ _ _ _ _ _ => trivial) ?assign ?body ?done ?stop)
  case assign =>
    intro l pre x W K hI hK
    refine wpIn_skip ?_
    exact hK _ _ (KeepsFrom.refl _ _) (KpF.refl _ _) hI trivial
  case body =>
    intro l pre x a' W hl hr hI hA hlt
    exact absurd hlt (Nat.not_lt_zero _)
  case stop =>
    intro D c pre W _ _ h
    exact h.elim
  case done =>
    intro D xs W hD _ hI hK
    have HI := Lib.hid hI
    have HDK := Lib.hid hK
    have HDD := Lib.hid hD
    clear hI hK hD
    have CN := dnew_any W.heap.size W (Nat.le_refl _)
    go_wp2_with fail
    refine CN.mono ?_
    rintro e w10 ⟨B, Ba, rfl, hd10, hb10, _, _⟩
    dsimp only
    have HD10 := Lib.hid hd10
    have HB10 := Lib.hid hb10
    have HB9' := Lib.hid (bthen HB9.out (bthen HI.out hb10))
    have HZ10 : Hid (DevV w10 (.pointer (some ⟨z, 0, none⟩)) false) := Lib.hid (HV.out _ (bthen HB8.out HB9'.out))
    have HX3' := Lib.hid (((bthen (bthen HB35.out HB56.out) (bthen HB68.out HB9'.out)).block _ (Array.getElem?_eq_some_iff.1 HX3.out).1).trans HX3.out)
    have HX5' := Lib.hid (((bthen HB56.out (bthen HB68.out HB9'.out)).block _ (Array.getElem?_eq_some_iff.1 HX5.out).1).trans HX5.out)
    have HX8' := Lib.hid ((HB9'.out.block _ (Array.getElem?_eq_some_iff.1 HX8.out).1).trans HX8.out)
    have a0 := cellOf HX3'.out 0 (v := .int .i64 1) rfl
    have b0 := cellOf HX5'.out 0 (v := .int .i64 1) rfl
    have n0 := cellOf HX8'.out 0 (v := .int .i64 0) rfl
    clear CN hd10 hb10
    have N1 := num14_any 1
    have CVo := dvolumes_no w10 (.pointer none) (HN.out _)
    have CMa := dmapped_no w10 (.pointer (some ⟨z, 0, none⟩)) 1 HZ10.out
    have CCo := dcopy_no w10 (.pointer none) (HN.out _)
    have CS1 := dsame_no w10 (.pointer none) (.pointer (some ⟨z, 0, none⟩)) false false (HN.out _) HZ10.out (.inl rfl)
    have CS2 := dsame_no w10 (.pointer none) (.pointer (some ⟨B, 0, none⟩)) false true (HN.out _) HD10.out.dv (.inl rfl)
    have CS3 := dsame_no w10 (.pointer (some ⟨B, 0, none⟩)) (.pointer (some ⟨z, 0, none⟩)) true false HD10.out.dv HZ10.out (.inr rfl)
    have CBy := dbytes_no w10 (.pointer none) (HN.out _)
    go_wp2_with fail
    refine (N1 _).mono ?_
    rintro e w11 ⟨rfl, rfl⟩
    go_wp2_with fail
    refine (N1 _).mono ?_
    rintro e w11 ⟨rfl, rfl⟩
    go_wp2_with fail
    refine CVo.mono ?_
    rintro e w11 ⟨rfl, rfl⟩
    go_wp2_with fail
    refine CMa.mono ?_
    rintro e w11 ⟨rfl, rfl⟩
    go_wp2_with fail
    refine CCo.mono ?_
    rintro e w11 ⟨rfl, rfl⟩
    go_wp2_with fail
    refine CS1.mono ?_
    rintro e w11 ⟨rfl, rfl⟩
    go_wp2_with fail
    refine CS2.mono ?_
    rintro e w11 ⟨rfl, rfl⟩
    go_wp2_with fail
    refine CS3.mono ?_
    rintro e w11 ⟨rfl, rfl⟩
    go_wp2_with fail
    refine CBy.mono ?_
    rintro e w11 ⟨rfl, rfl⟩
    clear CVo CMa CCo CS1 CS2 CS3 CBy a0 b0 n0
    have CPu := dput_no w10 (.pointer (some ⟨z, 0, none⟩)) 0 0 zeroB (by unfold zeroB; rw [List.length_replicate]) HZ10.out
    rw [show bA zeroB = .agg Tryz.zeroCells50 from by unfold bA; rw [zcells]] at CPu
    go_wp2_with fail
    refine CPu.mono ?_
    rintro e w11 ⟨rfl, hb11⟩
    dsimp only
    have HB11 := Lib.hid hb11
    clear CPu hb11
    go_wp2_with fail
    refine (N1 _).mono ?_
    rintro e w12 ⟨rfl, rfl⟩
    have CF := ddo_at W.heap.size w11 B Ba [] (HD10.out.below HB11.out) oF oF_Ok none 0 (rd_nil _)
    have hfd := fldAns
    go_wp2_with fail
    refine CF.mono ?_
    intro e w13 hP
    obtain ⟨sa, cp, l2, rfl, hd13, hs13, _, hc13⟩ := hP.chg
    have hcode : (stepD (strip []) oF 1024).1.code = 0 := oF_step
    rw [hcode]
    obtain ⟨nd, hnd⟩ : ∃ n, (stepD (strip []) oF 1024).1.data.length = n := ⟨_, rfl⟩
    obtain ⟨dn, hdn⟩ : ∃ n, (stepD (strip []) oF 1024).1.done = n := ⟨_, rfl⟩
    rw [hnd, hdn]
    dsimp only
    have HB13 := Lib.hid ((HD10.out.below HB11.out).own (bthen HB10.out HB11.out) hc13)
    clear CF hP hd13 hs13 hc13 hcode hnd hdn
    have CK := known14_any w13
    go_wp2_with fail
    refine (num14_any 0 _).mono ?_
    rintro e w14 ⟨rfl, rfl⟩
    clear hfd
    go_wp2_with fail
    refine CK.mono ?_
    rintro e w14 ⟨rfl, hb14⟩
    dsimp only
    have HB14 := Lib.hid (bthen HB13.out hb14)
    clear CK hb14
    go_wp2_with fail
    have hK4 : w14.heap[D]? = some (.deferred (some [])) := (HB14.out.block D (Array.getElem?_eq_some_iff.1 HDK.out).1).trans HDK.out
    refine ⟨by simp, .inl ⟨_, _, rfl, run_takeDeferred hK4, ?_⟩⟩
    refine ⟨_, results_tmp rfl _ _ _, rfl, ?_⟩
    have hBW : Below w.heap.size w w14 := bthen HB1.out (bthen HB8.out (bthen HB9.out (bthen HI.out HB14.out)))
    exact hBW.trans (belowK_b (w := w) (Nat.le_refl _) w14 D _ _ (by
      have h1 := HDD.out
      have h2 := (bthen HB1.out (bthen HB8.out HB9.out)).size
      omega) hK4 rfl rfl)
theorem devNil_walk (w : World) : Calls Tryz.prog 5 #[] w fun e w' => e = .returned (.bool true) ∧ Below w.heap.size w w' := callsIn_wide.1 (devNil_in w)
end Go.Proofs.YthkmihedkddnmaaGreat
