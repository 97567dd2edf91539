/- StoreNil, walked. -/
import Derived.Test.YtcdobdjemlaaaaaGreatSnl0
namespace Go.Proofs.YtcdobdjemlaaaaaGreat
open Go.RowKit Wire
set_option linter.unusedVariables false
set_option linter.unusedSimpArgs false

/-- The world gets a name; what is known of it is kept. -/
theorem wp_at {p : Program} {c : Code} {Q : Exit → Act → World → Prop} {a : Act} {W : World} (R : World → Prop) (h : R W) (k : ∀ W', R W' → Code.wp p c Q a W') : Code.wp p c Q a W := k W h
theorem neqSup (W : World) : (binOp .neq 29 (.agg #[.int .u64 0, .int .i64 0, .int .i64 0, .int .u32 0, .int .u32 0, .int .u32 0, .int .u32 0, .int .u32 0, .int .u32 0, .int .u32 0, .int .u32 0, .int .u32 0, .int .i64 0, .int .u64 0, .int .u64 0, .int .u64 0, .int .u64 0, .int .u64 0, .bool false]) (.agg #[.int .u64 0, .int .i64 0, .int .i64 0, .int .u32 0, .int .u32 0, .int .u32 0, .int .u32 0, .int .u32 0, .int .u32 0, .int .u32 0, .int .u32 0, .int .u32 0, .int .i64 0, .int .u64 0, .int .u64 0, .int .u64 0, .int .u64 0, .int .u64 0, .bool false])).run Tryz.prog W = .ok (.bool false) W := by kernel_rfl
theorem bNd (k : Int) (W : World) : (Instr.build 40 #[(0, .int .i64 k)]).run Tryz.prog W = .ok (.agg #[.int .i64 k, .int .u64 0, .slice none 0 0, .slice none 0 0]) W := run_build W 40 _ _ (by kernel_rfl)
theorem bNd0 (W : World) : (Instr.build 40 #[]).run Tryz.prog W = .ok (.agg #[.int .i64 0, .int .u64 0, .slice none 0 0, .slice none 0 0]) W := run_build W 40 _ _ (by kernel_rfl)
theorem bSu0 (W : World) : (Instr.build 29 #[]).run Tryz.prog W = .ok (.agg #[.int .u64 0, .int .i64 0, .int .i64 0, .int .u32 0, .int .u32 0, .int .u32 0, .int .u32 0, .int .u32 0, .int .u32 0, .int .u32 0, .int .u32 0, .int .u32 0, .int .i64 0, .int .u64 0, .int .u64 0, .int .u64 0, .int .u64 0, .int .u64 0, .bool false]) W := run_build W 29 _ _ suZ_built
theorem bBk0 (W : World) : (Instr.build 50 #[]).run Tryz.prog W = .ok (.agg (bV (zeros 256)).toArray) W := run_build W 50 _ _ blkZ_built
set_option maxRecDepth 100000 in
set_option maxHeartbeats 12800000 in
theorem storeNil_at (w : World) : Calls Tryz.prog 3 #[] w fun e w' => e = .returned (.bool true) ∧ Below w.heap.size w w' := by
  obtain ⟨w1, hw1⟩ : ∃ W, w.alloc (.cells #[.pointer none, .int .u64 0, .int .i64 0, .int .i64 0, .int .u32 0, .int .u32 0, .int .u32 0, .int .u32 0, .int .u32 0, .int .u32 0, .int .u32 0, .int .u32 0, .int .u32 0, .int .i64 0, .int .u64 0, .int .u64 0, .int .u64 0, .int .u64 0, .int .u64 0, .bool false, .pointer none, .pointer none, .map none, .map none, .bool false] 34) = W := ⟨_, rfl⟩
  have hb1 : Below w.heap.size w w1 := by rw [← hw1]; exact balloc (Below.refl _ _) _
  have hx1 : w1.heap[w.heap.size]? = some (.cells stZ 34 (0, 0)) := by rw [← hw1]; exact heap_alloc_new _ _
  obtain ⟨z, hz⟩ : ∃ z, w.heap.size = z := ⟨_, rfl⟩
  rw [hz] at hx1
  obtain ⟨w2, hw2⟩ : ∃ W, w1.alloc (.cells #[.pointer none, .pointer (some ⟨z, 0, none⟩)] 35) = W := ⟨_, rfl⟩
  have hb2 : Below w1.heap.size w1 w2 := by rw [← hw2]; exact balloc (Below.refl _ _) _
  have hx2 : w2.heap[w1.heap.size]? = some (.cells #[.pointer none, .pointer (some ⟨z, 0, none⟩)] 35 (0, 0)) := by rw [← hw2]; exact heap_alloc_new _ _
  obtain ⟨y, hy⟩ : ∃ y, w1.heap.size = y := ⟨_, rfl⟩
  rw [hy] at hx2
  have HB0 : Hid (Below w.heap.size w w2) := Lib.hid (bthn hb1 hb2)
  have HX2 := Lib.hid hx2
  have HZ2 : Hid (w2.heap[z]? = some (.cells stZ 34 (0, 0))) := Lib.hid ((hb2.block _ (Array.getElem?_eq_some_iff.1 hx1).1).trans hx1)
  have HZW := Lib.hid hz
  clear hb1 hx1 hb2 hx2
  go_enter Tryz.func3, Tryz.ntmps3
  go_wp2_with fail
  (try rw [hw1])
  (try rw [hz])
  (try rw [hw2])
  (try rw [hy])
  clear hw1 hw2 hz hy
  go_loopw [3] (fun v wr => ∃ i : Nat, i ≤ 2 ∧ v = .int .i64 (i : Int) ∧ Below w2.heap.size w2 wr) (fun v _ => 2 - (Go.RowKit.intOf v).toNat)
  case atStart => exact ⟨0, by omega, rfl, Below.refl _ _⟩
  case round =>
    obtain ⟨i, hi, rfl, hbr⟩ := hrel
    have HBR := Lib.hid hbr
    clear hbr
    by_cases hlt : i < 2
    · obtain ⟨v, hv, hsv⟩ : ∃ v, wr.cell? ⟨y, i, none⟩ = some v ∧ StV wr v := by
        have h2 : wr.heap[y]? = some (.cells #[.pointer none, .pointer (some ⟨z, 0, none⟩)] 35 (0, 0)) := (HBR.out.block _ (Array.getElem?_eq_some_iff.1 HX2.out).1).trans HX2.out
        have h3 : wr.heap[z]? = some (.cells stZ 34 (0, 0)) := (HBR.out.block _ (Array.getElem?_eq_some_iff.1 HZ2.out).1).trans HZ2.out
        rcases (show i = 0 ∨ i = 1 by omega) with rfl | rfl
        · exact ⟨_, cellOf h2 0 rfl, .inl rfl⟩
        · exact ⟨_, cellOf h2 1 rfl, .inr ⟨z, rfl, h3⟩⟩
      obtain ⟨a, rfl⟩ := hsv.ptr
      have HV := Lib.hid hsv
      have HB : Hid (Below wr.heap.size wr wr) := Lib.hid (Below.refl _ _)
      have hlt' : (i : Int) < 2 := by omega
      clear hsv
      have C := snode_no wr _ HV.out 1
      unfold ndZ at C
      go_wp2_with fail
      refine C.mono ?_
      rintro e x0 ⟨rfl, hb⟩
      dsimp only
      have HB := Lib.hid (bthn HB.out hb)
      clear C hv hb
      go_upto_region 8 with fail
      refine wp_at (fun W => Below wr.heap.size wr W) (by repeat (first | exact HB.out | apply balloc | (refine Below.setCell ?_ (by have := HB.out.size; simpa using this) _))) (fun x1 hb => ?_)
      have HB := Lib.hid hb
      clear hb
      have hbk := bNd 2
      have C := snew_no x1 _ (HV.out.below HB.out) 2
      go_wp2_with fail
      refine C.mono ?_
      rintro e x2 ⟨rfl, hb⟩
      dsimp only
      have HB := Lib.hid (bthn HB.out hb)
      clear C hb hbk
      have C := sshadow_no x2 _ (HV.out.below HB.out) 1
      unfold ndZ at C
      go_wp2_with fail
      refine C.mono ?_
      rintro e x3 ⟨rfl, hb⟩
      dsimp only
      have HB := Lib.hid (bthn HB.out hb)
      clear C hb
      go_upto_region 10 with fail
      refine wp_at (fun W => Below wr.heap.size wr W) (by repeat (first | exact HB.out | apply balloc | (refine Below.setCell ?_ (by have := HB.out.size; simpa using this) _))) (fun x4 hb => ?_)
      have HB := Lib.hid hb
      clear hb
      have C := snewd_no x4 _ (HV.out.below HB.out)
      have hbk := bBk0
      go_wp2_with fail
      refine C.mono ?_
      rintro e x5 ⟨rfl, hb⟩
      dsimp only
      have HB := Lib.hid (bthn HB.out hb)
      clear C hb hbk
      obtain ⟨R, hR⟩ : ∃ R, zeros 256 = R := ⟨_, rfl⟩
      have HRL : Hid (R.length = 256) := Lib.hid (by rw [← hR]; exact zeros_len 256)
      have HRE := Lib.hid hR
      (try rw [hR])
      clear hR
      have C := sdata_no x5 _ (HV.out.below HB.out) 0
      rw [HRE.out, show bA R = .agg (bV R).toArray from rfl] at C
      go_wp2_with fail
      refine C.mono ?_
      rintro e x6 ⟨rfl, hb⟩
      dsimp only
      have HB := Lib.hid (bthn HB.out hb)
      have hrb : (bV R).toArray.size = 256 := by rw [List.size_toArray, bV_len, HRL.out]
      have hst := run_storeNew (P := Tryz.prog) x6 50 Tryz.zeroCells50 (bV R).toArray (by rw [hrb]; kernel_rfl) (fun u hu => bV_one R u (by simpa using hu))
      clear C hb
      go_upto_region 12 with fail
      clear hst hrb
      refine wp_at (fun W => Below wr.heap.size wr W) (by repeat (first | exact HB.out | apply balloc | (refine Below.setCell ?_ (by have := HB.out.size; simpa using this) _))) (fun x7 hb => ?_)
      have HB := Lib.hid hb
      clear hb
      have C := sabort_no x7 _ (HV.out.below HB.out)
      go_wp2_with fail
      refine C.mono ?_
      rintro e y7 ⟨rfl, rfl⟩
      dsimp only
      clear C
      have C := sroom_no x7 _ (HV.out.below HB.out)
      go_wp2_with fail
      refine C.mono ?_
      rintro e x8 ⟨rfl, hb⟩
      dsimp only
      have HB := Lib.hid (bthn HB.out hb)
      clear C hb
      have hbk := bNd0
      have C := sput_no x8 _ (HV.out.below HB.out) 1
      go_wp2_with fail
      refine C.mono ?_
      rintro e x9 ⟨rfl, hb⟩
      have HB := Lib.hid (bthn HB.out hb)
      clear C hb hbk
      have C := shold_no x9 _ (HV.out.below HB.out) 1
      go_wp2_with fail
      refine C.mono ?_
      rintro e x10 ⟨rfl, hb⟩
      have HB := Lib.hid (bthn HB.out hb)
      clear C hb
      have C := sdrop_no x10 _ (HV.out.below HB.out) 1
      go_wp2_with fail
      refine C.mono ?_
      rintro e x11 ⟨rfl, hb⟩
      have HB := Lib.hid (bthn HB.out hb)
      clear C hb
      have C := sfree_no x11 _ (HV.out.below HB.out) 1
      go_wp2_with fail
      refine C.mono ?_
      rintro e x12 ⟨rfl, hb⟩
      have HB := Lib.hid (bthn HB.out hb)
      clear C hb
      have C := sdropd_no x12 _ (HV.out.below HB.out) 0
      have hbk := bSu0
      go_wp2_with fail
      refine C.mono ?_
      rintro e x13 ⟨rfl, hb⟩
      have HB := Lib.hid (bthn HB.out hb)
      clear C hb
      have C := scommit_no x13 _ (HV.out.below HB.out)
      unfold suZ at C
      go_wp2_with fail
      refine C.mono ?_
      rintro e x14 ⟨rfl, hb⟩
      have HB := Lib.hid (bthn HB.out hb)
      clear C hb
      have C := sgrow_no x14 _ (HV.out.below HB.out) 3
      go_wp2_with fail
      refine C.mono ?_
      rintro e x15 ⟨rfl, hb⟩
      have HB := Lib.hid (bthn HB.out hb)
      clear C hb
      have C := ssuper_no x15 _ (HV.out.below HB.out)
      unfold suZ at C
      go_wp2_with fail
      refine C.mono ?_
      rintro e x16 ⟨rfl, hb⟩
      have HB := Lib.hid (bthn HB.out hb)
      have hnq := neqSup
      clear C hb
      have C := scount_no x16 _ (HV.out.below HB.out) 1 (by omega)
      go_wp2_with fail
      refine C.mono ?_
      rintro e y ⟨rfl, rfl⟩
      clear C hbk hnq
      have C := sdcount_no x16 _ (HV.out.below HB.out) 0 (by omega)
      go_wp2_with fail
      refine C.mono ?_
      rintro e y ⟨rfl, rfl⟩
      clear C
      have C := sfresh_no x16 _ (HV.out.below HB.out)
      go_wp2_with fail
      refine C.mono ?_
      rintro e y ⟨rfl, rfl⟩
      clear C
      have C := sbroken_no x16 _ (HV.out.below HB.out)
      go_wp2_with fail
      refine C.mono ?_
      rintro e y ⟨rfl, rfl⟩
      clear C
      go_wp2_with fail
      go_roundw
      case rel => exact ⟨i + 1, by omega, by go_num, bthn HBR.out HB.out⟩
      case measure => simp [Go.RowKit.intOf]; omega
    · obtain rfl : i = 2 := by omega
      have C := sopen_nil wr
      go_wp2_with fail
      refine C.mono ?_
      rintro e x0 ⟨rfl, rfl⟩
      dsimp only
      clear C
      have C := sfmt_nil wr 16 8 (by omega) (by omega)
      go_wp2_with fail
      refine C.mono ?_
      rintro e x1 ⟨rfl, hb⟩
      have HB := Lib.hid hb
      clear C hb
      have C := known08_at x1
      go_wp2_with fail
      refine C.mono ?_
      rintro e x2 ⟨rfl, hb⟩
      have HB := Lib.hid (bthn HB.out hb)
      clear C hb
      go_wp2_with fail
      go_ret
      exact ⟨rfl, bthn HB0.out (bthn HBR.out HB.out)⟩
end Go.Proofs.YtcdobdjemlaaaaaGreat
