/- super: wipe, where nothing is torn, walked. -/
import Derived.Test.YtcdobdjemlaaaaaGreatSb1
namespace Go.Proofs.YtcdobdjemlaaaaaGreat
open Go.RowKit Wire
set_option linter.unusedVariables false
set_option linter.unusedSimpArgs false

/-- What Of answers of a block that is not torn. -/
def OfC (b : List UInt8) (SL : List Value) (er : Int) : Prop :=
  SL.length = 19 ∧ (∀ u ∈ SL, u.oneCell' = true) ∧ (er = 0 ∨ (er = 4 ∧ b = zeros 256)) ∧ ∀ X, Calls Tryz.prog 121 #[bA b] X fun e w' => e = .returned (.tuple #[.agg SL.toArray, .int .i64 er]) ∧ Below X.heap.size X w'
set_option maxRecDepth 100000 in
set_option maxHeartbeats 12800000 in
theorem swipe_at (n0 : Nat) (w : World) (B : Nat) (iv jv : Value) (d : Dk) (h : DkAt n0 w B iv jv d) (k : Nat) (hk : k * 4 + 4 ≤ d.img.length) (hn : d.img.length ≤ 1000000) (SL : List Value) (er : Int) (ho : OfC (rdB d.img k) SL er) :
    Calls Tryz.prog 129 #[.pointer (some ⟨B, 0, none⟩), .int .i64 (k : Int)] w fun e w' => e = .returned (.int .i64 0) ∧ Below w.heap.size w w' := by
  have CR := sread_at n0 w B iv jv d h k hk hn
  have hbl := rdB_len h.secs hk
  obtain ⟨b, hb⟩ : ∃ b, rdB d.img k = b := ⟨_, rfl⟩
  rw [hb] at CR ho hbl
  obtain ⟨hSn, hS1, her, hco⟩ := ho
  have HBL := Lib.hid hbl
  have HCO := Lib.hid hco
  have HSS := Lib.hid (And.intro hSn hS1)
  have HER := Lib.hid her
  have hrb : (bV b).toArray.size = 256 := by rw [List.size_toArray, bV_len, hbl]
  clear h hk hn hb hbl hSn hS1 her hco
  go_enter Tryz.func129, Tryz.ntmps129
  go_wp2_with fail
  refine CR.mono ?_
  rintro e x1 ⟨rfl, hb1⟩
  have HB1 := Lib.hid hb1
  have hst := run_storeNew (P := Tryz.prog) x1 50 Tryz.zeroCells50 (bV b).toArray (by rw [hrb]; kernel_rfl) (fun u hu => bV_one b u (by simpa using hu))
  obtain ⟨x2, hx2⟩ : ∃ W, x1.alloc (.cells (bV b).toArray 50) = W := ⟨_, rfl⟩
  have hb2 : Below x1.heap.size x1 x2 := by rw [← hx2]; exact balloc (Below.refl _ _) _
  have hxb : BoxB x2 x1.heap.size b := by unfold BoxB; rw [← hx2]; exact heap_alloc_new _ _
  have HXB := Lib.hid hxb
  have HR2 : Hid (x2.rangeAt x1.heap.size 0 (bV b)) := Lib.hid (rangeOf hxb)
  have HB2 := Lib.hid (bthn hb1 hb2)
  have HIB : Hid ((Tryz.prog.info? 50).map (·.size) = some (bV b).length) := Lib.hid (by rw [bV_len, HBL.out]; exact infoBlk)
  rw [show bA b = .agg (bV b).toArray from rfl]
  rw [hx2] at hst
  have CO := HCO.out x2
  rw [show bA b = .agg (bV b).toArray from rfl] at CO
  clear CR hb1 hx2 hb2 hxb
  go_wp2_with (refine wpList_load_mid rfl 50 _ rfl x1.heap.size 0 rfl (bV b) _ HR2.out Tryz.underlying50 rfl HIB.out ?_)
  refine CO.mono ?_
  rintro e x3 ⟨rfl, hb3⟩
  dsimp only
  have HB3 := Lib.hid hb3
  have HX3 : Hid (BoxB x3 x1.heap.size b) := Lib.hid ((hb3.block _ (Array.getElem?_eq_some_iff.1 HXB.out).1).trans HXB.out)
  have hss : SL.toArray.size = 19 := by rw [List.size_toArray, HSS.out.1]
  clear CO hb3 hst
  rcases HER.out with rfl | ⟨rfl, hz⟩
  · repeat (first
      | (refine wpList_store_mid rfl 29 _ _ rfl x3.heap.size 0 SL.toArray rfl rfl (thereOf (heap_alloc_new x3 _) (by rw [hss]; simp)) (by rw [hss]; exact infoSup) (Array.all_eq_true_iff_forall_mem.2 (fun v hv => HSS.out.2 v (by simpa using hv))) ?_)
      | go_step)
    go_ret
    exact ⟨rfl, bthn (bthn HB2.out HB3.out) (belowSets (Nat.le_refl _) _ _ _ (balloc (Below.refl _ _) _))⟩
  · have hsl : ∀ W, (Instr.sliceAt 50 (.pointer (some ⟨x1.heap.size, 0, none⟩)) none (some (.int .i64 64)) none).run Tryz.prog W = .ok (.slice (some ⟨x1.heap.size, 0, none⟩) 64 256) W := fun W => by
      have hl : Tryz.prog.arrayLen 50 = 256 := by kernel_rfl
      have hs : ∀ W, (sizeOf (Tryz.prog.elem 50)).run Tryz.prog W = .ok 1 W := fun W => by kernel_rfl
      rw [run_sliceAt_array_h (P := Tryz.prog) W 50 ⟨x1.heap.size, 0, none⟩ (by kernel_rfl) .i64 64 (by omega) (by rw [hl]; omega), hs, hl]
      simp [Result.andThen_ok, slicedAt, Addr.add_lit]
    have har := run_arr x1.heap.size 0 64 256 (Nat.le_refl _)
    have hzl : (zeros 64).length = 64 := List.length_replicate
    have heq : ∀ W, (binOp .eql 168 (.agg (bV (zeros 64)).toArray) (.agg #[.int .u8 0, .int .u8 0, .int .u8 0, .int .u8 0, .int .u8 0, .int .u8 0, .int .u8 0, .int .u8 0, .int .u8 0, .int .u8 0, .int .u8 0, .int .u8 0, .int .u8 0, .int .u8 0, .int .u8 0, .int .u8 0, .int .u8 0, .int .u8 0, .int .u8 0, .int .u8 0, .int .u8 0, .int .u8 0, .int .u8 0, .int .u8 0, .int .u8 0, .int .u8 0, .int .u8 0, .int .u8 0, .int .u8 0, .int .u8 0, .int .u8 0, .int .u8 0, .int .u8 0, .int .u8 0, .int .u8 0, .int .u8 0, .int .u8 0, .int .u8 0, .int .u8 0, .int .u8 0, .int .u8 0, .int .u8 0, .int .u8 0, .int .u8 0, .int .u8 0, .int .u8 0, .int .u8 0, .int .u8 0, .int .u8 0, .int .u8 0, .int .u8 0, .int .u8 0, .int .u8 0, .int .u8 0, .int .u8 0, .int .u8 0, .int .u8 0, .int .u8 0, .int .u8 0, .int .u8 0, .int .u8 0, .int .u8 0, .int .u8 0, .int .u8 0])).run Tryz.prog W = .ok (.bool true) W := fun W => by
      have h := run_eql_bytes (P := Tryz.prog) W (t := 168) (e := 5) (n := 64) Tryz.underlying168 Tryz.underlying5 rfl rfl (zeros 64) (zeros 64) hzl hzl
      rw [beq_self_eq_true] at h
      exact h
    have HR3 : Hid (x3.rangeAt x1.heap.size 0 (bV (zeros 64))) := Lib.hid (by
      have h1 := sec_range (i := 0) (rangeOf HX3.out)
      rw [hz] at h1
      exact h1)
    have HXL : Hid (x1.heap.size < x3.heap.size) := Lib.hid (Array.getElem?_eq_some_iff.1 HX3.out).1
    obtain ⟨ZS, hZS⟩ : ∃ L, bV (zeros 64) = L := ⟨_, rfl⟩
    rw [hZS] at heq HR3
    have HZS : Hid ((Tryz.prog.info? 168).map (·.size) = some ZS.length) := Lib.hid (by rw [← hZS, bV_len, hzl]; exact infoSec)
    clear hZS hz
    repeat (first
      | (refine wpList_store_mid rfl 29 _ _ rfl x3.heap.size 0 SL.toArray rfl rfl (thereOf (heap_alloc_new x3 _) (by rw [hss]; simp)) (by rw [hss]; exact infoSup) (Array.all_eq_true_iff_forall_mem.2 (fun v hv => HSS.out.2 v (by simpa using hv))) ?_)
      | (refine wpL_load_met (by kernel_rfl) 168 _ rfl x1.heap.size 0 rfl ZS _ (rangeSt HR3.out HXL.out (belowSets (Nat.le_refl _) _ _ _ (balloc (Below.refl _ _) _))) Tryz.underlying168 rfl HZS.out ?_)
      | go_step)
    go_ret
    exact ⟨rfl, bthn (bthn HB2.out HB3.out) (belowSets (Nat.le_refl _) _ _ _ (balloc (Below.refl _ _) _))⟩
end Go.Proofs.YtcdobdjemlaaaaaGreat
