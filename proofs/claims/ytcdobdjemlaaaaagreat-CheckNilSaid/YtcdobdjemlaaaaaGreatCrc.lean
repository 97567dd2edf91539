/- crc, walked. -/
import Derived.Test.YtcdobdjemlaaaaaGreatProg
import Derived.Below
import Derived.Deep.LoopGhost
import Derived.Test.YtcdobdjemlaaaaaGreatWA
import Derived.Test.YtcdobdjemlaaaaaGreatSt0
namespace Go.Proofs.YtcdobdjemlaaaaaGreat
open Go.RowKit Wire
set_option linter.unusedVariables false
set_option linter.unusedSimpArgs false

set_option maxRecDepth 100000 in
set_option maxHeartbeats 3200000 in
theorem half_any (w : World) (B : Nat) (r : Int) (h : w.heap[B]? = some (.cells #[.int .u32 r] 24 (0, 0))) :
    Calls Tryz.prog 203 #[.pointer (some ⟨B, 0, none⟩)] w fun e w' => e = .returned (.tuple #[]) ∧ w' = w.setCell ⟨B, 0, none⟩ (.int .u32 (halfI r)) := by
  have h0 := cellOf h 0 (v := .int .u32 r) rfl
  have hf := frozenOf h 0
  go_enter Tryz.func203, Tryz.ntmps203
  go_wp2_with fail
  go_end0
  exact ⟨rfl, rfl⟩
theorem halfI_in (r : Int) : 0 ≤ halfI r ∧ halfI r < 4294967296 := u32_in _ _ _
theorem halfN_in {r : Int} (h : 0 ≤ r ∧ r < 4294967296) : ∀ k, 0 ≤ halfN k r ∧ halfN k r < 4294967296
  | 0 => h
  | k + 1 => halfI_in _
set_option maxRecDepth 100000 in
set_option maxHeartbeats 3200000 in
theorem entry_any (w : World) (r : Int) (h : 0 ≤ r ∧ r < 4294967296) :
    Calls Tryz.prog 191 #[.int .u32 r] w fun e w' => e = .returned (.int .u32 (halfN 8 r)) ∧ Below w.heap.size w w' := by
  have HR := Lib.hid h
  obtain ⟨w1, hw1⟩ : ∃ W, w.alloc (.cells #[.int .u32 r] 24) = W := ⟨_, rfl⟩
  have hb1 : Below w.heap.size w w1 := by rw [← hw1]; exact balloc (Below.refl _ _) _
  have HX1 : Hid (w1.heap[w.heap.size]? = some (.cells #[.int .u32 r] 24 (0, 0))) := Lib.hid (by rw [← hw1]; exact heap_alloc_new _ _)
  have HB1 := Lib.hid hb1
  have hmf : ∀ (fn : Fn) (first cap : Array Value) (w : World), (Instr.makeFunc fn first cap).run Tryz.prog w = .ok (.func fn first cap) w := by intros; rfl
  clear h hb1
  go_enter Tryz.func191, Tryz.ntmps191
  go_wp2_with fail
  (try rw [hw1])
  clear hw1
  go_loopw [5] (fun i wr => ∃ k : Nat, k ≤ 8 ∧ i = .int .i64 (k : Int) ∧ wr.heap[w.heap.size]? = some (.cells #[.int .u32 (halfN k r)] 24 (0, 0)) ∧ Below w.heap.size w wr) (fun i _ => 8 - (Go.RowKit.intOf i).toNat)
  case atStart => exact ⟨0, by omega, rfl, HX1.out, HB1.out⟩
  case round =>
    obtain ⟨k, hk, rfl, hx, hb⟩ := hrel
    by_cases hlt : k < 8
    · have CH := half_any wr w.heap.size _ hx
      have HX := Lib.hid hx
      have HB := Lib.hid hb
      clear hx hb
      go_wp2_with fail
      refine CH.mono ?_
      rintro e w2 ⟨rfl, rfl⟩
      have HX2 : Hid ((wr.setCell ⟨w.heap.size, 0, none⟩ (.int .u32 (halfI (halfN k r)))).heap[w.heap.size]? = some (.cells #[.int .u32 (halfN (k + 1) r)] 24 (0, 0))) := Lib.hid (setOf HX.out 0 _)
      have HB2 := Lib.hid (HB.out.setCell (p := ⟨w.heap.size, 0, none⟩) (Nat.le_refl _) (.int .u32 (halfI (halfN k r))))
      clear CH
      go_wp2_with fail
      go_roundw
      case rel => exact ⟨k + 1, by omega, by go_num, HX2.out, HB2.out⟩
      case measure => simp [Go.RowKit.intOf]; omega
    · obtain rfl : k = 8 := by omega
      have h0 := cellOf hx 0 (v := .int .u32 (halfN 8 r)) rfl
      have HB := Lib.hid hb
      clear hx hb
      go_wp2_with fail
      go_ret
      exact ⟨rfl, HB.out⟩
theorem addI_snoc (r : Int) (a : List UInt8) (c : UInt8) : addI r (a ++ [c]) = bits .xor .u32 (addI r a / 256) (halfN 8 (bits .xor .u32 (bits .and .u32 (addI r a) 255) (c.toNat : Int))) := by
  induction a generalizing r with
  | nil => rfl
  | cons x a ih => exact ih _
theorem addI_in {r : Int} (h : 0 ≤ r ∧ r < 4294967296) : ∀ (bs : List UInt8), 0 ≤ addI r bs ∧ addI r bs < 4294967296
  | [] => h
  | c :: bs => addI_in (u32_in _ _ _) bs
set_option maxRecDepth 100000 in
set_option maxHeartbeats 3200000 in
theorem add_any (w : World) (s : Int) (hs : 0 ≤ s ∧ s < 4294967296) (v : Value) (m : Nat) (bs : List UInt8) (hrd : Rd w 1 v m (bV bs)) (hm : m ≤ 1000000) :
    Calls Tryz.prog 178 #[.int .u32 s, v] w fun e w' => e = .returned (.int .u32 (invI (addI (invI s) bs))) ∧ Below w.heap.size w w' := by
  have HRD := Lib.hid hrd
  have HLB : Hid (bs.length = m) := Lib.hid (by obtain ⟨_, _, _, hl, _⟩ := hrd; simpa [bV_len] using hl)
  obtain ⟨ao, cap, rfl, _, _, _, _⟩ := id hrd
  obtain ⟨s1, hs1⟩ : ∃ x, invI s = x := ⟨_, rfl⟩
  have hs1' : bits .xor .u32 IntKind.u32.max s = s1 := hs1
  have HS1 : Hid (0 ≤ s1 ∧ s1 < 4294967296) := Lib.hid (by rw [← hs1]; exact u32_in _ _ _)
  rw [hs1]
  clear hrd hs1
  go_enter Tryz.func178, Tryz.ntmps178
  go_wp2_with fail
  (try rw [hs1'])
  go_loopw [5, 12] (fun x i wr => ∃ k : Nat, k ≤ m ∧ i = .int .i64 (k : Int) ∧ x = .int .u32 (addI s1 (bs.take k)) ∧ Below w.heap.size w wr) (fun _ i _ => m - (Go.RowKit.intOf i).toNat)
  case atStart => exact ⟨0, by omega, rfl, rfl, Below.refl _ _⟩
  case round =>
    obtain ⟨k, hk, rfl, rfl, hb⟩ := hrel
    have HB := Lib.hid hb
    clear hb
    by_cases hlt : k < m
    · obtain ⟨c, hc⟩ : ∃ c, bs[k]? = some c := ⟨_, List.getElem?_eq_getElem (by rw [HLB.out]; exact hlt)⟩
      have HA : Hid (addI s1 (bs.take (k + 1)) = bits .xor .u32 (addI s1 (bs.take k) / 256) (halfN 8 (bits .xor .u32 (bits .and .u32 (addI s1 (bs.take k)) 255) (c.toNat : Int)))) := Lib.hid (by rw [List.take_add_one, hc]; exact addI_snoc s1 (bs.take k) c)
      obtain ⟨ao', cap', e1, _, _, _, hcell⟩ := (HRD.out.below HB.out)
      obtain ⟨rfl, _, rfl⟩ := Value.slice.inj e1
      obtain ⟨b0, off, rfl, hb0, hc0⟩ := hcell k _ (bV_get hc)
      obtain ⟨x, hx⟩ : ∃ x, addI s1 (bs.take k) = x := ⟨_, rfl⟩
      have hxr : 0 ≤ x ∧ x < 4294967296 := by rw [← hx]; exact addI_in HS1.out _
      rw [hx] at HA ⊢
      have hcl := byte_lt c
      obtain ⟨y, hy⟩ : ∃ y, bits .xor .u32 (bits .and .u32 x 255) (c.toNat : Int) = y := ⟨_, rfl⟩
      have CE : Calls Tryz.prog 191 #[.int .u32 y] wr fun e w' => e = .returned (.int .u32 (halfN 8 y)) ∧ Below wr.heap.size wr w' := entry_any wr y (by rw [← hy]; exact u32_in _ _ _)
      have HY := Lib.hid hy
      clear e1 hcell hb0 hc hx
      go_wp2_with fail
      (try rw [hy])
      clear hy
      refine CE.mono ?_
      rintro e w2 ⟨rfl, hb2⟩
      have HB2 := Lib.hid (bthen HB.out hb2)
      clear CE hb2 hc0
      go_wp2_with fail
      go_roundw
      case rel => exact ⟨k + 1, by omega, by go_num, by rw [HA.out, HY.out], HB2.out⟩
      case measure => simp [Go.RowKit.intOf]; omega
    · obtain rfl : k = m := by omega
      obtain ⟨x, hx⟩ : ∃ x, addI s1 (bs.take k) = x := ⟨_, rfl⟩
      have HX : Hid (addI s1 bs = x) := Lib.hid (by rw [← hx, List.take_of_length_le (by rw [HLB.out]; exact Nat.le_refl _)])
      rw [hx]
      clear hx
      go_wp2_with fail
      go_ret
      exact ⟨by rw [HX.out]; rfl, HB.out⟩
set_option maxRecDepth 100000 in
set_option maxHeartbeats 3200000 in
theorem crcsum_any (w : World) (v : Value) (m : Nat) (bs : List UInt8) (hrd : Rd w 1 v m (bV bs)) (hm : m ≤ 1000000) :
    Calls Tryz.prog 149 #[v] w fun e w' => e = .returned (.int .u32 (crcN bs : Int)) ∧ Below w.heap.size w w' := by
  have CA := add_any w 0 (by omega) v m bs hrd hm
  rw [show invI (addI (invI 0) bs) = (crcN bs : Int) from (crcN_eq bs).1.symm] at CA
  clear hrd
  go_enter Tryz.func149, Tryz.ntmps149
  go_wp2_with fail
  refine CA.mono ?_
  rintro e w2 ⟨rfl, hb2⟩
  have HB2 := Lib.hid hb2
  clear CA hb2
  go_wp2_with fail
  go_ret
  exact ⟨rfl, HB2.out⟩
end Go.Proofs.YtcdobdjemlaaaaaGreat
