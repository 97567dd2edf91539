/- Hex, the program's and the reference's, walked. -/
import Derived.Test.YtgkelbdgdhkeoaaHex0
import Derived.Test.YtgkelbdgdhkeoaaBuild2
import Derived.Test.YtgkelbdgdhkeoaaShelfB
namespace Go.Proofs.Ytgkelbdgdhkeoaa
open Go.RowKit
set_option linter.unusedVariables false
set_option linter.unusedSimpArgs false
open Hex

theorem byteCells_bV (l : List UInt8) : Lib.byteCells l = bV l := rfl

theorem hexs_cut : ∀ (n : Nat), n < 16 → hexs.extract n (n + 1) = ⟨#[hx n]⟩ := by decide

set_option maxRecDepth 100000 in
set_option maxHeartbeats 3200000 in
theorem hex_any (v : Value) (n : Nat) (bs : List UInt8) (w : World) (hrd : Rd w 1 v n (bV bs)) (hn : n ≤ 1000000) :
    Calls Try.prog 41 #[v] w fun e w' => e = .returned (.string (strB (hexOf bs))) ∧ Below w.heap.size w w' := by
  have hlen : bs.length = n := by obtain ⟨_, _, _, hl, _⟩ := hrd; simpa [bV] using hl
  have HLN := Lib.hid hlen
  obtain ⟨ao, cap, rfl, _, _, ⟨_, hc1, hc2⟩, hcell⟩ := hrd
  unfold maxLen at hc2
  have HCELL := Lib.hid hcell
  obtain ⟨B, hB⟩ : ∃ B, w.heap.size = B := ⟨_, rfl⟩
  have HF : Hid (Lib.IsBuilder 149 5 B B (bV (hexOf [])) (w.alloc (.cells #[.pointer none, .slice none 0 0] 149)) ∧ Below B w (w.alloc (.cells #[.pointer none, .slice none 0 0] 149))) := Lib.hid (by
    subst hB; exact ⟨Lib.fresh_isBuilder _ _ w, balloc (Below.refl _ _) _⟩)
  have HB := Lib.hid hB
  clear hlen hcell
  go_enter Try.func41, Try.ntmps41
  go_wp2_with fail
  generalize w.alloc (.cells #[.pointer none, .slice none 0 0] 149) = w0 at HF ⊢
  clear hB
  go_loopw [8] (fun i wr => ∃ k : Nat, k ≤ n ∧ i = .int .i64 (k : Int) ∧ Lib.IsBuilder 149 5 B B (bV (hexOf (bs.take k))) wr ∧ Below B w wr) (fun i _ => n - (intOf i).toNat)
  case atStart => exact ⟨0, by omega, rfl, by simpa using HF.out.1, HF.out.2⟩
  case round =>
    obtain ⟨k, hk, rfl, hbd, hb⟩ := hrel
    have HBD := Lib.hid hbd
    have HBW := Lib.hid hb
    clear hbd hb
    by_cases hlt : k < n
    · obtain ⟨c, hc⟩ : ∃ c, bs[k]? = some c := ⟨_, List.getElem?_eq_getElem (by rw [HLN.out]; exact hlt)⟩
      obtain ⟨b, off, rfl, hbl, hce⟩ := HCELL.out k _ (bV_get hc)
      have hcw : wr.cell? ⟨b, off + k, none⟩ = some (.int .u8 (c.toNat : Int)) := (HBW.out.cell (p := ⟨b, off + k, none⟩) (by rw [← HB.out]; exact hbl)).trans hce
      have hl1 : (bV (hexOf (bs.take k))).length ≤ 2 * n := by rw [bV_len, hexOf_len, List.length_take]; omega
      have hsn : bV (hexOf (bs.take (k + 1))) = (bV (hexOf (bs.take k)) ++ [.int .u8 ((hx (c.toNat / 16)).toNat : Int)]) ++ [.int .u8 ((hx (c.toNat % 16)).toNat : Int)] := by
        rw [List.take_add_one, hc]
        show bV (hexOf (bs.take k ++ [c])) = _
        rw [hexOf_snoc, bV_app]
        simp [bV]
      have hsz : B ≤ wr.heap.size := by have := HBW.out.size; have := HB.out; omega
      have HSN := Lib.hid hsn
      have hlt16 : c.toNat / 16 < 16 := by have := c.toNat_lt; omega
      have hq : ((({ data := #[48, 49, 50, 51, 52, 53, 54, 55, 56, 57, 97, 98, 99, 100, 101, 102] } : ByteArray)[c.toNat / 16]'(by show _ < 16; exact hlt16)).toNat : Int) = ((hx (c.toNat / 16)).toNat : Int) := by rw [← hexs_at _ hlt16]; rfl
      have hm : ((({ data := #[48, 49, 50, 51, 52, 53, 54, 55, 56, 57, 97, 98, 99, 100, 101, 102] } : ByteArray)[c.toNat % 16]'(by show _ < 16; omega)).toNat : Int) = ((hx (c.toNat % 16)).toNat : Int) := by rw [← hexs_at _ (by omega)]; rfl
      have HQ := Lib.hid hq
      have HM := Lib.hid hm
      clear hc hce hsn hq hm
      go_wp2_with fail
      refine (writeByte_any B B _ _ wr HBD.out (by omega) hsz).mono ?_
      rintro e w2 ⟨rfl, hb2, hbb2⟩
      rw [HQ.out] at hb2
      have HB2 := Lib.hid hb2
      have HBB2 := Lib.hid (HBW.out.trans hbb2)
      have hl2 : (bV (hexOf (bs.take k)) ++ [Value.int .u8 ((hx (c.toNat / 16)).toNat : Int)]).length + 1 ≤ 140737488355328 := by simp only [List.length_append, List.length_cons, List.length_nil]; omega
      have hsz2 : B ≤ w2.heap.size := Nat.le_trans hsz hbb2.size
      clear hb2 hbb2
      go_wp2_with fail
      refine (writeByte_any B B _ _ w2 (.inr HB2.out) hl2 hsz2).mono ?_
      rintro e w3 ⟨rfl, hb3, hbb3⟩
      rw [HM.out] at hb3
      have HB3 : Hid (Lib.IsBuilder 149 5 B B (bV (hexOf (bs.take (k + 1)))) w3) := Lib.hid (.inr (by rw [HSN.out]; exact hb3))
      have HBB3 := Lib.hid (HBB2.out.trans hbb3)
      clear hb3 hbb3
      go_wp2_with fail
      go_roundw
      case rel => exact ⟨k + 1, by omega, by go_num, HB3.out, HBB3.out⟩
      case measure => simp [intOf]; omega
    · obtain rfl : k = n := by omega
      have hbd := HBD.out
      rw [List.take_of_length_le (by rw [HLN.out]; exact Nat.le_refl _)] at hbd
      have CS := sh_Builder_String_any B B (hexOf bs) wr hbd (by have := HBW.out.size; have := HB.out; omega)
      have HCS := Lib.hid CS
      clear hbd CS
      go_wp2_with fail
      refine HCS.out.mono ?_
      rintro e w2 ⟨rfl, hb2⟩
      have HB2 := Lib.hid (HBW.out.trans hb2)
      clear hb2
      go_wp2_with fail
      go_ret
      exact ⟨rfl, by rw [HB.out]; exact HB2.out⟩

set_option maxRecDepth 100000 in
set_option maxHeartbeats 3200000 in
theorem rhex_any (v : Value) (n : Nat) (bs : List UInt8) (w : World) (hrd : Rd w 1 v n (bV bs)) (hn : n ≤ 1000000) :
    Calls Try.prog 42 #[v] w fun e w' => e = .returned (.string (strB (hexOf bs))) ∧ Below w.heap.size w w' := by
  have hlen : bs.length = n := by obtain ⟨_, _, _, hl, _⟩ := hrd; simpa [bV] using hl
  have HLN := Lib.hid hlen
  obtain ⟨ao, cap, rfl, _, _, ⟨_, hc1, hc2⟩, hcell⟩ := hrd
  unfold maxLen at hc2
  have HCELL := Lib.hid hcell
  obtain ⟨B, hB⟩ : ∃ B, w.heap.size = B := ⟨_, rfl⟩
  have HB := Lib.hid hB
  clear hlen hcell hB
  go_enter Try.func42, Try.ntmps42
  go_wp2_with fail
  go_loopw [4, 5] (fun s i wr => ∃ k : Nat, k ≤ n ∧ i = .int .i64 (k : Int) ∧ s = .string (strB (hexOf (bs.take k))) ∧ Below B w wr) (fun _ i _ => n - (intOf i).toNat)
  case atStart => exact ⟨0, by omega, rfl, rfl, Below.refl _ _⟩
  case round =>
    obtain ⟨k, hk, rfl, rfl, hb⟩ := hrel
    have HBW := Lib.hid hb
    clear hb
    by_cases hlt : k < n
    · obtain ⟨c, hc⟩ : ∃ c, bs[k]? = some c := ⟨_, List.getElem?_eq_getElem (by rw [HLN.out]; exact hlt)⟩
      obtain ⟨b, off, rfl, hbl, hce⟩ := HCELL.out k _ (bV_get hc)
      have hcw : ∀ m, (wr.drewN m).cell? ⟨b, off + k, none⟩ = some (.int .u8 (c.toNat : Int)) := fun m => (HBW.out.cell (p := ⟨b, off + k, none⟩) (by rw [← HB.out]; exact hbl)).trans hce
      have hcw0 : wr.cell? ⟨b, off + k, none⟩ = some (.int .u8 (c.toNat : Int)) := hcw 0
      have hsn : strB (hexOf (bs.take (k + 1))) = strB (hexOf (bs.take k)) ++ hexs.extract (c.toNat / 16) (c.toNat / 16 + 1) ++ hexs.extract (c.toNat % 16) (c.toNat % 16 + 1) := by
        rw [List.take_add_one, hc]
        show strB (hexOf (bs.take k ++ [c])) = _
        rw [hexOf_snoc]
        have h1 := c.toNat_lt
        rw [hexs_cut _ (by omega), hexs_cut _ (by omega)]
        simp [strB, ByteArray.ext_iff]
      have HSN := Lib.hid hsn
      have h256 : (c.toNat : Int) < 256 := by have := c.toNat_lt; omega
      clear hc hce hsn hcw
      have hss : (strB (hexOf (bs.take k))).size ≤ 2000000 := by
        have h : (hexOf (bs.take k)).length ≤ 2000000 := by rw [hexOf_len, List.length_take]; omega
        show (hexOf (bs.take k)).toArray.size ≤ _
        rw [List.size_toArray]; exact h
      generalize c.toNat = q at *
      generalize strB (hexOf (bs.take k)) = s at *
      have hz1 : (({ data := #[48, 49, 50, 51, 52, 53, 54, 55, 56, 57, 97, 98, 99, 100, 101, 102] } : ByteArray).extract (q / 16) (q / 16 + 1)).size = 1 := by rw [show ({ data := #[48, 49, 50, 51, 52, 53, 54, 55, 56, 57, 97, 98, 99, 100, 101, 102] } : ByteArray) = hexs from rfl, hexs_cut _ (by omega)]; rfl
      have hz2 : (({ data := #[48, 49, 50, 51, 52, 53, 54, 55, 56, 57, 97, 98, 99, 100, 101, 102] } : ByteArray).extract (q % 16) (q % 16 + 1)).size = 1 := by rw [show ({ data := #[48, 49, 50, 51, 52, 53, 54, 55, 56, 57, 97, 98, 99, 100, 101, 102] } : ByteArray) = hexs from rfl, hexs_cut _ (by omega)]; rfl
      have hadd : ∀ (x : ByteArray), x.size ≤ 2000002 → ∀ (y : ByteArray), y.size = 1 → ∀ W, (binOp .add 9 (.string x) (.string y)).run Try.prog W = .ok (.string (x ++ y)) W := fun x hx y hy W => by simp [binOp, run_string_add, hx, hy]; rw [run_string_add W x y (by omega) (by omega)]
      have hc1 := hadd s (by omega) _ hz1
      have hc2 := hadd (s ++ ({ data := #[48, 49, 50, 51, 52, 53, 54, 55, 56, 57, 97, 98, 99, 100, 101, 102] } : ByteArray).extract (q / 16) (q / 16 + 1)) (by rw [ByteArray.size_append, hz1]; omega) _ hz2
      clear hz1 hz2 hadd
      go_wp2_with fail
      have hwr0 : IntKind.u8.wrap ((q : Int) / 16) = (q : Int) / 16 := IntWalk.u8_in _ (by omega)
      have hwr3 : IntKind.u8.wrap ((q : Int) % 16) = (q : Int) % 16 := IntWalk.u8_in _ (by omega)
      have hwr1 : IntKind.u8.wrap ((q : Int) / 16 + 1) = (q : Int) / 16 + 1 := IntWalk.u8_in _ (by omega)
      have hwr2 : IntKind.u8.wrap ((q : Int) % 16 + 1) = (q : Int) % 16 + 1 := IntWalk.u8_in _ (by omega)
      have ht1 : ((q : Int) / 16).toNat = q / 16 := by omega
      have ht2 : ((q : Int) / 16 + 1).toNat = q / 16 + 1 := by omega
      have ht3 : ((q : Int) % 16).toNat = q % 16 := by omega
      have ht4 : ((q : Int) % 16 + 1).toNat = q % 16 + 1 := by omega
      have hb1 : (q : Int) / 16 ≤ 15 := by omega
      have hb2 : (q : Int) % 16 ≤ 15 := by omega
      have hb3 : 0 ≤ (q : Int) / 16 := by omega
      have hb5 : (q : Int) / 16 ≤ (q : Int) / 16 + 1 := by omega
      have hb6 : (q : Int) / 16 + 1 ≤ 16 := by omega
      have hb7 : (q : Int) % 16 ≤ (q : Int) % 16 + 1 := by omega
      have hb8 : (q : Int) % 16 + 1 ≤ 16 := by omega
      have hb9 : 0 ≤ (q : Int) / 16 + 1 := by omega
      have hb0 : 0 ≤ (q : Int) % 16 + 1 := by omega
      have hb4 : 0 ≤ (q : Int) % 16 := by omega
      go_quiet (fail)
      clear hb1 hb2 hb3 hb4 hb5 hb6 hb7 hb8 hb9 hb0 hwr0 hwr1 hwr2 hwr3 ht1 ht2 ht3 ht4 hc1 hc2
      go_wp2_with fail
      go_roundw
      case rel => exact ⟨k + 1, by omega, by go_num, by rw [HSN.out]; rfl, below_drewN HBW.out _⟩
      case measure => simp [intOf]; omega
    · obtain rfl : k = n := by omega
      go_wp2_with fail
      go_ret
      exact ⟨by rw [List.take_of_length_le (by rw [HLN.out]; exact Nat.le_refl _)]; rfl, by rw [HB.out]; exact HBW.out⟩
end Go.Proofs.Ytgkelbdgdhkeoaa
