/- super: Of's get, walked. -/
import Derived.Laws.Bits64b
import Derived.Test.YtcdobdjemlaaaaaGreatSb0
namespace Go.Proofs.YtcdobdjemlaaaaaGreat
open Go.RowKit Wire
set_option linter.unusedVariables false
set_option linter.unusedSimpArgs false

theorem sum_snoc (l : List UInt8) (b : UInt8) : sum (l ++ [b]) = sum l + 256 ^ l.length * b.toNat := by
  rw [sum_append]
  simp [sum]
theorem or_shl {a b i : Nat} (hi : i < 8) (ha : a < 256 ^ i) (hb : b < 256) : bits .or .u64 (a : Int) (((b * 256 ^ i : Nat)) : Int) = ((a + 256 ^ i * b : Nat) : Int) := by
  have h8 : (256 : Nat) ^ i = 2 ^ (8 * i) := (pow8 i).symm
  have hp : 256 ^ i * 256 ≤ 18446744073709551616 := by
    have : 256 ^ (i + 1) ≤ 256 ^ 8 := Nat.pow_le_pow_right (by omega) (by omega)
    rw [Nat.pow_succ] at this
    exact this
  have h1 : b * 256 ^ i < 18446744073709551616 := by
    have : b * 256 ^ i ≤ 255 * 256 ^ i := Nat.mul_le_mul_right _ (by omega)
    have h2 : 0 < 256 ^ i := Nat.pow_pos (by omega)
    omega
  have h3 : a < 18446744073709551616 := by omega
  rw [bits_or_u64_nat _ _ h3 h1, Nat.or_comm, Nat.mul_comm b]
  have h4 := Nat.two_pow_add_eq_or_of_lt (i := 8 * i) (b := a) (by rw [← h8]; exact ha) b
  rw [← h8] at h4
  rw [← h4, Nat.add_comm]
theorem shl_val {b i : Nat} (hi : i < 8) (hb : b < 256) : IntKind.u64.wrap ((b : Int) * 2 ^ (8 * i)) = ((b * 256 ^ i : Nat) : Int) := by
  have e : ((b : Int) * 2 ^ (8 * i)) = ((b * 256 ^ i : Nat) : Int) := by
    rw [← pow8, Int.natCast_mul, Int.natCast_pow]
    rfl
  have hp : 256 ^ i * 256 ≤ 18446744073709551616 := by
    have : 256 ^ (i + 1) ≤ 256 ^ 8 := Nat.pow_le_pow_right (by omega) (by omega)
    rw [Nat.pow_succ] at this
    exact this
  have h1 : b * 256 ^ i ≤ 255 * 256 ^ i := Nat.mul_le_mul_right _ (by omega)
  have h2 : 0 < 256 ^ i := Nat.pow_pos (by omega)
  rw [e, IntKind.wrap_u64]
  omega
set_option maxRecDepth 100000 in
set_option maxHeartbeats 6400000 in
theorem get_at (w : World) (qb qa k a : Nat) (bs : List UInt8) (hx : BoxB w qb bs) (hl : bs.length = 256) (ha : w.heap[qa]? = some (.cells #[.int .i64 (a : Int)] 3 (0, 0))) (hk : k ≤ 8) (hak : a + k ≤ 256) :
    Calls Tryz.prog 153 #[.int .i64 (k : Int), .pointer (some ⟨qb, 0, none⟩), .pointer (some ⟨qa, 0, none⟩)] w fun e w' => e = .returned (.int .u64 (getN k (bs.drop a) : Int)) ∧ w' = w.setCell ⟨qa, 0, none⟩ (.int .i64 ((a + k : Nat) : Int)) := by
  have HX := Lib.hid hx
  have HL := Lib.hid hl
  have a0 := cellOf ha 0 (v := .int .i64 (a : Int)) rfl
  have af := frozenOf ha 0
  clear hx ha
  go_enter Tryz.func153, Tryz.ntmps153
  go_wp2_with fail
  go_loopw [4, 7] (fun n v wr => ∃ i : Nat, i ≤ k ∧ v = .int .i64 (i : Int) ∧ n = .int .u64 ((sum ((bs.drop a).take i) : Nat) : Int) ∧ w = wr) (fun _ v _ => k - (Go.RowKit.intOf v).toNat)
  case atStart => exact ⟨0, by omega, rfl, rfl, rfl⟩
  case round =>
    obtain ⟨i, hi, rfl, rfl, rfl⟩ := hrel
    by_cases hlt : i < k
    · obtain ⟨c, hc⟩ : ∃ c, bs[a + i]? = some c := ⟨_, List.getElem?_eq_getElem (by omega)⟩
      have e0 := cellOf HX.out (a + i) (v := .int .u8 (c.toNat : Int)) (by simpa using bV_get hc)
      have htk : (bs.drop a).take (i + 1) = (bs.drop a).take i ++ [c] := by
        rw [List.take_add_one, List.getElem?_drop, hc]
        rfl
      have hln : ((bs.drop a).take i).length = i := by rw [List.length_take, List.length_drop]; omega
      have HSN : Hid (sum ((bs.drop a).take (i + 1)) = sum ((bs.drop a).take i) + 256 ^ i * c.toNat) := Lib.hid (by rw [htk, sum_snoc, hln])
      obtain ⟨sa, hsa⟩ : ∃ s, sum ((bs.drop a).take i) = s := ⟨_, rfl⟩
      have hsl : sa < 256 ^ i := by
        have := sum_lt ((bs.drop a).take i)
        rw [hln, hsa] at this
        exact this
      obtain ⟨cn, hcn⟩ : ∃ x, c.toNat = x := ⟨_, rfl⟩
      have hcl : cn < 256 := by rw [← hcn]; exact byte_lt c
      rw [hsa, hcn] at HSN
      rw [hcn] at e0
      rw [hsa]
      have HOR := Lib.hid (or_shl (i := i) (by omega) hsl hcl)
      clear hc htk hln hsa hcn hsl
      go_wp2_with fail
      refine ⟨⟨i + 1, by omega, by go_num, ?_, trivial⟩, by simp [Go.RowKit.intOf]; omega⟩
      rw [shl_val (by omega) hcl, HOR.out, HSN.out]
    · obtain rfl : i = k := by omega
      have HG : Hid (getN i (bs.drop a) = sum ((bs.drop a).take i)) := Lib.hid rfl
      obtain ⟨sa, hsa⟩ : ∃ s, sum ((bs.drop a).take i) = s := ⟨_, rfl⟩
      rw [hsa] at HG ⊢
      clear hsa
      go_wp2_with fail
      go_ret
      refine ⟨?_, by rw [show ((a + i : Nat) : Int) = (a : Int) + (i : Int) by omega]⟩
      rw [HG.out]
      rfl
end Go.Proofs.YtcdobdjemlaaaaaGreat
