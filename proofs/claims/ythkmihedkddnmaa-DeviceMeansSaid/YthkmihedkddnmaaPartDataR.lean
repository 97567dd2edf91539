/- The reference's Data of a part (sector by sector), walked. -/
import Derived.Test.YthkmihedkddnmaaPartData
namespace Go.Proofs.Ythkmihedkddnmaa
open Go.RowKit
set_option linter.unusedVariables false

theorem dataP_step_in (bs : List UInt8) (blk at_ f k : Int) (h0 : 0 ≤ blk * 4 + k - at_) (h1 : blk * 4 + k - at_ < (bs.length : Int) / 64) (hfk : f ≤ k) :
    dataP bs blk at_ f (k + 1) = dataP bs blk at_ f k ++ (bs.drop ((blk * 4 + k - at_) * 64).toNat).take 64 := by
  obtain ⟨n, hn⟩ : ∃ n : Nat, (n : Int) = blk * 4 + k - at_ := ⟨(blk * 4 + k - at_).toNat, by omega⟩
  have e1 : pClamp blk at_ ((bs.length : Int) / 64) k = n := by unfold pClamp; omega
  have e2 : pClamp blk at_ ((bs.length : Int) / 64) (k + 1) = n + 1 := by unfold pClamp; omega
  have p1 := pClamp_mono blk at_ ((bs.length : Int) / 64) hfk
  have p2 := pClamp_le blk at_ ((bs.length : Int) / 64) f (by omega)
  unfold dataP
  rw [e1] at p1
  rw [e1, e2, ← hn]
  generalize pClamp blk at_ ((bs.length : Int) / 64) f = p at *
  obtain ⟨m, rfl⟩ := Int.eq_ofNat_of_zero_le p2.1
  have a1 : (((n : Int) + 1) * 64).toNat - ((m : Int) * 64).toNat = (((n : Int) * 64).toNat - ((m : Int) * 64).toNat) + 64 := by omega
  rw [a1, List.take_add, List.drop_drop]
  congr 3
  omega

theorem dataP_step_out (bs : List UInt8) (blk at_ f k : Int) (h : ¬ (0 ≤ blk * 4 + k - at_ ∧ blk * 4 + k - at_ < (bs.length : Int) / 64)) : dataP bs blk at_ f (k + 1) = dataP bs blk at_ f k := by
  have e1 : pClamp blk at_ ((bs.length : Int) / 64) (k + 1) = pClamp blk at_ ((bs.length : Int) / 64) k := by unfold pClamp; omega
  unfold dataP
  rw [e1]

theorem dataP_self (bs : List UInt8) (blk at_ f : Int) : dataP bs blk at_ f f = [] := by unfold dataP; simp

theorem dataP_len (bs : List UInt8) (blk at_ f t : Int) : (dataP bs blk at_ f t).length ≤ bs.length := by
  unfold dataP
  rw [List.length_take, List.length_drop]
  omega

end Go.Proofs.Ythkmihedkddnmaa
