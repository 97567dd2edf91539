/- Plain: an operation that may be has bytes. -/
import Derived.Test.YtgkelbdgdhkeoaaCmdR6
namespace Go.Proofs.Ytgkelbdgdhkeoaa
open Go.RowKit
set_option linter.unusedVariables false
open Wire Cmd

theorem lay_n4 {n : Nat} (h : n < 4294967296) : ∃ a, lay 52 (num n) = some a := by
  have h2 : isNum 52 = true ∧ n < 256 ^ wid 52 := ⟨rfl, by rw [show wid 52 = 4 from rfl]; exact h⟩
  exact ⟨low n (wid 52), if_pos h2⟩
theorem toU_of {n : Int} (h1 : 0 ≤ n) (h2 : n < 18446744073709551616) : ((toU n : Nat) : Int) = n := by unfold toU; omega
theorem lay_six (o : Op0) (c : UInt8) (hc : c = 118 ∨ c = 116 ∨ c = 115 ∨ c = 97 ∨ c = 99 ∨ c = 100) (hw : wIn (c.toNat : Int) o = true) : ∃ a, lay (shL (c.toNat : Int)) (vaL (c.toNat : Int) o) = some a := by
  rcases hc with rfl | rfl | rfl | rfl | rfl | rfl
  · have h : (decide (1 ≤ o.vol) && decide (o.vol < 4294967296)) = true := hw
    simp only [Bool.and_eq_true, decide_eq_true_eq] at h
    exact lay_n4 (n := o.vol) h.2
  · have h : (decide (1 ≤ o.to) && decide (o.to < 4294967296) && (o.to != o.vol)) = true := hw
    simp only [Bool.and_eq_true, decide_eq_true_eq] at h
    exact lay_n4 (n := o.to) h.1.2
  · have h : (decide (0 ≤ o.size) && decide (o.size ≤ 256)) = true := hw
    simp only [Bool.and_eq_true, decide_eq_true_eq] at h
    have := toU_of h.1 (by omega)
    exact lay_n4 (n := toU o.size) (by omega)
  · have h : (decide (0 ≤ o.pl) && decide (o.pl ≤ 1048576)) = true := hw
    simp only [Bool.and_eq_true, decide_eq_true_eq] at h
    have := toU_of h.1 (by omega)
    exact lay_n4 (n := toU o.pl) (by omega)
  · have h : (decide (1 ≤ o.count) && decide (o.count ≤ 1024)) = true := hw
    simp only [Bool.and_eq_true, decide_eq_true_eq] at h
    have := toU_of (n := o.count) (by omega) (by omega)
    exact lay_n4 (n := toU o.count) (by omega)
  · have h : (decide (64 ≤ o.data.length) && decide (o.data.length % 64 = 0) && decide (o.data.length ≤ 2048)) = true := hw
    simp only [Bool.and_eq_true, decide_eq_true_eq] at h
    show ∃ a, lay 42 (blob o.data) = some a
    have h2 : (42 : UInt8) = 42 ∧ o.data.length ≤ 16777216 := ⟨rfl, Nat.le_trans h.2 (by decide)⟩
    exact ⟨low o.data.length 4 ++ o.data, if_pos h2⟩
theorem pack_all (o : Op0) : ∀ l : List UInt8, (∀ c ∈ l, ∃ a, lay (shL (c.toNat : Int)) (vaL (c.toNat : Int) o) = some a) → ∃ bs, pack (shS l) (vals o l) = some bs
  | [], _ => ⟨[], rfl⟩
  | c :: l, h => by
    obtain ⟨a, ha⟩ := h c (by simp)
    obtain ⟨bs, hb⟩ := pack_all o l (fun d hd => h d (by simp [hd]))
    refine ⟨a ++ bs, ?_⟩
    show (lay (shL (c.toNat : Int)) (vaL (c.toNat : Int) o)).bind (fun a => (pack (shS l) (vals o l)).map (a ++ ·)) = _
    rw [ha, hb]; rfl
theorem mayO_parts {o : Op0} (h : mayO o = true) : (∀ c ∈ nm o.k, wIn (c.toNat : Int) o = true) ∧ 1 ≤ o.k ∧ o.k ≤ 9 := by
  unfold mayO at h
  simp only [Bool.and_eq_true, decide_eq_true_eq, List.all_eq_true] at h
  exact ⟨h.1.1, h.1.2.1, h.1.2.2⟩
/-- An operation that may be has bytes. -/
theorem packO_some {o : Op0} (h : mayO o = true) : ∃ bs, packO o = some bs ∧ pack (49 :: shS (nm o.k)) (num (toU o.k) :: vals o (nm o.k)) = some bs := by
  obtain ⟨h1, h2, h3⟩ := mayO_parts h
  obtain ⟨bs, hb⟩ := pack_all o (nm o.k) (fun c hc => lay_six o c (nm_six o.k c hc) (h1 c hc))
  have hk := toU_of (n := o.k) (by omega) (by omega)
  have hl : lay 49 (num (toU o.k)) = some (low (toU o.k) 1) := by
    have h4 : isNum 49 = true ∧ toU o.k < 256 ^ wid 49 := ⟨rfl, by rw [show wid 49 = 1 from rfl]; omega⟩
    exact if_pos h4
  have hp : pack (49 :: shS (nm o.k)) (num (toU o.k) :: vals o (nm o.k)) = some (low (toU o.k) 1 ++ bs) := by
    show (lay 49 (num (toU o.k))).bind (fun a => (pack (shS (nm o.k)) (vals o (nm o.k))).map (a ++ ·)) = _
    rw [hl, hb]; rfl
  exact ⟨_, by unfold packO; rw [if_pos h]; exact hp, hp⟩
theorem packO_none {o : Op0} (h : mayO o = false) : packO o = none := by unfold packO; rw [h]; rfl
theorem mayO_len {o : Op0} (h : mayO o = true) (hn : o.data.length ≤ 2048) : o.data.length ≤ 3000 := by omega
end Go.Proofs.Ytgkelbdgdhkeoaa
