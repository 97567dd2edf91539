/- wire.May, wire.Least, and the reference's size, May, Least, walked. -/
import Derived.Test.YtgkelbdgdhkeoaaWire1
namespace Go.Proofs.Ytgkelbdgdhkeoaa
open Go.RowKit
set_option linter.unusedVariables false
open Wire

theorem IndexF_any (s : ByteArray) (w : World) (hs : s.size ≤ 1000000) : Calls Try.prog 161 #[.string s, .func (.func 157) #[] #[]] w (IdxP s w) := by
  have C := indexF_any s w hs
  go_enter Try.func161, Try.ntmps161
  go_wp2_with fail
  refine C.mono ?_
  rintro e w1 ⟨n, rfl, hb, h1, h2⟩
  have HP : Hid (IdxP s w (.returned (.int .i64 n)) w1) := Lib.hid ⟨n, rfl, hb, h1, h2⟩
  clear hb h1 h2 C
  go_wp2_with fail
  go_ret
  exact HP.out

theorem ContF_any (s : ByteArray) (w : World) (hs : s.size ≤ 1000000) : Calls Try.prog 156 #[.string s, .func (.func 157) #[] #[]] w fun e w' => e = .returned (.bool (!may (chs s))) ∧ Below w.heap.size w w' := by
  have C := IndexF_any s w hs
  cases hm : may (chs s) with
  | true =>
    have HM := Lib.hid hm
    clear hm
    go_enter Try.func156, Try.ntmps156
    go_wp2_with fail
    refine C.mono ?_
    rintro e w1 ⟨n, rfl, hb, h1, h2⟩
    have hn := h1 HM.out
    subst hn
    have HB := Lib.hid hb
    clear hb h1 h2 C
    go_wp2_with fail
    go_ret
    exact ⟨rfl, HB.out⟩
  | false =>
    have HM := Lib.hid hm
    clear hm
    go_enter Try.func156, Try.ntmps156
    go_wp2_with fail
    refine C.mono ?_
    rintro e w1 ⟨n, rfl, hb, h1, h2⟩
    have hn := h2 HM.out
    have HB := Lib.hid hb
    clear hb h1 h2 C
    go_wp2_with fail
    go_ret
    exact ⟨rfl, HB.out⟩

theorem may_any (s : ByteArray) (w : World) (hs : s.size ≤ 1000000) : Calls Try.prog 134 #[.string s] w fun e w' => e = .returned (.bool (may (chs s))) ∧ Below w.heap.size w w' := by
  have C := ContF_any s w hs
  generalize may (chs s) = m at C ⊢
  cases m
  all_goals
    go_enter Try.func134, Try.ntmps134
    go_wp2_with fail
    refine (C).mono ?_
    rintro e w1 ⟨rfl, hb⟩
    have HB := Lib.hid hb
    clear hb
    go_wp2_with fail
    go_ret
    exact ⟨rfl, HB.out⟩

theorem byte_ne {c k : UInt8} (h : c ≠ k) : ((c.toNat : Int) == (k.toNat : Int)) = false ∧ ((c.toNat : Int) != (k.toNat : Int)) = true := by
  have h1 : (c.toNat : Int) ≠ (k.toNat : Int) := fun e => h (UInt8.toNat_inj.1 (by omega))
  exact ⟨beq_eq_false_iff_ne.2 h1, by rw [bne_iff_ne]; exact h1⟩

/-- The reference's size. -/
def szN (c : UInt8) : Nat := if isNum c then wid c else 0
theorem szN_le (c : UInt8) : szN c ≤ 256 := by unfold szN; split; exact widI_le _; omega

set_option maxRecDepth 100000 in
set_option maxHeartbeats 800000 in
theorem size_any (c : UInt8) (w : World) : Calls Try.prog 132 #[.int .u8 (c.toNat : Int)] w fun e w' => e = .returned (.int .i64 (szN c : Int)) ∧ w = w' := by
  by_cases h1 : c = 49
  · subst h1
    go_enter Try.func132, Try.ntmps132
    go_wp2
    go_ret
    exact ⟨rfl, rfl⟩
  by_cases h2 : c = 50
  · subst h2
    go_enter Try.func132, Try.ntmps132
    go_wp2
    go_ret
    exact ⟨rfl, rfl⟩
  by_cases h3 : c = 52
  · subst h3
    go_enter Try.func132, Try.ntmps132
    go_wp2
    go_ret
    exact ⟨rfl, rfl⟩
  by_cases h4 : c = 56
  · subst h4
    go_enter Try.func132, Try.ntmps132
    go_wp2
    go_ret
    exact ⟨rfl, rfl⟩
  have hz : szN c = 0 := by simp [szN, isNum, h1, h2, h3, h4]
  have n1 := (byte_ne h1).1
  have n2 := (byte_ne h2).1
  have n3 := (byte_ne h3).1
  have n4 := (byte_ne h4).1
  simp only [UInt8.reduceToNat] at n1 n2 n3 n4
  rw [hz]
  clear hz h1 h2 h3 h4
  go_enter Try.func132, Try.ntmps132
  go_wp2
  go_ret
  exact ⟨rfl, rfl⟩

theorem letter_cases (c : UInt8) : (wid c ≠ 0 ∧ szN c = wid c ∧ isNum c = true ∧ c ≠ 63 ∧ c ≠ 42 ∧ c ≠ 35) ∨ c = 63 ∨ c = 42 ∨ c = 35 ∨ (wid c = 0 ∧ szN c = 0 ∧ isNum c = false ∧ c ≠ 63 ∧ c ≠ 42 ∧ c ≠ 35) := by
  by_cases h1 : c = 49
  · subst h1; decide
  by_cases h2 : c = 50
  · subst h2; decide
  by_cases h3 : c = 52
  · subst h3; decide
  by_cases h4 : c = 56
  · subst h4; decide
  by_cases h5 : c = 63
  · exact .inr (.inl h5)
  by_cases h6 : c = 42
  · exact .inr (.inr (.inl h6))
  by_cases h7 : c = 35
  · exact .inr (.inr (.inr (.inl h7)))
  have ne : ∀ k : UInt8, c ≠ k → (c.toNat : Int) ≠ (k.toNat : Int) := fun k h e => h (UInt8.toNat_inj.1 (by omega))
  have q1 := ne _ h1
  have q2 := ne _ h2
  have q3 := ne _ h3
  have q4 := ne _ h4
  have q5 := ne _ h5
  have q6 := ne _ h6
  have q7 := ne _ h7
  have hn : isNum c = false := by simp [isNum, h1, h2, h3, h4]
  refine .inr (.inr (.inr (.inr ⟨?_, by simp [szN, hn], hn, h5, h6, h7⟩)))
  simp only [UInt8.reduceToNat] at q1 q2 q3 q4 q5 q6 q7
  unfold wid widI
  simp only [Int.cast_ofNat_Int] at q1 q2 q3 q4 q5 q6 q7
  rw [if_neg q1, if_neg q2, if_neg q3, if_neg q4, if_neg q5, if_neg q6, if_neg q7]
end Go.Proofs.Ytgkelbdgdhkeoaa
