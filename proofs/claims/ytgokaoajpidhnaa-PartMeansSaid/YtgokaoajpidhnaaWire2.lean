/- wire.May, wire.Least, and the reference's size, May, Least, walked. -/
import Derived.Test.YtgokaoajpidhnaaWire1
namespace Go.Proofs.Ytgokaoajpidhnaa
open Go.RowKit
set_option linter.unusedVariables false
open Wire

theorem IndexF_any (s : ByteArray) (w : World) (hs : s.size ≤ 1000000) : Calls Try.prog 95 #[.string s, .func (.func 89) #[] #[]] w (IdxP s w) := by
  have C := indexF_any s w hs
  go_enter Try.func95, Try.ntmps95
  go_wp2_with fail
  refine C.mono ?_
  rintro e w1 ⟨n, rfl, hb, h1, h2⟩
  have HP : Hid (IdxP s w (.returned (.int .i64 n)) w1) := Lib.hid ⟨n, rfl, hb, h1, h2⟩
  clear hb h1 h2 C
  go_wp2_with fail
  go_ret
  exact HP.out

theorem ContF_any (s : ByteArray) (w : World) (hs : s.size ≤ 1000000) : Calls Try.prog 88 #[.string s, .func (.func 89) #[] #[]] w fun e w' => e = .returned (.bool (!may (chs s))) ∧ Below w.heap.size w w' := by
  have C := IndexF_any s w hs
  cases hm : may (chs s) with
  | true =>
    have HM := Lib.hid hm
    clear hm
    go_enter Try.func88, Try.ntmps88
    go_wp2_with fail
    refine C.mono ?_
    rintro e w1 ⟨n, rfl, hb, h1, h2⟩
    have hn := h1 HM.out
    subst hn
    have HB := Lib.hid hb
    clear hb h1 h2 C
    go_wp2_with fail
    go_ret
    exact ⟨rfl, HB.out⟩
  | false =>
    have HM := Lib.hid hm
    clear hm
    go_enter Try.func88, Try.ntmps88
    go_wp2_with fail
    refine C.mono ?_
    rintro e w1 ⟨n, rfl, hb, h1, h2⟩
    have hn := h2 HM.out
    have HB := Lib.hid hb
    clear hb h1 h2 C
    go_wp2_with fail
    go_ret
    exact ⟨rfl, HB.out⟩

theorem may_any (s : ByteArray) (w : World) (hs : s.size ≤ 1000000) : Calls Try.prog 62 #[.string s] w fun e w' => e = .returned (.bool (may (chs s))) ∧ Below w.heap.size w w' := by
  have C := ContF_any s w hs
  generalize may (chs s) = m at C ⊢
  cases m
  all_goals
    go_enter Try.func62, Try.ntmps62
    go_wp2_with fail
    refine (C).mono ?_
    rintro e w1 ⟨rfl, hb⟩
    have HB := Lib.hid hb
    clear hb
    go_wp2_with fail
    go_ret
    exact ⟨rfl, HB.out⟩

set_option maxRecDepth 100000 in
set_option maxHeartbeats 1600000 in
theorem least_any (s : ByteArray) (w : World) (hs : s.size ≤ 1000000) : Calls Try.prog 61 #[.string s] w fun e w' => e = .returned (.int .i64 (least (chs s) : Int)) ∧ Below w.heap.size w w' := by
  have C := may_any s w hs
  unfold least
  cases hm : may (chs s) with
  | false =>
    rw [hm] at C
    clear hm
    go_enter Try.func61, Try.ntmps61
    go_wp2_with fail
    refine (C).mono ?_
    rintro e w1 ⟨rfl, hb⟩
    have HB := Lib.hid hb
    clear hb
    go_wp2_with fail
    go_ret
    exact ⟨rfl, HB.out⟩
  | true =>
    rw [hm] at C
    have HM := Lib.hid hm
    clear hm
    go_enter Try.func61, Try.ntmps61
    go_wp2_with fail
    refine (C).mono ?_
    rintro e w1 ⟨rfl, hb⟩
    obtain ⟨k, hk⟩ : ∃ k, w1.heap.size = k := ⟨_, rfl⟩
    have HI : Hid ((w1.iter s 0).heap[k]? = some (.stringIter s 0) ∧ Below k w1 (w1.iter s 0)) := Lib.hid ⟨hk ▸ World.iter_heap w1 s 0, hk ▸ (Below.refl _ _).alloc (Nat.le_refl _) _⟩
    have HB := Lib.hid hb
    clear hb C
    go_wp2_with fail
    generalize w1.iter s 0 = w0 at HI ⊢
    have HK := Lib.hid hk
    clear hk
    go_loopg [3, 11] s.size (fun g n u wr => ∃ pos : Nat, pos ≤ s.size ∧ g = s.size - pos ∧ wr.heap[k]? = some (.stringIter s pos) ∧ Below k w1 wr ∧ may ((chs s).drop pos) = true ∧ n = .int .i64 (sumW ((chs s).take pos) : Int))
    case atStart => exact ⟨0, by omega, by omega, HI.out.1, HI.out.2, HM.out, rfl⟩
    case round =>
      obtain ⟨pos, hp, hg, hh, hb, hm, rfl⟩ := hrel
      have HG := Lib.hid hg
      have HB2 := Lib.hid hb
      by_cases hlt : pos < s.size
      · have hd0 := may_drop hlt
        rw [hm] at hd0
        have hd := Bool.and_eq_true_iff.1 hd0.symm
        clear hd0
        have hw : wid (s[pos]'hlt) ≠ 0 := by have := hd.1; simpa using this
        have HD := Lib.hid hd.2
        have ha := wid_small hw
        have hnx := fun ty => Lib.run_next_ascii_at (P := Try.prog) wr k s pos ty hh hlt ha
        have C := width_any (((s[pos]'hlt).toNat : Nat) : Int) (wr.iterAt k s (pos + 1)) (by omega) (by omega)
        have HB3 := Lib.hid (Lib.below_iterAt hb (Nat.le_refl k) s (pos + 1))
        have HH3 := Lib.hid (Lib.iterAt_heap wr k s pos (pos + 1) hh)
        have hsum : sumW ((chs s).take (pos + 1)) = sumW ((chs s).take pos) + widI (((s[pos]'hlt).toNat : Nat) : Int) := by rw [chs_take hlt]; simp [sumW, wid]
        have HS := Lib.hid hsum
        have hle := sumW_le ((chs s).take pos)
        have hl2 : ((chs s).take pos).length ≤ pos := List.length_take_le _ _
        have hwl := widI_le (((s[pos]'hlt).toNat : Nat) : Int)
        clear hg hb hm hd hh hsum hw
        go_wp2_with fail
        refine C.mono ?_
        rintro e w2 ⟨rfl, rfl⟩
        go_wp2_with fail
        go_roundg (s.size - (pos + 1))
        case rel => exact ⟨pos + 1, by omega, rfl, HH3.out, HB3.out, HD.out, by rw [HS.out]; go_num⟩
        case measure => have := HG.out; omega
      · obtain rfl : pos = s.size := by omega
        have hnx := fun ty => Lib.run_next_end_at (P := Try.prog) wr k s s.size ty hh (by omega)
        clear hg hb hm
        go_wp2_with fail
        go_ret
        refine ⟨?_, bthen HB.out (by rw [HK.out]; exact HB2.out)⟩
        rw [List.take_of_length_le (by rw [chs_len]; exact Nat.le_refl _)]
        rfl

theorem byte_ne {c k : UInt8} (h : c ≠ k) : ((c.toNat : Int) == (k.toNat : Int)) = false ∧ ((c.toNat : Int) != (k.toNat : Int)) = true := by
  have h1 : (c.toNat : Int) ≠ (k.toNat : Int) := fun e => h (UInt8.toNat_inj.1 (by omega))
  exact ⟨beq_eq_false_iff_ne.2 h1, by rw [bne_iff_ne]; exact h1⟩

/-- The reference's size. -/
def szN (c : UInt8) : Nat := if isNum c then wid c else 0
theorem szN_le (c : UInt8) : szN c ≤ 256 := by unfold szN; split; exact widI_le _; omega

set_option maxRecDepth 100000 in
set_option maxHeartbeats 800000 in
theorem size_any (c : UInt8) (w : World) : Calls Try.prog 77 #[.int .u8 (c.toNat : Int)] w fun e w' => e = .returned (.int .i64 (szN c : Int)) ∧ w = w' := by
  by_cases h1 : c = 49
  · subst h1
    go_enter Try.func77, Try.ntmps77
    go_wp2
    go_ret
    exact ⟨rfl, rfl⟩
  by_cases h2 : c = 50
  · subst h2
    go_enter Try.func77, Try.ntmps77
    go_wp2
    go_ret
    exact ⟨rfl, rfl⟩
  by_cases h3 : c = 52
  · subst h3
    go_enter Try.func77, Try.ntmps77
    go_wp2
    go_ret
    exact ⟨rfl, rfl⟩
  by_cases h4 : c = 56
  · subst h4
    go_enter Try.func77, Try.ntmps77
    go_wp2
    go_ret
    exact ⟨rfl, rfl⟩
  have hz : szN c = 0 := by simp [szN, isNum, h1, h2, h3, h4]
  have n1 := (byte_ne h1).1
  have n2 := (byte_ne h2).1
  have n3 := (byte_ne h3).1
  have n4 := (byte_ne h4).1
  simp only [UInt8.reduceToNat] at n1 n2 n3 n4
  rw [hz]
  clear hz h1 h2 h3 h4
  go_enter Try.func77, Try.ntmps77
  go_wp2
  go_ret
  exact ⟨rfl, rfl⟩

theorem letter_cases (c : UInt8) : (wid c ≠ 0 ∧ szN c = wid c ∧ isNum c = true ∧ c ≠ 63 ∧ c ≠ 42 ∧ c ≠ 35) ∨ c = 63 ∨ c = 42 ∨ c = 35 ∨ (wid c = 0 ∧ szN c = 0 ∧ isNum c = false ∧ c ≠ 63 ∧ c ≠ 42 ∧ c ≠ 35) := by
  by_cases h1 : c = 49
  · subst h1; decide
  by_cases h2 : c = 50
  · subst h2; decide
  by_cases h3 : c = 52
  · subst h3; decide
  by_cases h4 : c = 56
  · subst h4; decide
  by_cases h5 : c = 63
  · exact .inr (.inl h5)
  by_cases h6 : c = 42
  · exact .inr (.inr (.inl h6))
  by_cases h7 : c = 35
  · exact .inr (.inr (.inr (.inl h7)))
  have ne : ∀ k : UInt8, c ≠ k → (c.toNat : Int) ≠ (k.toNat : Int) := fun k h e => h (UInt8.toNat_inj.1 (by omega))
  have q1 := ne _ h1
  have q2 := ne _ h2
  have q3 := ne _ h3
  have q4 := ne _ h4
  have q5 := ne _ h5
  have q6 := ne _ h6
  have q7 := ne _ h7
  have hn : isNum c = false := by simp [isNum, h1, h2, h3, h4]
  refine .inr (.inr (.inr (.inr ⟨?_, by simp [szN, hn], hn, h5, h6, h7⟩)))
  simp only [UInt8.reduceToNat] at q1 q2 q3 q4 q5 q6 q7
  unfold wid widI
  simp only [Int.cast_ofNat_Int] at q1 q2 q3 q4 q5 q6 q7
  rw [if_neg q1, if_neg q2, if_neg q3, if_neg q4, if_neg q5, if_neg q6, if_neg q7]
end Go.Proofs.Ytgokaoajpidhnaa
