/- PartRows: the walk of the law. -/
import Derived.Deep.RegionHeld3
import Derived.Test.YtgokaoajpidhnaaPartOnceW
namespace Go.Proofs.Ytgokaoajpidhnaa
open Go.RowKit Go.Shelf
set_option linter.unusedVariables false

theorem partSplit_any (a c : Int) (hc0 : -9223372036854775808 ≤ c) (w : World) :
    Calls Try.prog 23 #[.int .i64 a, .int .i64 c] w fun e w' => ∃ v, e = .returned v ∧
      w'.ownsRow w.heap.size 28 3 v (pSpansI a c).length (spansCells (pSpansI a c)) ∧ Below w.heap.size w w' := by
  refine (callsIn_wide.1 (partSplit_in a c hc0 w)).mono ?_
  rintro e w' ⟨v, he, ho, hb⟩
  rw [pItemsI_spans] at ho
  have e1 : (pItemsI a c).length = (pSpansI a c).length := by rw [← pItemsI_spans, List.length_map]
  rw [e1] at ho
  exact ⟨v, he, ho, hb⟩

theorem blocks_any (a c : Int) (hc0 : -9223372036854775808 ≤ c) (w : World) :
    Calls Try.prog 25 #[.int .i64 a, .int .i64 c] w fun e w' => e = .returned (.int .i64 (pSpansI a c).length) ∧ Below w.heap.size w w' := by
  have e1 : (pItemsI a c).length = (pSpansI a c).length := by rw [← pItemsI_spans, List.length_map]
  rw [← e1]
  exact callsIn_wide.1 (blocks_in a c hc0 w)

theorem pSpansI_len_le (a c : Int) : (pSpansI a c).length ≤ 1073741824 := by
  rw [← pItemsI_spans, List.length_map]; exact pItemsI_len_le a c

theorem once_any (a c most : Int) (hc0 : -9223372036854775808 ≤ c) (v : Value) (w : World) (hv : Rd w 3 v (pSpansI a c).length (spansCells (pSpansI a c))) :
    Calls Try.prog 24 #[.int .i64 a, .int .i64 c, v, .int .i64 most] w fun e w' => e = .returned (.bool true) ∧ Below w.heap.size w w' :=
  callsIn_wide.1 (once_in a c most hc0 v (pSpansI a c) (pSpansI_bound a c) (pSpansI_len_le a c) (goodItems_I a c) (by rw [← pItemsI_spans, List.length_map]) w hv)

theorem sameSpans_true (u v : Value) (n m : Nat) (xs : List PSpan) (w : World) (hu : Rd w 3 u n (spansCells xs)) (hv : Rd w 3 v m (spansCells xs)) :
    Calls Try.prog 22 #[u, v] w fun e w' => e = .returned (.bool true) ∧ Below w.heap.size w w' := by
  refine (sameSpans_any u v n m xs xs w hu hv).mono ?_
  rintro e w' ⟨he, hb⟩
  exact ⟨by simpa using he, hb⟩

set_option maxRecDepth 100000 in
set_option maxHeartbeats 400000 in
theorem refPart_all (a c : Int) (w : World) (hc0 : -9223372036854775808 ≤ c) (h2 : pOk a c = true → c ≤ 5000) :
    Calls Try.prog 21 #[.int .i64 a, .int .i64 c] w fun e w' => ∃ v, e = .returned v ∧
      w'.ownsRow w.heap.size 28 3 v (pSpansI a c).length (spansCells (pSpansI a c)) ∧ Below w.heap.size w w' := by
  by_cases ho : pOk a c = true
  · have hb := ho
    have hc5 := h2 ho
    simp only [pOk, Bool.and_eq_true, decide_eq_true_eq] at hb
    obtain ⟨a', rfl⟩ := Int.eq_ofNat_of_zero_le hb.1.1.1
    obtain ⟨c', rfl⟩ := Int.eq_ofNat_of_zero_le (show 0 ≤ c by omega)
    simp only [pSpansI, ho, if_true, Int.toNat_natCast, pSpans_len]
    exact refPart_any a' c' w (by omega) (by omega) (by omega)
  · have ho' : pOk a c = false := by simpa using ho
    have hn : pSpansI a c = [] := by simp [pSpansI, ho']
    rw [hn]
    clear hn h2 ho
    simp only [pOk, Bool.and_eq_false_iff, decide_eq_false_iff_not] at ho'
    by_cases h1 : a < 0
    · clear ho'
      go_enter Try.func21, Try.ntmps21
      go_wp2
      go_ret
      exact ⟨_, rfl, World.ownsRow_nil _ _ _ _, Below.refl _ _⟩
    · by_cases h2 : c < 1
      · clear ho'
        go_enter Try.func21, Try.ntmps21
        go_wp2
        go_ret
        exact ⟨_, rfl, World.ownsRow_nil _ _ _ _, Below.refl _ _⟩
      · by_cases h3 : 1073741824 < c
        · clear ho'
          go_enter Try.func21, Try.ntmps21
          go_wp2
          go_ret
          exact ⟨_, rfl, World.ownsRow_nil _ _ _ _, Below.refl _ _⟩
        · have h4 : 1073741824 - c < a := by omega
          clear ho'
          go_enter Try.func21, Try.ntmps21
          go_wp2
          go_ret
          exact ⟨_, rfl, World.ownsRow_nil _ _ _ _, Below.refl _ _⟩

set_option maxRecDepth 100000 in
set_option maxHeartbeats 400000 in
theorem whole_any (b f t : Int) (w : World) : Calls Try.prog 26 #[.agg #[.int .i64 b, .int .i64 f, .int .i64 t]] w fun e w' => e = .returned (.bool (f == 0 && t == 4)) ∧ Below w.heap.size w w' := by
  by_cases h0 : f = 0
  · subst h0
    by_cases h1 : t = 4
    · subst h1
      go_enter Try.func26, Try.ntmps26
      go_wp2
      go_ret
      exact ⟨rfl, balloc (Below.refl _ _) _⟩
    · have h1' : (t == 4) = false := by simpa using h1
      go_enter Try.func26, Try.ntmps26
      go_wp2
      go_ret
      exact ⟨by simp [h1'], balloc (Below.refl _ _) _⟩
  · have h0' : (f == 0) = false := by simpa using h0
    go_enter Try.func26, Try.ntmps26
    go_wp2
    go_ret
    exact ⟨by simp [h0'], balloc (Below.refl _ _) _⟩

set_option maxRecDepth 100000 in
set_option maxHeartbeats 400000 in
theorem known12 (w : World) : Calls Try.prog 20 #[] w fun e w' => e = .returned (.bool true) ∧ Below w.heap.size w w' := by
  go_enter Try.func20, Try.ntmps20
  go_wp2_with fail
  refine (partSplit_any 3 6 (by omega) _).mono ?_
  rintro e w1 ⟨v1, rfl, ho1, hb1⟩
  have hsp : pSpansI 3 6 = [⟨0, 3, 4⟩, ⟨1, 0, 4⟩, ⟨2, 0, 1⟩] := by decide
  rw [hsp] at ho1
  have hr1 := Rd.of_own (ho1.alloc (.cells #[.int .i64 0, .int .i64 3, .int .i64 4, .int .i64 1, .int .i64 0, .int .i64 4, .int .i64 2, .int .i64 0, .int .i64 1] 28))
  have hl1 := Rd.of_own (World.ownsRow_lit (base := 0) (e := 28) (size := 3) w1 #[.int .i64 0, .int .i64 3, .int .i64 4, .int .i64 1, .int .i64 0, .int .i64 4, .int .i64 2, .int .i64 0, .int .i64 1] 3 (Nat.zero_le _) (by decide) rfl)
  go_wp2_with fail
  refine (sameSpans_true _ _ _ _ _ _ hr1 hl1).mono ?_
  rintro e w2 ⟨rfl, hb2⟩
  go_wp2_with fail
  go_ret
  exact ⟨rfl, bthen (balloc hb1 _) hb2⟩
end Go.Proofs.Ytgokaoajpidhnaa
