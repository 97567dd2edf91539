/- Devices: what the reference's loops over such lists come to; plainly. -/
import Derived.Test.YthkmihedkddnmaaDev0
namespace Go.Proofs.Ythkmihedkddnmaa
open Go.RowKit
set_option linter.unusedVariables false
set_option linter.unusedSimpArgs false

section
variable {α : Type}

/-- One round of the reference's Set: what is collected, and whether it was put. -/
def setStep (n : Nat) (b : α) (s : List (Nat × α) × Bool) (y : Nat × α) : List (Nat × α) × Bool :=
  ((if s.2 = false ∧ n ≤ y.1 then s.1 ++ [(n, b)] else s.1) ++ (if y.1 = n then [] else [y]), s.2 || decide (n ≤ y.1))
def setK (n : Nat) (b : α) (l : List (Nat × α)) (i : Nat) : List (Nat × α) × Bool := (l.take i).foldl (setStep n b) ([], false)
theorem setK_zero (n : Nat) (b : α) (l : List (Nat × α)) : setK n b l 0 = ([], false) := rfl
theorem setK_succ {n : Nat} {b : α} {l : List (Nat × α)} {i : Nat} {y : Nat × α} (h : l[i]? = some y) : setK n b l (i + 1) = setStep n b (setK n b l i) y := by
  unfold setK
  rw [List.take_add_one, h, List.foldl_append]
  rfl
theorem set_rest (n : Nat) (b : α) : ∀ (l : List (Nat × α)) (acc : List (Nat × α)), l.foldl (setStep n b) (acc, true) = (acc ++ delA n l, true)
  | [], acc => by simp [delA]
  | y :: r, acc => by
    rw [List.foldl_cons]
    have e : setStep n b (acc, true) y = (acc ++ (if y.1 = n then [] else [y]), true) := by simp [setStep]
    rw [e, set_rest n b r]
    unfold delA
    rw [List.filter_cons]
    by_cases h : y.1 = n <;> simp [h]
theorem del_ris_lt {n : Nat} {l : List (Nat × α)} (h : ∀ y ∈ l, n < y.1) : delA n l = l := by
  unfold delA
  rw [List.filter_eq_self]
  intro y hy
  have := h y hy
  simp; omega
theorem insA_first (n : Nat) (b : α) {l : List (Nat × α)} (h : ∀ y ∈ l, n < y.1) : insA (n, b) l = (n, b) :: l := by
  cases l with
  | nil => rfl
  | cons y r => unfold insA; rw [if_pos (h y (List.mem_cons_self ..))]
theorem set_all (n : Nat) (b : α) : ∀ (l : List (Nat × α)) (acc : List (Nat × α)), Ris l →
    (if (l.foldl (setStep n b) (acc, false)).2 = true then (l.foldl (setStep n b) (acc, false)).1 else (l.foldl (setStep n b) (acc, false)).1 ++ [(n, b)]) = acc ++ putA n b l
  | [], acc, _ => by simp [putA, delA, insA]
  | y :: r, acc, h => by
    obtain ⟨h1, h2⟩ := List.pairwise_cons.1 h
    rw [List.foldl_cons]
    by_cases hle : n ≤ y.1
    · have e : setStep n b (acc, false) y = ((acc ++ [(n, b)]) ++ (if y.1 = n then [] else [y]), true) := by simp [setStep, hle]
      rw [e, set_rest]
      have hr : ∀ z ∈ r, n < z.1 := fun z hz => by have := h1 z hz; omega
      simp only [if_true]
      unfold putA
      by_cases he : y.1 = n
      · have e2 : delA n (y :: r) = r := by
          unfold delA
          rw [List.filter_cons]
          simp only [he, beq_self_eq_true, Bool.not_true, Bool.false_eq_true, if_false]
          exact del_ris_lt hr
        rw [e2, del_ris_lt hr, insA_first n b hr]
        simp [he]
      · have hlt : n < y.1 := by omega
        have hall : ∀ z ∈ y :: r, n < z.1 := fun z hz => by
          rcases List.mem_cons.1 hz with rfl | hz
          · exact hlt
          · exact hr z hz
        rw [del_ris_lt hall, del_ris_lt hr, insA_first n b hall]
        simp [he]
    · have e : setStep n b (acc, false) y = (acc ++ [y], false) := by
        have : y.1 ≠ n := by omega
        simp [setStep, hle, this]
      rw [e, set_all n b r (acc ++ [y]) h2]
      unfold putA
      have e2 : delA n (y :: r) = y :: delA n r := by
        unfold delA
        rw [List.filter_cons]
        have : (y.1 == n) = false := by rw [beq_eq_false_iff_ne]; omega
        simp [this]
      rw [e2]
      rw [show insA (n, b) (y :: delA n r) = y :: insA (n, b) (delA n r) from if_neg (by show ¬ n < y.1; omega)]
      simp
theorem setK_end {n : Nat} {b : α} {l : List (Nat × α)} (h : Ris l) : (if (setK n b l l.length).2 = true then (setK n b l l.length).1 else (setK n b l l.length).1 ++ [(n, b)]) = putA n b l := by
  have := set_all n b l [] h
  unfold setK
  rw [List.take_length]
  simpa using this
theorem setK_len (n : Nat) (b : α) (l : List (Nat × α)) : ∀ i, i ≤ l.length → (setK n b l i).1.length ≤ i + (if (setK n b l i).2 = true then 1 else 0)
  | 0, _ => by simp [setK_zero]
  | i + 1, hi => by
    obtain ⟨y, hy⟩ : ∃ y, l[i]? = some y := ⟨_, List.getElem?_eq_getElem (by omega)⟩
    have ih := setK_len n b l i (by omega)
    rw [setK_succ hy]
    generalize setK n b l i = s at ih
    obtain ⟨o, p⟩ := s
    dsimp only at ih
    unfold setStep
    cases p <;> by_cases h1 : n ≤ y.1 <;> by_cases h2 : y.1 = n <;> simp [h1, h2] at ih ⊢ <;> omega

/-- Where an entry is. -/
def findA (k : Nat) (l : List (Nat × α)) : Option Nat := l.findIdx? fun p => p.1 == k
theorem findA_some {k i : Nat} {l : List (Nat × α)} (h : findA k l = some i) : ∃ a, l[i]? = some (k, a) ∧ getA k l = some a := by
  unfold findA at h
  rw [List.findIdx?_eq_some_iff_getElem] at h
  obtain ⟨hlt, h1, h2⟩ := h
  have hk : l[i].1 = k := by simpa using h1
  refine ⟨l[i].2, ?_, ?_⟩
  · rw [List.getElem?_eq_getElem hlt, ← hk]
  · unfold getA
    have e : l.find? (fun p => p.1 == k) = some l[i] := by
      rw [List.find?_eq_some_iff_getElem]
      exact ⟨h1, i, hlt, rfl, fun j hj => by simpa using h2 j hj⟩
    rw [e]; rfl
theorem findA_none {k : Nat} {l : List (Nat × α)} (h : findA k l = none) : getA k l = none := by
  unfold findA at h
  rw [List.findIdx?_eq_none_iff] at h
  unfold getA
  rw [Option.map_eq_none_iff, List.find?_eq_none]
  intro y hy
  have := h y hy
  simpa using this
theorem findA_get (k : Nat) (l : List (Nat × α)) : (findA k l).isSome = (getA k l).isSome := by
  cases h : findA k l with
  | none => rw [findA_none h]; rfl
  | some i => obtain ⟨a, _, h2⟩ := findA_some h; rw [h2]; rfl
/-- The reference's way to strike one. -/
theorem take_drop_del {l : List (Nat × α)} (h : Ris l) {i : Nat} {y : Nat × α} (hi : l[i]? = some y) : l.take i ++ l.drop (i + 1) = delA y.1 l := by
  induction l generalizing i with
  | nil => simp at hi
  | cons z r ih =>
    obtain ⟨h1, h2⟩ := List.pairwise_cons.1 h
    cases i with
    | zero =>
      obtain rfl : z = y := by simpa using hi
      unfold delA
      rw [List.filter_cons]
      simp only [beq_self_eq_true, Bool.not_true, Bool.false_eq_true, if_false, List.take_zero, List.nil_append, Nat.zero_add, List.drop_succ_cons, List.drop_zero]
      exact (del_ris_lt h1).symm
    | succ i =>
      have hi' : r[i]? = some y := by simpa using hi
      have hlt := h1 y (List.mem_of_getElem? hi')
      have e : delA y.1 (z :: r) = z :: delA y.1 r := by
        unfold delA
        rw [List.filter_cons]
        have : (z.1 == y.1) = false := by rw [beq_eq_false_iff_ne]; omega
        simp [this]
      rw [e, ← ih h2 hi']
      simp
/-- The reference's way to add one: ahead of the first that is not below it. -/
theorem add_at {n : Nat} {b : α} : ∀ {l : List (Nat × α)} {i : Nat}, (∀ (j : Nat) (y : Nat × α), j < i → l[j]? = some y → y.1 < n) → (∀ y, l[i]? = some y → n ≤ y.1) → getA n l = none → i ≤ l.length → l.take i ++ (n, b) :: l.drop i = putA n b l
  | [], i, _, _, _, hi => by
    obtain rfl : i = 0 := by simpa using hi
    rfl
  | z :: r, 0, _, h2, h3, _ => by
    have hz := h2 z rfl
    have hne := getA_none h3 z (List.mem_cons_self ..)
    unfold putA
    rw [delA_none h3]
    unfold insA
    rw [if_pos (by show n < z.1; omega)]
    rfl
  | z :: r, i + 1, h1, h2, h3, hi => by
    have hz := h1 0 z (by omega) rfl
    have hr3 : getA n r = none := by
      unfold getA at h3 ⊢
      rw [List.find?_cons] at h3
      have e : (z.1 == n) = false := by rw [beq_eq_false_iff_ne]; omega
      rw [e] at h3
      exact h3
    have ih := add_at (n := n) (b := b) (l := r) (i := i) (fun j y hj hy => h1 (j + 1) y (by omega) (by simpa using hy)) (fun y hy => h2 y (by simpa using hy)) hr3 (by simpa using hi)
    unfold putA at ih ⊢
    rw [delA_none h3]
    rw [delA_none hr3] at ih
    unfold insA
    rw [if_neg (by show ¬ n < z.1; omega), ← ih]
    simp
/-- Those that are not from f on, ahead of t. -/
def dropA (f t : Int) (l : List (Nat × α)) : List (Nat × α) := l.filter fun p => decide ((p.1 : Int) < f) || decide (t ≤ (p.1 : Int))
theorem ris_dropA {l : List (Nat × α)} (h : Ris l) (f t : Int) : Ris (dropA f t l) := ris_filter h _
end
end Go.Proofs.Ythkmihedkddnmaa
