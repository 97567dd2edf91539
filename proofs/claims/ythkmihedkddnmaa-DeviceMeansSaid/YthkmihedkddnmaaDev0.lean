/- Devices: lists by rising numbers, and maps that read as such; plainly. -/
import Derived.Maps.Own
import Derived.Maps.OwnSet
namespace Go.Proofs.Ythkmihedkddnmaa
open Go.RowKit
set_option linter.unusedVariables false
set_option linter.unusedSimpArgs false

section
variable {α : Type} {H : Type}

def insA (x : Nat × α) : List (Nat × α) → List (Nat × α)
  | [] => [x]
  | y :: r => if x.1 < y.1 then x :: y :: r else y :: insA x r
/-- Without the entry of k. -/
def delA (k : Nat) (l : List (Nat × α)) : List (Nat × α) := l.filter fun p => !(p.1 == k)
/-- With a at k. -/
def putA (k : Nat) (a : α) (l : List (Nat × α)) : List (Nat × α) := insA (k, a) (delA k l)
/-- What is at k. -/
def getA (k : Nat) (l : List (Nat × α)) : Option α := (l.find? fun p => p.1 == k).map (·.2)
/-- The numbers rise. -/
def Ris (l : List (Nat × α)) : Prop := l.Pairwise fun p q => p.1 < q.1

theorem mem_insA {x y : Nat × α} : ∀ {l : List (Nat × α)}, y ∈ insA x l ↔ y = x ∨ y ∈ l
  | [] => by simp [insA]
  | z :: r => by
    unfold insA
    split
    · simp
    · rw [List.mem_cons, mem_insA, List.mem_cons]
      constructor
      · rintro (h | h | h)
        · exact .inr (.inl h)
        · exact .inl h
        · exact .inr (.inr h)
      · rintro (h | h | h)
        · exact .inr (.inl h)
        · exact .inl h
        · exact .inr (.inr h)
theorem ris_insA {x : Nat × α} : ∀ {l : List (Nat × α)}, Ris l → (∀ y ∈ l, y.1 ≠ x.1) → Ris (insA x l)
  | [], _, _ => by simp [insA, Ris]
  | z :: r, h, hn => by
    obtain ⟨h1, h2⟩ := List.pairwise_cons.1 h
    unfold insA
    split
    · rename_i hlt
      refine List.pairwise_cons.2 ⟨fun y hy => ?_, h⟩
      rcases List.mem_cons.1 hy with rfl | hy
      · exact hlt
      · exact Nat.lt_trans hlt (h1 y hy)
    · rename_i hlt
      have := hn z (List.mem_cons_self ..)
      refine List.pairwise_cons.2 ⟨fun y hy => ?_, ris_insA h2 (fun y hy => hn y (List.mem_cons_of_mem _ hy))⟩
      rcases mem_insA.1 hy with rfl | hy
      · omega
      · exact h1 y hy
theorem ris_filter {l : List (Nat × α)} (h : Ris l) (f : Nat × α → Bool) : Ris (l.filter f) := List.Pairwise.filter f h
theorem ris_delA {l : List (Nat × α)} (h : Ris l) (k : Nat) : Ris (delA k l) := ris_filter h _
theorem delA_ne {l : List (Nat × α)} {k : Nat} : ∀ y ∈ delA k l, y.1 ≠ k := by
  intro y hy
  have := (List.mem_filter.1 hy).2
  simpa using this
theorem ris_putA {l : List (Nat × α)} (h : Ris l) (k : Nat) (a : α) : Ris (putA k a l) := ris_insA (ris_delA h k) delA_ne
theorem delA_len (k : Nat) (l : List (Nat × α)) : (delA k l).length ≤ l.length := List.length_filter_le _ _
theorem insA_len (x : Nat × α) : ∀ l : List (Nat × α), (insA x l).length = l.length + 1
  | [] => rfl
  | y :: r => by
    unfold insA
    split
    · rfl
    · simp only [List.length_cons, insA_len x r]
theorem putA_len (k : Nat) (a : α) (l : List (Nat × α)) : (putA k a l).length ≤ l.length + 1 := by
  unfold putA
  rw [insA_len]
  exact Nat.succ_le_succ (delA_len k l)
theorem mem_putA {y : Nat × α} {k : Nat} {a : α} {l : List (Nat × α)} (h : y ∈ putA k a l) : y = (k, a) ∨ y ∈ l := by
  rcases mem_insA.1 h with h | h
  · exact .inl h
  · exact .inr (List.mem_filter.1 h).1
theorem getA_none {k : Nat} {l : List (Nat × α)} (h : getA k l = none) : ∀ y ∈ l, y.1 ≠ k := by
  intro y hy he
  unfold getA at h
  rw [Option.map_eq_none_iff, List.find?_eq_none] at h
  exact h y hy (by simpa using he)
theorem getA_some {k : Nat} {l : List (Nat × α)} {a : α} (h : getA k l = some a) : (k, a) ∈ l := by
  unfold getA at h
  obtain ⟨p, hp, rfl⟩ := Option.map_eq_some_iff.1 h
  have h1 := List.mem_of_find?_eq_some hp
  have h2 := List.find?_some hp
  have : p.1 = k := by simpa using h2
  subst this
  exact h1
theorem delA_none {k : Nat} {l : List (Nat × α)} (h : getA k l = none) : delA k l = l := by
  unfold delA
  rw [List.filter_eq_self]
  intro y hy
  have := getA_none h y hy
  simpa using this
/-- In a rising list an entry is where it is found. -/
theorem getA_at {l : List (Nat × α)} (h : Ris l) {i : Nat} {p : Nat × α} (hp : l[i]? = some p) : getA p.1 l = some p.2 := by
  induction l generalizing i with
  | nil => simp at hp
  | cons y r ih =>
    obtain ⟨h1, h2⟩ := List.pairwise_cons.1 h
    cases i with
    | zero =>
      obtain rfl : y = p := by simpa using hp
      simp [getA]
    | succ i =>
      have hp' : r[i]? = some p := by simpa using hp
      have := h1 p (List.mem_of_getElem? hp')
      have e : (y.1 == p.1) = false := by rw [beq_eq_false_iff_ne]; omega
      have := ih h2 hp'
      unfold getA at this ⊢
      rw [List.find?_cons, e]
      exact this

/-- How such a list reads as a map. -/
def encA (q : IntKind) (f : α → DataW H) (l : List (Nat × α)) : List (Lit × DataW H) := l.map fun p => (.int q (p.1 : Int), f p.2)
def encM (q : IntKind) (f : α → DataW H) (l : List (Nat × α)) : DataW H := .map (encA q f l)
theorem same_enc (q : IntKind) (a b : Nat) : (Lit.int q (a : Int)).sameKey (.int q (b : Int)) = (a == b) := by
  simp only [Lit.sameKey, true_and]
  rw [Bool.eq_iff_iff, decide_eq_true_eq, beq_iff_eq]
  omega
theorem encA_filter (q : IntKind) (f : α → DataW H) (k : Nat) (l : List (Nat × α)) : (encA q f l).filter (fun p => !p.1.sameKey (.int q (k : Int))) = encA q f (delA k l) := by
  unfold encA delA
  rw [List.filter_map]
  congr 1
  refine List.filter_congr fun p _ => ?_
  simp only [Function.comp, same_enc]
theorem encA_insert (q : IntKind) (f : α → DataW H) (k : Nat) (a : α) : ∀ l : List (Nat × α), DataW.insert (.int q (k : Int), f a) (encA q f l) = encA q f (insA (k, a) l)
  | [] => rfl
  | y :: r => by
    have ih := encA_insert q f k a r
    unfold encA at ih ⊢
    simp only [List.map_cons, DataW.insert, insA, Lit.before, decide_eq_true_eq]
    by_cases h : k < y.1
    · rw [if_pos (by omega), if_pos h]
      rfl
    · rw [if_neg (by omega), if_neg h]
      simp only [List.map_cons, ih]
theorem put_enc (q : IntKind) (f : α → DataW H) (k : Nat) (a : α) (l : List (Nat × α)) : (encM q f l).put (.int q (k : Int)) (f a) = encM q f (putA k a l) := by
  show DataW.map (DataW.insert _ (List.filter _ _)) = _
  rw [encA_filter, encA_insert]
  rfl
theorem del_enc (q : IntKind) (f : α → DataW H) (k : Nat) (l : List (Nat × α)) : (encM q f l).del (.int q (k : Int)) = encM q f (delA k l) := by
  show DataW.map (List.filter _ _) = _
  rw [encA_filter]
  rfl
theorem find_enc (q : IntKind) (f : α → DataW H) (k : Nat) : ∀ l : List (Nat × α), (encA q f l).find? (fun p => p.1.sameKey (.int q (k : Int))) = (l.find? fun p => p.1 == k).map fun p => (.int q (p.1 : Int), f p.2)
  | [] => rfl
  | y :: r => by
    have ih := find_enc q f k r
    unfold encA at ih ⊢
    rw [List.map_cons, List.find?_cons, List.find?_cons, same_enc, ih]
    cases (y.1 == k) <;> rfl
theorem at_enc (q : IntKind) (f : α → DataW H) (k : Nat) (l : List (Nat × α)) (z : DataW H) : (encM q f l).atKey (.int q (k : Int)) z = match getA k l with | some a => f a | none => z := by
  show (match (encA q f l).find? _ with | some p => p.2 | none => z) = _
  rw [find_enc]
  unfold getA
  cases l.find? (fun p => p.1 == k) <;> rfl
theorem has_enc (q : IntKind) (f : α → DataW H) (k : Nat) (l : List (Nat × α)) : Maps.has (encM q f l) (.int q (k : Int)) = (getA k l).isSome := by
  show (encA q f l).any _ = _
  unfold getA
  rw [Option.isSome_map]
  induction l with
  | nil => rfl
  | cons y r ih =>
    unfold encA at ih ⊢
    rw [List.map_cons, List.any_cons, List.find?_cons, same_enc, ih]
    cases (y.1 == k) <;> simp
theorem size_enc (q : IntKind) (f : α → DataW H) (l : List (Nat × α)) : Maps.size (encM q f l) = l.length := by
  show (encA q f l).length = _
  simp [encA]
end
end Go.Proofs.Ythkmihedkddnmaa
