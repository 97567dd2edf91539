/- What was packed is unpacked as it was; of fewer bytes nothing: plain Lean. -/
import Derived.Test.YtgkelbdgdhkeoaaJoin0
import Derived.Test.YtgkelbdgdhkeoaaAll
namespace Go.Proofs.Ytgkelbdgdhkeoaa.Wire
set_option linter.unusedVariables false
set_option linter.unusedSimpArgs false

theorem wid_num {c : UInt8} (h : isNum c = true) : 1 ≤ wid c ∧ wid c ≤ 8 := by
  simp only [isNum, Bool.or_eq_true, beq_iff_eq] at h
  rcases h with ((rfl | rfl) | rfl) | rfl <;> decide

theorem lift_lay {c : UInt8} {v : V} {a : List UInt8} (hx : v.x.length = 256) (h : lay c v = some a) (r : List UInt8) : wid c ≠ 0 ∧ ∃ v', lift c (a ++ r) = some (v', a.length) ∧ SameV v' v := by
  unfold lay at h
  split at h
  · rename_i hv
    split at h
    · rename_i hc
      obtain rfl := Option.some.inj h
      have hw := wid_num hc.1
      have h63 : c ≠ 63 := by rintro rfl; cases hc.1
      have h42 : c ≠ 42 := by rintro rfl; cases hc.1
      have h35 : c ≠ 35 := by rintro rfl; cases hc.1
      refine ⟨by omega, num v.n, ?_, hv.symm, .inl ⟨rfl, rfl⟩⟩
      unfold lift
      rw [if_neg (by rw [List.length_append, low_len]; omega), if_neg h63, if_neg h42, if_neg h35, List.take_left' (low_len _ _), sum_low _ _ hc.2, low_len]
    · cases h
  split at h
  · rename_i hv
    split at h
    · rename_i hc
      subst hc
      obtain rfl := Option.some.inj h
      refine ⟨by decide, flag v.yes, ?_, hv.symm, .inr (.inl ⟨rfl, rfl⟩)⟩
      unfold lift
      rw [if_neg (by rw [show wid 63 = 1 from rfl]; simp), if_pos rfl]
      cases v.yes <;> rfl
    · cases h
  split at h
  · rename_i hv
    split at h
    · rename_i hc
      obtain ⟨rfl, hl⟩ := hc
      obtain rfl := Option.some.inj h
      refine ⟨by decide, blob v.b, ?_, hv.symm, .inr (.inr (.inl ⟨rfl, rfl⟩))⟩
      have h4 : (low v.b.length 4).length = 4 := low_len _ _
      have hs : sum ((low v.b.length 4 ++ v.b ++ r).take 4) = v.b.length := by
        rw [List.append_assoc, List.take_left' h4]
        exact sum_low 4 _ (Nat.lt_of_le_of_lt hl (by decide))
      unfold lift
      rw [if_neg (by rw [show wid 42 = 4 from rfl, List.length_append, List.length_append, h4]; omega), if_neg (by decide), if_pos rfl, hs]
      rw [if_neg (by rw [List.length_append, List.length_append, h4]; omega)]
      rw [List.append_assoc, List.drop_left' h4, List.take_left' rfl, List.length_append, h4]
    · cases h
  split at h
  · rename_i hv
    split at h
    · rename_i hc
      subst hc
      obtain rfl := Option.some.inj h
      refine ⟨by decide, blk v.x, ?_, hv.symm, .inr (.inr (.inr ⟨rfl, rfl⟩))⟩
      unfold lift
      rw [if_neg (by rw [show wid 35 = 256 from rfl, List.length_append, hx]; omega), if_neg (by decide), if_neg (by decide), if_pos rfl, List.take_left' hx, hx]
    · cases h
  · cases h

theorem lift_short {c : UInt8} {v : V} {a : List UInt8} (hx : v.x.length = 256) (h : lay c v = some a) {m : Nat} (hm : m < a.length) : lift c (a.take m) = none := by
  have hl : (a.take m).length = m := by rw [List.length_take]; omega
  unfold lay at h
  split at h
  · split at h
    · obtain rfl := Option.some.inj h
      rw [low_len] at hm
      unfold lift
      rw [if_pos (by omega)]
    · cases h
  split at h
  · split at h
    · rename_i hc
      subst hc
      obtain rfl := Option.some.inj h
      obtain rfl : m = 0 := by simpa using hm
      rfl
    · cases h
  split at h
  · split at h
    · rename_i hc
      obtain ⟨rfl, hlen⟩ := hc
      obtain rfl := Option.some.inj h
      have h4 : (low v.b.length 4).length = 4 := low_len _ _
      rw [List.length_append, h4] at hm
      unfold lift
      rw [hl]
      by_cases h44 : m < 4
      · rw [if_pos (show m < wid 42 from h44)]
      · have hs : sum (((low v.b.length 4 ++ v.b).take m).take 4) = v.b.length := by
          rw [List.take_take, Nat.min_eq_left (by omega), List.take_left' h4]
          exact sum_low 4 _ (Nat.lt_of_le_of_lt hlen (by decide))
        rw [if_neg (by rw [show wid 42 = 4 from rfl]; exact h44), if_neg (by decide), if_pos rfl, hs, if_pos (by omega)]
    · cases h
  split at h
  · split at h
    · rename_i hc
      subst hc
      obtain rfl := Option.some.inj h
      unfold lift
      rw [if_pos (by rw [hl, show wid 35 = 256 from rfl]; omega)]
    · cases h
  · cases h

def SameVs (l' l : List V) : Prop := l'.length = l.length ∧ ∀ (j : Nat) (x y : V), l'[j]? = some x → l[j]? = some y → SameV x y
theorem SameVs.cons {x y : V} {l' l : List V} (h : SameV x y) (hs : SameVs l' l) : SameVs (x :: l') (y :: l) := by
  refine ⟨by simp [hs.1], fun j a b ha hb => ?_⟩
  cases j with
  | zero => simp at ha hb; subst ha; subst hb; exact h
  | succ j => exact hs.2 j a b (by simpa using ha) (by simpa using hb)

theorem unpack_pack (s : List UInt8) : ∀ (l : List V) (bs : List UInt8), (∀ v ∈ l, v.x.length = 256) → pack s l = some bs → ∀ r, may s = true ∧ ∃ l', unpack s (bs ++ r) = some (l', bs.length) ∧ SameVs l' l := by
  induction s with
  | nil =>
    intro l bs hx h r
    cases l with
    | nil =>
      obtain rfl := Option.some.inj h
      exact ⟨rfl, [], rfl, rfl, fun j x y hj => by simp at hj⟩
    | cons v l => simp [pack] at h
  | cons c s ih =>
    intro l bs hx h r
    cases l with
    | nil => simp [pack] at h
    | cons v l =>
      rw [pack] at h
      cases ha : lay c v with
      | none => rw [ha] at h; cases h
      | some a =>
        rw [ha, Option.bind_some] at h
        cases hp : pack s l with
        | none => rw [hp] at h; cases h
        | some bs' =>
          rw [hp] at h
          obtain rfl := Option.some.inj h
          obtain ⟨hc, v', hl, hsv⟩ := lift_lay (hx v (by simp)) ha (bs' ++ r)
          obtain ⟨hm, l', hu, hss⟩ := ih l bs' (fun u hu => hx u (by simp [hu])) hp r
          refine ⟨by rw [may_cons, hm]; simpa using hc, v' :: l', ?_, hss.cons hsv⟩
          rw [unpack, List.append_assoc, hl, Option.bind_some]
          simp only [List.drop_left, hu, Option.map_some, List.length_append]

theorem unpack_short (s : List UInt8) : ∀ (l : List V) (bs : List UInt8), (∀ v ∈ l, v.x.length = 256) → pack s l = some bs → ∀ m, m < bs.length → unpack s (bs.take m) = none := by
  induction s with
  | nil =>
    intro l bs hx h m hm
    cases l with
    | nil => obtain rfl := Option.some.inj h; simp at hm
    | cons v l => simp [pack] at h
  | cons c s ih =>
    intro l bs hx h m hm
    cases l with
    | nil => simp [pack] at h
    | cons v l =>
      rw [pack] at h
      cases ha : lay c v with
      | none => rw [ha] at h; cases h
      | some a =>
        rw [ha, Option.bind_some] at h
        cases hp : pack s l with
        | none => rw [hp] at h; cases h
        | some bs' =>
          rw [hp] at h
          obtain rfl := Option.some.inj h
          rw [unpack]
          rcases Nat.lt_or_ge m a.length with h1 | h1
          · rw [List.take_append_of_le_length (by omega), lift_short (hx v (by simp)) ha h1]; rfl
          · obtain ⟨hc, v', hl, hsv⟩ := lift_lay (hx v (by simp)) ha (bs'.take (m - a.length))
            have hta : (a ++ bs').take m = a ++ bs'.take (m - a.length) := by
              rw [List.take_append, List.take_of_length_le h1]
            rw [List.length_append] at hm
            rw [hta, hl, Option.bind_some]
            simp only [List.drop_left, ih l bs' (fun u hu => hx u (by simp [hu])) hp _ (show m - a.length < bs'.length by omega), Option.map_none]
theorem pack_len (s : List UInt8) : ∀ (l : List V) (bs : List UInt8) (L : Nat), (∀ v ∈ l, v.x.length = 256 ∧ v.b.length ≤ L) → pack s l = some bs → bs.length ≤ s.length * (L + 260) := by
  induction s with
  | nil =>
    intro l bs L hx h
    cases l with
    | nil => obtain rfl := Option.some.inj h; simp
    | cons v l => simp [pack] at h
  | cons c s ih =>
    intro l bs L hx h
    cases l with
    | nil => simp [pack] at h
    | cons v l =>
      rw [pack] at h
      cases ha : lay c v with
      | none => rw [ha] at h; cases h
      | some a =>
        rw [ha, Option.bind_some] at h
        cases hp : pack s l with
        | none => rw [hp] at h; cases h
        | some bs' =>
          rw [hp] at h
          obtain rfl := Option.some.inj h
          have h1 := lay_len ha (fun _ => (hx v (by simp)).1)
          have h2 := ih l bs' L (fun u hu => hx u (by simp [hu])) hp
          have h3 := (hx v (by simp)).2
          rw [List.length_append, List.length_cons, Nat.add_mul]
          omega
end Go.Proofs.Ytgkelbdgdhkeoaa.Wire
