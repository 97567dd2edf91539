/- What was unpacked is packed as the bytes it took; shapes one behind the other: plain Lean. -/
import Derived.Test.YtgkelbdgdhkeoaaShapesL
namespace Go.Proofs.Ytgkelbdgdhkeoaa.Wire
set_option linter.unusedVariables false
set_option linter.unusedSimpArgs false

theorem wid_cases {c : UInt8} (hc : wid c ≠ 0) : isNum c = true ∨ c = 63 ∨ c = 42 ∨ c = 35 := by
  by_cases h1 : isNum c = true
  · exact .inl h1
  by_cases h2 : c = 63
  · exact .inr (.inl h2)
  by_cases h3 : c = 42
  · exact .inr (.inr (.inl h3))
  by_cases h4 : c = 35
  · exact .inr (.inr (.inr h4))
  exfalso
  apply hc
  simp only [isNum, Bool.or_eq_true, beq_iff_eq, not_or] at h1
  have e : ∀ k : UInt8, c ≠ k → ((c.toNat : Int) ≠ (k.toNat : Int)) := fun k h hh => h (byteI.1 hh)
  have e1 := e 49 h1.1.1.1
  have e2 := e 50 h1.1.1.2
  have e3 := e 52 h1.1.2
  have e4 := e 56 h1.2
  have e5 := e 63 h2
  have e6 := e 42 h3
  have e7 := e 35 h4
  simp only [UInt8.reduceToNat, Int.cast_ofNat_Int] at e1 e2 e3 e4 e5 e6 e7
  unfold wid widI
  simp [e1, e2, e3, e4, e5, e6, e7]

theorem low_take (b : List UInt8) (k : Nat) (h : k ≤ b.length) : low (sum (b.take k)) k = b.take k := by
  have e : (b.take k).length = k := by rw [List.length_take]; omega
  have := low_sum (b.take k)
  rwa [e] at this
theorem sum_take_pow (b : List UInt8) (k : Nat) (h : k ≤ b.length) : sum (b.take k) < 256 ^ k := by
  have e : (b.take k).length = k := by rw [List.length_take]; omega
  have := sum_lt (b.take k)
  rwa [e] at this

theorem lay_lift {c : UInt8} (hc : wid c ≠ 0) {b : List UInt8} {x : V} {k : Nat} (h : lift c b = some (x, k)) : lay c x = some (b.take k) := by
  rcases wid_cases hc with h1 | rfl | rfl | rfl
  · have h63 : c ≠ 63 := by rintro rfl; cases h1
    have h42 : c ≠ 42 := by rintro rfl; cases h1
    have h35 : c ≠ 35 := by rintro rfl; cases h1
    unfold lift at h
    rw [if_neg h63, if_neg h42, if_neg h35] at h
    split at h
    · cases h
    · rename_i hl
      obtain ⟨rfl, rfl⟩ := Prod.mk.inj (Option.some.inj h)
      unfold lay num
      rw [if_pos rfl, if_pos ⟨h1, sum_take_pow b _ (by omega)⟩, low_take b _ (by omega)]
  · unfold lift at h
    rw [if_pos rfl] at h
    split at h
    · cases h
    · rename_i hl
      rw [show wid 63 = 1 from rfl] at hl
      split at h
      · cases h
      · rename_i hb
        obtain ⟨rfl, rfl⟩ := Prod.mk.inj (Option.some.inj h)
        cases b with
        | nil => simp at hl
        | cons b0 b =>
          simp only [List.headD_cons] at hb ⊢
          have hlay : ∀ y, lay 63 (flag y) = some [if y then 1 else 0] := fun y => rfl
          rw [hlay]
          congr 1
          have hb2 : b0 = 0 ∨ b0 = 1 := by
            have : b0.toNat = 0 ∨ b0.toNat = 1 := by omega
            rcases this with h | h
            · exact .inl (UInt8.toNat_inj.1 h)
            · exact .inr (UInt8.toNat_inj.1 h)
          rcases hb2 with rfl | rfl <;> rfl
  · unfold lift at h
    rw [if_neg (show (42 : UInt8) ≠ 63 by decide), if_pos rfl] at h
    split at h
    · cases h
    · rename_i hl
      rw [show wid 42 = 4 from rfl] at hl
      split at h
      · cases h
      · rename_i hb
        obtain ⟨rfl, rfl⟩ := Prod.mk.inj (Option.some.inj h)
        have hs4 := low_take b 4 (by omega)
        generalize sum (b.take 4) = s at *
        have hlen : ((b.drop 4).take s).length = s := by rw [List.length_take, List.length_drop]; omega
        have hlay : ∀ l : List UInt8, l.length ≤ 16777216 → lay 42 (blob l) = some (low l.length 4 ++ l) := fun l hh => by
          have e : lay 42 (blob l) = if (42 : UInt8) = 42 ∧ l.length ≤ 16777216 then some (low l.length 4 ++ l) else none := rfl
          rw [e, if_pos ⟨rfl, hh⟩]
        rw [hlay _ (by rw [hlen]; omega), hlen, hs4]
        congr 1
        rw [Nat.add_comm 4 s, Nat.add_comm s 4, List.take_add]
  · unfold lift at h
    rw [if_neg (show (35 : UInt8) ≠ 63 by decide), if_neg (show (35 : UInt8) ≠ 42 by decide), if_pos rfl] at h
    split at h
    · cases h
    · obtain ⟨rfl, rfl⟩ := Prod.mk.inj (Option.some.inj h)
      rfl

theorem pack_unpack (s : List UInt8) : ∀ (b : List UInt8) (l : List V) (k : Nat), may s = true → unpack s b = some (l, k) → pack s l = some (b.take k) := by
  induction s with
  | nil =>
    intro b l k _ h
    obtain ⟨rfl, rfl⟩ := Prod.mk.inj (Option.some.inj h)
    rfl
  | cons c s ih =>
    intro b l k hm h
    rw [may_cons, Bool.and_eq_true] at hm
    have hc : wid c ≠ 0 := by simpa using hm.1
    rw [unpack] at h
    cases hl : lift c b with
    | none => rw [hl] at h; cases h
    | some xq =>
      obtain ⟨x, q⟩ := xq
      rw [hl] at h
      simp only [Option.bind_some] at h
      cases hu : unpack s (b.drop q) with
      | none => rw [hu] at h; cases h
      | some lm =>
        obtain ⟨l2, m2⟩ := lm
        rw [hu] at h
        obtain ⟨rfl, rfl⟩ := Prod.mk.inj (Option.some.inj h)
        rw [pack, lay_lift hc hl, Option.bind_some, ih _ _ _ hm.2 hu, Option.map_some, List.take_add]

theorem may_app (a c : List UInt8) : may (a ++ c) = (may a && may c) := by simp [may]
theorem unpack_app (a c : List UInt8) : ∀ b, unpack (a ++ c) b = (unpack a b).bind fun p => (unpack c (b.drop p.2)).map fun q => (p.1 ++ q.1, p.2 + q.2) := by
  induction a with
  | nil => intro b; simp [unpack]
  | cons x a ih =>
    intro b
    rw [List.cons_append, unpack, unpack]
    cases hl : lift x b with
    | none => rfl
    | some vk =>
      obtain ⟨v, k⟩ := vk
      simp only [Option.bind_some]
      rw [ih]
      cases hu : unpack a (b.drop k) with
      | none => rfl
      | some lm =>
        obtain ⟨l, m⟩ := lm
        simp only [Option.bind_some, Option.map_some, List.drop_drop]
        cases unpack c (b.drop (k + m)) with
        | none => rfl
        | some q => simp [Nat.add_assoc]

theorem lift_blen {c : UInt8} {b : List UInt8} {x : V} {k : Nat} (h : lift c b = some (x, k)) : x.b.length ≤ b.length := by
  unfold lift at h
  split at h
  · cases h
  split at h
  · split at h
    · cases h
    · obtain ⟨rfl, _⟩ := Prod.mk.inj (Option.some.inj h); exact Nat.zero_le _
  split at h
  · split at h
    · cases h
    · obtain ⟨rfl, _⟩ := Prod.mk.inj (Option.some.inj h)
      simp only [blob, List.length_take, List.length_drop]; omega
  split at h
  · obtain ⟨rfl, _⟩ := Prod.mk.inj (Option.some.inj h); exact Nat.zero_le _
  · obtain ⟨rfl, _⟩ := Prod.mk.inj (Option.some.inj h); exact Nat.zero_le _
theorem unpack_blen (s : List UInt8) : ∀ (b : List UInt8) (l : List V) (k : Nat), unpack s b = some (l, k) → (∀ v ∈ l, v.b.length ≤ b.length) ∧ l.length = s.length := by
  induction s with
  | nil =>
    intro b l k h
    obtain ⟨rfl, _⟩ := Prod.mk.inj (Option.some.inj h)
    exact ⟨(fun v hv => by cases hv), rfl⟩
  | cons c s ih =>
    intro b l k h
    rw [unpack] at h
    cases hl : lift c b with
    | none => rw [hl] at h; cases h
    | some xq =>
      obtain ⟨x, q⟩ := xq
      rw [hl] at h
      simp only [Option.bind_some] at h
      cases hu : unpack s (b.drop q) with
      | none => rw [hu] at h; cases h
      | some lm =>
        obtain ⟨l2, m2⟩ := lm
        rw [hu] at h
        obtain ⟨rfl, _⟩ := Prod.mk.inj (Option.some.inj h)
        obtain ⟨h1, h2⟩ := ih _ _ _ hu
        refine ⟨fun v hv => ?_, by simp [h2]⟩
        rcases List.mem_cons.1 hv with rfl | hv
        · exact lift_blen hl
        · have := h1 v hv
          rw [List.length_drop] at this
          omega

/-- What Unpack answers: the error's number, how many bytes, the values. -/
def ucode (s b : List UInt8) : Int := if may s then (if (unpack s b).isSome then 0 else 4) else 2
def ulen (s b : List UInt8) : Nat := if may s then (match unpack s b with | some (_, k) => k | none => 0) else 0
def uvals (s b : List UInt8) : List V := if may s then (match unpack s b with | some (l, _) => l | none => []) else []
theorem ucode_zero {s b : List UInt8} (h : ucode s b = 0) : may s = true ∧ unpack s b = some (uvals s b, ulen s b) := by
  unfold ucode at h
  split at h
  · rename_i hm
    split at h
    · rename_i hs
      obtain ⟨⟨l, k⟩, hu⟩ := Option.isSome_iff_exists.1 hs
      refine ⟨hm, ?_⟩
      unfold uvals ulen
      rw [if_pos hm, if_pos hm, hu]
    · cases h
  · cases h
theorem ucode_of {s b : List UInt8} {l : List V} {k : Nat} (hm : may s = true) (hu : unpack s b = some (l, k)) : ucode s b = 0 ∧ uvals s b = l ∧ ulen s b = k := by
  unfold ucode uvals ulen
  rw [if_pos hm, if_pos hm, if_pos hm, hu]
  exact ⟨rfl, rfl, rfl⟩
theorem ucode_pos {s b : List UInt8} (h : ucode s b ≠ 0) : uvals s b = [] ∧ ulen s b = 0 ∧ (ucode s b = 2 ∨ ucode s b = 4) := by
  unfold ucode uvals ulen at *
  by_cases hm : may s = true
  · rw [if_pos hm] at h ⊢
    rw [if_pos hm, if_pos hm]
    cases hu : unpack s b with
    | none => exact ⟨rfl, rfl, .inr rfl⟩
    | some p => rw [hu] at h; simp at h
  · rw [if_neg hm, if_neg hm, if_neg hm]
    exact ⟨rfl, rfl, .inl rfl⟩
theorem join_first {a c b : List UInt8} (h : ucode a b ≠ 0) : ucode (a ++ c) b ≠ 0 := by
  intro h2
  obtain ⟨hm, hu⟩ := ucode_zero h2
  rw [may_app, Bool.and_eq_true] at hm
  rw [unpack_app] at hu
  cases hx : unpack a b with
  | none => rw [hx] at hu; cases hu
  | some p => exact h (ucode_of (l := p.1) (k := p.2) hm.1 hx).1
theorem join_second {a c b : List UInt8} (h : ucode a b = 0) (h2 : ucode c (b.drop (ulen a b)) ≠ 0) : ucode (a ++ c) b = ucode c (b.drop (ulen a b)) := by
  obtain ⟨hm, hu⟩ := ucode_zero h
  unfold ucode at h2 ⊢
  rw [may_app, hm, Bool.true_and, unpack_app, hu, Option.bind_some]
  by_cases hc : may c = true
  · rw [if_pos hc] at h2 ⊢
    rw [if_pos hc]
    cases hx : unpack c (b.drop (ulen a b)) with
    | none => rfl
    | some p => rfl
  · rw [if_neg hc, if_neg hc]
theorem join_both {a c b : List UInt8} (h : ucode a b = 0) (h2 : ucode c (b.drop (ulen a b)) = 0) :
    ucode (a ++ c) b = 0 ∧ ulen (a ++ c) b = ulen a b + ulen c (b.drop (ulen a b)) ∧ uvals (a ++ c) b = uvals a b ++ uvals c (b.drop (ulen a b)) := by
  obtain ⟨hm, hu⟩ := ucode_zero h
  obtain ⟨hm2, hu2⟩ := ucode_zero h2
  have hm3 : may (a ++ c) = true := by rw [may_app, hm, hm2]; rfl
  have hu3 := unpack_app a c b
  rw [hu, Option.bind_some] at hu3
  simp only [hu2, Option.map_some] at hu3
  obtain ⟨h1, h2, h3⟩ := ucode_of hm3 hu3
  exact ⟨h1, h3, h2⟩
theorem ulen_le (s b : List UInt8) : ulen s b ≤ b.length := by
  unfold ulen
  split
  · split
    · rename_i hu; exact (unpack_bounds s b _ _ hu).2
    · exact Nat.zero_le _
  · exact Nat.zero_le _
theorem uvals_blen (s b : List UInt8) : (∀ v ∈ uvals s b, v.b.length ≤ b.length) ∧ (uvals s b).length ≤ s.length := by
  unfold uvals
  split
  · split
    · rename_i hu
      obtain ⟨h1, h2⟩ := unpack_blen s b _ _ hu
      exact ⟨h1, Nat.le_of_eq h2⟩
    · exact ⟨(fun v hv => by cases hv), Nat.zero_le _⟩
  · exact ⟨(fun v hv => by cases hv), Nat.zero_le _⟩
theorem upack {s b : List UInt8} (h : ucode s b = 0) : pack s (uvals s b) = some (b.take (ulen s b)) := by
  obtain ⟨hm, hu⟩ := ucode_zero h
  exact pack_unpack s b _ _ hm hu
end Go.Proofs.Ytgkelbdgdhkeoaa.Wire
