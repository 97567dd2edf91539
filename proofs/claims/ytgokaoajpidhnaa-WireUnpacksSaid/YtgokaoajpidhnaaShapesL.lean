/- WireShapes, walked. -/
import Derived.Test.YtgokaoajpidhnaaKnown1
namespace Go.Proofs.Ytgokaoajpidhnaa
open Go.RowKit
set_option linter.unusedVariables false
set_option linter.unusedSimpArgs false
open Wire

theorem lift_ge {c : UInt8} {b : List UInt8} {x : V} {k : Nat} (h : lift c b = some (x, k)) : wid c ≤ k := by
  unfold lift at h
  split at h
  · cases h
  split at h
  · rename_i hc
    split at h
    · cases h
    · obtain ⟨_, rfl⟩ := Prod.mk.inj (Option.some.inj h)
      subst hc
      exact Nat.le_of_eq rfl
  split at h
  · rename_i hc
    split at h
    · cases h
    · obtain ⟨_, rfl⟩ := Prod.mk.inj (Option.some.inj h)
      subst hc
      rw [show wid 42 = 4 from rfl]
      omega
  split at h
  · rename_i hc
    obtain ⟨_, rfl⟩ := Prod.mk.inj (Option.some.inj h)
    subst hc
    exact Nat.le_of_eq rfl
  · obtain ⟨_, rfl⟩ := Prod.mk.inj (Option.some.inj h)
    exact Nat.le_refl _
theorem unpack_bounds (s : List UInt8) : ∀ (b : List UInt8) (l : List V) (k : Nat), unpack s b = some (l, k) → sumW s ≤ k ∧ k ≤ b.length := by
  induction s with
  | nil =>
    intro b l k h
    obtain ⟨_, rfl⟩ := Prod.mk.inj (Option.some.inj h)
    exact ⟨by simp [sumW], Nat.zero_le _⟩
  | cons c s ih =>
    intro b l k h
    rw [unpack] at h
    cases hl : lift c b with
    | none => rw [hl] at h; cases h
    | some xq =>
      obtain ⟨x, q⟩ := xq
      rw [hl] at h
      simp only [Option.bind_some] at h
      cases hu : unpack s (b.drop q) with
      | none => rw [hu] at h; cases h
      | some lm =>
        obtain ⟨l2, m2⟩ := lm
        rw [hu] at h
        obtain ⟨_, rfl⟩ := Prod.mk.inj (Option.some.inj h)
        obtain ⟨h1, h2⟩ := ih _ _ _ hu
        have h3 := lift_ge hl
        have h4 := lift_le hl
        rw [List.length_drop] at h2
        rw [sumW_cons]
        omega
theorem unpack_least {s b : List UInt8} {l : List V} {k : Nat} (h : unpack s b = some (l, k)) : least s ≤ k ∧ k ≤ b.length := by
  obtain ⟨h1, h2⟩ := unpack_bounds s b l k h
  refine ⟨?_, h2⟩
  unfold least
  split <;> omega

set_option maxRecDepth 100000 in
set_option maxHeartbeats 6400000 in
theorem wireShapes_walk (s : ByteArray) (v : Value) (n : Nat) (bs : List UInt8) (w : World) (hrd : Rd w 1 v n (bV bs)) :
    Calls Try.prog 15 #[.string s, v] w fun e w' => e = .returned (.bool true) ∧ Below w.heap.size w w' := by
  have hlen : bs.length = n := by obtain ⟨_, _, _, hl, _⟩ := hrd; simpa [bV] using hl
  have HLN := Lib.hid hlen
  have HRD := Lib.hid hrd
  have CM := muchnil_any s w
  obtain ⟨ao, cap, rfl, _, _, ⟨_, hc1, hc2⟩, _⟩ := hrd
  clear hlen
  by_cases h40 : 40 < s.size
  · have CK := known1_any w
    go_enter Try.func15, Try.ntmps15
    go_wp2_with fail
    refine CM.mono ?_
    rintro e w1 ⟨rfl, rfl⟩
    go_wp2_with fail
    refine CK.mono ?_
    rintro e w1 ⟨rfl, hb⟩
    have HB1 := Lib.hid hb
    clear hb CM CK
    go_wp2_with fail
    go_ret
    exact ⟨rfl, HB1.out⟩
  by_cases hbig : 20000 < n
  · have CK := known1_any w
    go_enter Try.func15, Try.ntmps15
    go_wp2_with fail
    refine CM.mono ?_
    rintro e w1 ⟨rfl, rfl⟩
    go_wp2_with fail
    refine CK.mono ?_
    rintro e w1 ⟨rfl, hb⟩
    have HB1 := Lib.hid hb
    clear hb CM CK
    go_wp2_with fail
    go_ret
    exact ⟨rfl, HB1.out⟩
  have CU := unpack_any s HRD.out (by omega) (by omega)
  have CN := fun n W => num1_any n W
  have CL := fun W => least_any s W (by omega)
  have CY := fun W => may_any s W (by omega)
  have RY := fun W => rmay_any s W (by omega)
  have RL := fun W => rleast_any s W (by omega)
  have CK := fun W => known1_any W
  -- what the answer is
  obtain ⟨x, hx⟩ : ∃ x : Int, x = if may (chs s) then (if (unpack (chs s) bs).isSome then 0 else 4) else 2 := ⟨_, rfl⟩
  obtain ⟨k, hk⟩ : ∃ k : Nat, k = match unpack (chs s) bs with | some (_, k) => (if may (chs s) then k else 0) | none => 0 := ⟨_, rfl⟩
  have hcu : ∀ e w', UnpackP w (may (chs s)) (unpack (chs s) bs) e w' → ∃ v', e = .returned (.tuple #[v', .int .i64 (k : Int), .int .i64 x]) ∧ Below w.heap.size w w' := by
    rintro e w' ⟨hb, hP⟩
    subst hx; subst hk
    cases hm : may (chs s) with
    | false =>
      rw [hm] at hP
      obtain rfl := hP
      refine ⟨.slice none 0 0, ?_, hb⟩
      cases unpack (chs s) bs <;> rfl
    | true =>
      rw [hm] at hP
      cases hu : unpack (chs s) bs with
      | none =>
        rw [hu] at hP
        obtain rfl := hP
        exact ⟨_, rfl, hb⟩
      | some lk =>
        obtain ⟨l, k⟩ := lk
        rw [hu] at hP
        obtain ⟨v', rfl, _⟩ := hP
        exact ⟨_, rfl, hb⟩
  have hfact : x ≠ 0 ∨ x = 0 ∧ least (chs s) ≤ k ∧ k ≤ n := by
    cases hm : may (chs s) with
    | false => left; rw [hx, hm]; simp
    | true =>
      cases hu : unpack (chs s) bs with
      | none => left; rw [hx, hm, hu]; simp
      | some lk =>
        obtain ⟨l, q⟩ := lk
        right
        rw [hm, hu] at hx hk
        obtain ⟨h1, h2⟩ := unpack_least hu
        subst hk
        rw [HLN.out] at h2
        exact ⟨hx, h1, h2⟩
  have HCU := Lib.hid hcu
  have HF := Lib.hid hfact
  clear hcu hfact hx hk
  generalize may (chs s) = y at *
  generalize least (chs s) = d at *
  generalize unpack (chs s) bs = o at *
  rcases HF.out with hx0 | ⟨rfl, hk1, hk2⟩
  · have hx1 : (x == 0) = false := by simpa using hx0
    go_enter Try.func15, Try.ntmps15
    go_wp2_with fail
    refine CM.mono ?_
    rintro e w1 ⟨rfl, rfl⟩
    go_wp2_with fail
    refine CU.mono ?_
    intro e w1 hP
    obtain ⟨v1, rfl, hb1⟩ := HCU.out _ _ hP
    have HB1 := Lib.hid hb1
    clear hP hb1 CU CM
    go_wp2_with fail
    refine (CL w1).mono ?_
    rintro e w2 ⟨rfl, hb⟩
    have HB2 := Lib.hid (bthen HB1.out hb)
    clear hb
    go_wp2_with fail
    refine (CY w2).mono ?_
    rintro e w3 ⟨rfl, hb⟩
    have HB3 := Lib.hid (bthen HB2.out hb)
    clear hb
    go_wp2_with fail
    refine (RY w3).mono ?_
    rintro e w4 ⟨rfl, rfl⟩
    go_wp2_with fail
    refine (RL w3).mono ?_
    rintro e w4 ⟨rfl, rfl⟩
    go_wp2_with fail
    refine (CN _ w3).mono ?_
    rintro e w4 ⟨rfl, rfl⟩
    go_wp2_with fail
    refine (CK w3).mono ?_
    rintro e w4 ⟨rfl, hb⟩
    have HB4 := Lib.hid (bthen HB3.out hb)
    clear hb
    go_wp2_with fail
    go_ret
    exact ⟨rfl, HB4.out⟩
  · go_enter Try.func15, Try.ntmps15
    go_wp2_with fail
    refine CM.mono ?_
    rintro e w1 ⟨rfl, rfl⟩
    go_wp2_with fail
    refine CU.mono ?_
    intro e w1 hP
    obtain ⟨v1, rfl, hb1⟩ := HCU.out _ _ hP
    have HB1 := Lib.hid hb1
    clear hP hb1 CU CM
    go_wp2_with fail
    refine (CL w1).mono ?_
    rintro e w2 ⟨rfl, hb⟩
    have HB2 := Lib.hid (bthen HB1.out hb)
    clear hb
    go_wp2_with fail
    refine (CY w2).mono ?_
    rintro e w3 ⟨rfl, hb⟩
    have HB3 := Lib.hid (bthen HB2.out hb)
    clear hb
    go_wp2_with fail
    refine (RY w3).mono ?_
    rintro e w4 ⟨rfl, rfl⟩
    go_wp2_with fail
    refine (RL w3).mono ?_
    rintro e w4 ⟨rfl, rfl⟩
    go_wp2_with fail
    refine (CN _ w3).mono ?_
    rintro e w4 ⟨rfl, rfl⟩
    go_wp2_with fail
    refine (CK w3).mono ?_
    rintro e w4 ⟨rfl, hb⟩
    have HB4 := Lib.hid (bthen HB3.out hb)
    clear hb
    go_wp2_with fail
    go_ret
    exact ⟨rfl, HB4.out⟩
end Go.Proofs.Ytgokaoajpidhnaa
