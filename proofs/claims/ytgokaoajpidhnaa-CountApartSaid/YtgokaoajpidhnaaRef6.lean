/- The reference's Area, walked: Free, Room, Clone. -/
import Derived.Test.YtgokaoajpidhnaaCount4
namespace Go.Proofs.Ytgokaoajpidhnaa
open Go.RowKit
set_option linter.unusedVariables false

abbrev RAt (w : World) (p g1 g2 n1 c1 n2 c2 : Nat) (A : M) : Prop := ArAt 63 3 .i64 w p g1 g2 n1 c1 n2 c2 A
abbrev RA (w : World) (p : Nat) (A : M) (F : List Nat) : Prop := Ar 63 3 .i64 w p A F

set_option maxRecDepth 100000 in
set_option maxHeartbeats 800000 in
theorem rfree_any {w : World} {p g1 g2 n1 c1 n2 c2 : Nat} {A : M} (h : RAt w p g1 g2 n1 c1 n2 c2 A) (i : Nat) (h1 : i < A.now.length) (h2 : i < A.was.length) (hm : i ≤ 100000) :
    Calls Try.prog 91 #[pt p, .int .i64 (i : Int)] w fun e w' => e = .returned (.bool (freeB A i)) ∧ w' = w := by
  have k0 := h.k0
  have k1 := h.k1
  have e1 : n1 = A.now.length := by obtain ⟨cs, _, hl, _⟩ := h.r1; exact hl.symm
  have e2 : n2 = A.was.length := by obtain ⟨cs, _, hl, _⟩ := h.r2; exact hl.symm
  have q1 := h.r1.cell (getN_get h1)
  have q2 := h.r2.cell (getN_get h2)
  unfold pt freeB
  obtain ⟨x, hx⟩ : ∃ x, x = getN A.now i := ⟨_, rfl⟩
  obtain ⟨y, hy⟩ : ∃ y, y = getN A.was i := ⟨_, rfl⟩
  rw [← hx] at q1 ⊢
  rw [← hy] at q2 ⊢
  rw [← e1] at h1
  rw [← e2] at h2
  clear e1 e2 hx hy h
  by_cases hx : x = 0
  · subst hx
    by_cases hy : y = 0
    · subst hy
      go_enter Try.func91, Try.ntmps91
      go_wp2
      go_ret
      exact ⟨rfl, rfl⟩
    · have hyi : ((y : Int) == 0) = false := by simpa using hy
      go_enter Try.func91, Try.ntmps91
      go_wp2
      go_ret
      exact ⟨by simp [hy], rfl⟩
  · have hxi : ((x : Int) == 0) = false := by simpa using hx
    go_enter Try.func91, Try.ntmps91
    go_wp2
    go_ret
    exact ⟨by simp [hx], rfl⟩

set_option maxRecDepth 100000 in
set_option maxHeartbeats 800000 in
theorem room_any {w : World} {p : Nat} {A : M} {F : List Nat} (h : RA w p A F) (ok : A.Ok) :
    Calls Try.prog 70 #[pt p] w fun e w' => e = .returned (.int .i64 (roomK A A.now.length : Int)) ∧ w' = w := by
  obtain ⟨g1, g2, c1, c2, rfl, h⟩ := h
  have hm := ok.max
  have hl := ok.len
  have k0 := h.k0
  have K : ∀ i, i < A.now.length → _ := fun i hi => rfree_any h i hi (by omega) (by omega)
  unfold pt at K ⊢
  have HK := Lib.hid K
  obtain ⟨n, hn⟩ : ∃ n, n = A.now.length := ⟨_, rfl⟩
  have hle := roomK_le A
  rw [← hn] at k0 hm HK ⊢
  have HN := Lib.hid hn
  have HLE := Lib.hid hle
  clear h hn hl K hle
  go_enter Try.func70, Try.ntmps70
  go_wp2_with fail
  go_loop [3, 4] (fun c i => ∃ k : Nat, k ≤ n ∧ i = .int .i64 k ∧ c = .int .i64 (roomK A k : Int)) (fun c i => n - (intOf i).toNat)
  case atStart => exact ⟨0, by omega, rfl, rfl⟩
  case round =>
    obtain ⟨k, hk, rfl, rfl⟩ := hrel
    by_cases hlt : k < n
    · have K := HK.out k hlt
      have hb := HLE.out k
      by_cases hf : freeB A k = true
      · rw [hf] at K
        have hs := roomK_succ A k
        rw [if_pos hf] at hs
        have HS := Lib.hid hs
        clear hs
        go_wp2_with fail
        refine K.mono ?_
        rintro e w' ⟨rfl, rfl⟩
        go_wp2_with fail
        go_round
        case rel => exact ⟨k + 1, by omega, by go_num, by rw [HS.out]; go_num⟩
        case measure => simp [intOf]; omega
      · rw [Bool.not_eq_true] at hf
        rw [hf] at K
        have hs := roomK_succ A k
        rw [hf, if_neg (by decide), Nat.add_zero] at hs
        have HS := Lib.hid hs
        clear hs
        go_wp2_with fail
        refine K.mono ?_
        rintro e w' ⟨rfl, rfl⟩
        go_wp2_with fail
        go_round
        case rel => exact ⟨k + 1, by omega, by go_num, by rw [HS.out]; rfl⟩
        case measure => simp [intOf]; omega
    · obtain rfl : k = n := by omega
      go_wp2_with fail
      go_ret
      exact ⟨rfl, rfl⟩

theorem infoInt6 : (Try.prog.info? 3).map (fun i => (i.zero, i.size, i.bytes)) = some (some (.int .i64 0), 1, 8) := by kernel_rfl

set_option maxRecDepth 100000 in
set_option maxHeartbeats 400000 in
/-- The reference's Clone. -/
theorem rclone_any (v : Value) (n : Nat) (bs : List Nat) (w : World) (h : Rd w 1 v n (kV .i64 bs)) (hn : n ≤ 1000000) :
    Calls Try.prog 38 #[v] w fun e w' => ∃ v', e = .returned v' ∧ w'.ownsRow w.heap.size 3 1 v' n (kV .i64 bs) ∧ Below w.heap.size w w' := by
  have ho0 := World.ownsRow_nil w w.heap.size 3 1
  go_enter Try.func38, Try.ntmps38
  go_wp2_with (at_builtin; go_must (refine wpList_apps rfl _ _ 23 rfl w.heap.size 3 _ 1 8 Try.underlying23 infoInt6 rfl (by decide) (by decide) _ 0 [] rfl ho0 _ n (kV .i64 bs) rfl h (kV_one _ bs) (by omega) (Nat.le_refl _) ?_); intro v' w1 ho1 hb1 _ _ _)
  go_ret
  exact ⟨_, rfl, by simpa using ho1, hb1⟩
end Go.Proofs.Ytgokaoajpidhnaa
