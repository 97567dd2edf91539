/- The methods of count.Area, walked: those that read. -/
import Derived.BigQuiet
import Derived.Test.YtcdobdjemlaaaaaGreatArea
namespace Go.Proofs.YtcdobdjemlaaaaaGreat
open Go.RowKit
set_option linter.unusedVariables false

abbrev IAt (w : World) (p g1 g2 n1 c1 n2 c2 : Nat) (A : M) : Prop := ArAt 175 60 .u16 w p g1 g2 n1 c1 n2 c2 A
abbrev IA (w : World) (p : Nat) (A : M) (F : List Nat) : Prop := Ar 175 60 .u16 w p A F
def pt (p : Nat) : Value := .pointer (some ⟨p, 0, none⟩)
def ctN (l : List Nat) (i : Nat) : Nat := l.getD i 0
theorem ctN_get {l : List Nat} {i : Nat} (h : i < l.length) : l[i]? = some (ctN l i) := by simp [ctN, List.getD, h]
def freeB (A : M) (i : Nat) : Bool := ctN A.now i == 0 && ctN A.was i == 0

set_option maxRecDepth 100000 in
set_option maxHeartbeats 400000 in
theorem len_any {w : World} {p g1 g2 n1 c1 n2 c2 : Nat} {A : M} (h : IAt w p g1 g2 n1 c1 n2 c2 A) :
    Calls Tryz.prog 68 #[pt p] w fun e w' => e = .returned (.int .i64 (n1 : Int)) ∧ w' = w := by
  have k0 := h.k0
  unfold pt
  go_enter Tryz.func68, Tryz.ntmps68
  go_wp2
  go_ret
  exact ⟨rfl, rfl⟩

set_option maxRecDepth 100000 in
set_option maxHeartbeats 400000 in
theorem cursor_any {w : World} {p g1 g2 n1 c1 n2 c2 : Nat} {A : M} (h : IAt w p g1 g2 n1 c1 n2 c2 A) :
    Calls Tryz.prog 66 #[pt p] w fun e w' => e = .returned (.int .i64 (A.at_ : Int)) ∧ w' = w := by
  have k2 := h.k2
  unfold pt
  go_enter Tryz.func66, Tryz.ntmps66
  go_wp2
  go_ret
  exact ⟨rfl, rfl⟩

set_option maxRecDepth 100000 in
set_option maxHeartbeats 800000 in
theorem free_any {w : World} {p g1 g2 n1 c1 n2 c2 : Nat} {A : M} (h : IAt w p g1 g2 n1 c1 n2 c2 A) (i : Nat) (h1 : i < A.now.length) (h2 : i < A.was.length) (hm : i ≤ 100000) :
    Calls Tryz.prog 111 #[pt p, .int .i64 (i : Int)] w fun e w' => e = .returned (.bool (freeB A i)) ∧ w' = w := by
  have k0 := h.k0
  have k1 := h.k1
  have e1 : n1 = A.now.length := by obtain ⟨cs, _, hl, _⟩ := h.r1; exact hl.symm
  have e2 : n2 = A.was.length := by obtain ⟨cs, _, hl, _⟩ := h.r2; exact hl.symm
  have q1 := h.r1.cell (ctN_get h1)
  have q2 := h.r2.cell (ctN_get h2)
  unfold pt freeB
  obtain ⟨x, hx⟩ : ∃ x, x = ctN A.now i := ⟨_, rfl⟩
  obtain ⟨y, hy⟩ : ∃ y, y = ctN A.was i := ⟨_, rfl⟩
  rw [← hx] at q1 ⊢
  rw [← hy] at q2 ⊢
  rw [← e1] at h1
  rw [← e2] at h2
  clear e1 e2 hx hy h
  by_cases hx : x = 0
  · subst hx
    by_cases hy : y = 0
    · subst hy
      go_enter Tryz.func111, Tryz.ntmps111
      go_wp2
      go_ret
      exact ⟨rfl, rfl⟩
    · have hyi : ((y : Int) == 0) = false := by simpa using hy
      go_enter Tryz.func111, Tryz.ntmps111
      go_wp2
      go_ret
      exact ⟨by simp [hy], rfl⟩
  · have hxi : ((x : Int) == 0) = false := by simpa using hx
    go_enter Tryz.func111, Tryz.ntmps111
    go_wp2
    go_ret
    exact ⟨by simp [hx], rfl⟩

/-- What 'has' says. -/
def ctE (n1 : Nat) (k : Int) : Int := if k < 0 ∨ (n1 : Int) ≤ k then 2 else 0
set_option maxRecDepth 100000 in
set_option maxHeartbeats 800000 in
theorem has_any {w : World} {p g1 g2 n1 c1 n2 c2 : Nat} {A : M} (h : IAt w p g1 g2 n1 c1 n2 c2 A) (hn : 0 < n1) (k : Int) :
    Calls Tryz.prog 112 #[pt p, .int .i64 k] w fun e w' => e = .returned (.int .i64 (ctE n1 k)) ∧ w' = w := by
  have k0 := h.k0
  have L := len_any h
  have h0 : ((n1 : Int) == 0) = false := by simp; omega
  unfold pt at L ⊢
  clear h
  by_cases h1 : k < 0
  · have e1 : ctE n1 k = 2 := by simp [ctE, h1]
    rw [e1]
    clear e1
    go_enter Tryz.func112, Tryz.ntmps112
    go_wp2_with fail
    refine L.mono ?_
    rintro e w' ⟨rfl, rfl⟩
    go_wp2_with fail
    go_ret
    exact ⟨rfl, rfl⟩
  · by_cases h2 : (n1 : Int) ≤ k
    · have e1 : ctE n1 k = 2 := by simp [ctE, h2]
      rw [e1]
      clear e1
      go_enter Tryz.func112, Tryz.ntmps112
      go_wp2_with fail
      refine L.mono ?_
      rintro e w' ⟨rfl, rfl⟩
      go_wp2_with fail
      go_ret
      exact ⟨rfl, rfl⟩
    · have e1 : ctE n1 k = 0 := by simp [ctE, h1, h2]
      rw [e1]
      clear e1
      go_enter Tryz.func112, Tryz.ntmps112
      go_wp2_with fail
      refine L.mono ?_
      rintro e w' ⟨rfl, rfl⟩
      go_wp2_with fail
      go_ret
      exact ⟨rfl, rfl⟩
end Go.Proofs.YtcdobdjemlaaaaaGreat
