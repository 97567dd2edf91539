/- The methods of count.Area, walked: of one block. -/
import Derived.Test.YtcdobdjemlaaaaaGreatCount
namespace Go.Proofs.YtcdobdjemlaaaaaGreat
open Go.RowKit
set_option linter.unusedVariables false

theorem ctE_in {n1 i : Nat} (h : i < n1) : ctE n1 (i : Int) = 0 := by simp [ctE]; omega
theorem ctE_out {n1 : Nat} {k : Int} (h : k < 0 ∨ (n1 : Int) ≤ k) : ctE n1 k = 2 := by simp [ctE, h]

set_option maxRecDepth 100000 in
set_option maxHeartbeats 800000 in
theorem count_in {w : World} {p : Nat} {A : M} {F : List Nat} (h : IA w p A F) (ok : A.Ok) (i : Nat) (hi : i < A.now.length) :
    Calls Tryz.prog 57 #[pt p, .int .i64 (i : Int)] w fun e w' => e = .returned (.int .u16 (ctN A.now i : Int)) ∧ w' = w := by
  obtain ⟨g1, g2, c1, c2, rfl, h⟩ := h
  have k0 := h.k0
  have q1 := h.r1.cell (ctN_get hi)
  have L := has_any h ok.pos (i : Int)
  rw [ctE_in hi] at L
  have hm := ok.max
  unfold pt at L ⊢
  clear h
  go_enter Tryz.func57, Tryz.ntmps57
  go_wp2_with fail
  refine L.mono ?_
  rintro e w' ⟨rfl, rfl⟩
  go_wp2_with fail
  go_ret
  exact ⟨rfl, rfl⟩

set_option maxRecDepth 100000 in
set_option maxHeartbeats 800000 in
theorem was_in {w : World} {p : Nat} {A : M} {F : List Nat} (h : IA w p A F) (ok : A.Ok) (i : Nat) (hi : i < A.now.length) :
    Calls Tryz.prog 119 #[pt p, .int .i64 (i : Int)] w fun e w' => e = .returned (.int .u16 (ctN A.was i : Int)) ∧ w' = w := by
  obtain ⟨g1, g2, c1, c2, rfl, h⟩ := h
  have k1 := h.k1
  have hi2 : i < A.was.length := by have := ok.len; omega
  have q1 := h.r2.cell (ctN_get hi2)
  have L := has_any h ok.pos (i : Int)
  rw [ctE_in hi] at L
  have hm := ok.max
  have hl := ok.len
  unfold pt at L ⊢
  clear h
  go_enter Tryz.func119, Tryz.ntmps119
  go_wp2_with fail
  refine L.mono ?_
  rintro e w' ⟨rfl, rfl⟩
  go_wp2_with fail
  go_ret
  exact ⟨rfl, rfl⟩

set_option maxRecDepth 100000 in
set_option maxHeartbeats 800000 in
theorem count_out {w : World} {p : Nat} {A : M} {F : List Nat} (h : IA w p A F) (ok : A.Ok) (k : Int) (hk : k < 0 ∨ (A.now.length : Int) ≤ k) :
    Calls Tryz.prog 57 #[pt p, .int .i64 k] w fun e w' => e = .returned (.int .u16 0) ∧ w' = w := by
  obtain ⟨g1, g2, c1, c2, rfl, h⟩ := h
  have L := has_any h ok.pos k
  rw [ctE_out hk] at L
  unfold pt at L ⊢
  clear h
  go_enter Tryz.func57, Tryz.ntmps57
  go_wp2_with fail
  refine L.mono ?_
  rintro e w' ⟨rfl, rfl⟩
  go_wp2_with fail
  go_ret
  exact ⟨rfl, rfl⟩

set_option maxRecDepth 100000 in
set_option maxHeartbeats 800000 in
theorem was_out {w : World} {p : Nat} {A : M} {F : List Nat} (h : IA w p A F) (ok : A.Ok) (k : Int) (hk : k < 0 ∨ (A.now.length : Int) ≤ k) :
    Calls Tryz.prog 119 #[pt p, .int .i64 k] w fun e w' => e = .returned (.int .u16 0) ∧ w' = w := by
  obtain ⟨g1, g2, c1, c2, rfl, h⟩ := h
  have L := has_any h ok.pos k
  rw [ctE_out hk] at L
  unfold pt at L ⊢
  clear h
  go_enter Tryz.func119, Tryz.ntmps119
  go_wp2_with fail
  refine L.mono ?_
  rintro e w' ⟨rfl, rfl⟩
  go_wp2_with fail
  go_ret
  exact ⟨rfl, rfl⟩

set_option maxRecDepth 100000 in
set_option maxHeartbeats 800000 in
theorem set_out {w : World} {p : Nat} {A : M} {F : List Nat} (h : IA w p A F) (ok : A.Ok) (k : Int) (hk : k < 0 ∨ (A.now.length : Int) ≤ k) :
    Calls Tryz.prog 79 #[pt p, .int .i64 k] w fun e w' => e = .returned (.int .i64 2) ∧ w' = w := by
  obtain ⟨g1, g2, c1, c2, rfl, h⟩ := h
  have L := has_any h ok.pos k
  rw [ctE_out hk] at L
  unfold pt at L ⊢
  clear h
  go_enter Tryz.func79, Tryz.ntmps79
  go_wp2_with fail
  refine L.mono ?_
  rintro e w' ⟨rfl, rfl⟩
  go_wp2_with fail
  go_ret
  exact ⟨rfl, rfl⟩

set_option maxRecDepth 100000 in
set_option maxHeartbeats 800000 in
theorem set_in {w : World} {p : Nat} {A : M} {F : List Nat} (h : IA w p A F) (ok : A.Ok) (i : Nat) (hi : i < A.now.length) :
    Calls Tryz.prog 79 #[pt p, .int .i64 (i : Int)] w fun e w' => e = .returned (.int .i64 0) ∧ IA w' p { A with at_ := i, kept := i } F ∧ Left F w w' F := by
  obtain ⟨g1, g2, c1, c2, rfl, h⟩ := h
  have L := has_any h ok.pos (i : Int)
  rw [ctE_in hi] at L
  have hp := h.setAt i
  have hp2 := hp.setKept i
  have k2 := h.k2
  have k3 := hp.k3
  have f2 := h.fr 2
  have f3 := hp.fr 3
  have hpost : IA ((w.setCell ⟨p, 2, none⟩ (.int .i64 (i : Int))).setCell ⟨p, 3, none⟩ (.int .i64 (i : Int))) p { A with at_ := i, kept := i } [p, g1, g2] ∧ Left [p, g1, g2] w ((w.setCell ⟨p, 2, none⟩ (.int .i64 (i : Int))).setCell ⟨p, 3, none⟩ (.int .i64 (i : Int))) [p, g1, g2] :=
    ⟨⟨g1, g2, c1, c2, rfl, hp2⟩, ((Mods.refl _ w).setCell (by simp) _).setCell (by simp) _, fun k hk => .inl hk⟩
  have HP := Lib.hid hpost
  unfold pt at L ⊢
  clear h hp hp2 hpost
  go_enter Tryz.func79, Tryz.ntmps79
  go_wp2_with fail
  refine L.mono ?_
  rintro e w' ⟨rfl, rfl⟩
  go_wp2_with fail
  go_ret
  exact ⟨rfl, HP.out⟩

set_option maxRecDepth 100000 in
set_option maxHeartbeats 800000 in
theorem inc_out {w : World} {p : Nat} {A : M} {F : List Nat} (h : IA w p A F) (ok : A.Ok) (k : Int) (hk : k < 0 ∨ (A.now.length : Int) ≤ k) :
    Calls Tryz.prog 65 #[pt p, .int .i64 k] w fun e w' => e = .returned (.int .i64 2) ∧ w' = w := by
  obtain ⟨g1, g2, c1, c2, rfl, h⟩ := h
  have L := has_any h ok.pos k
  rw [ctE_out hk] at L
  unfold pt at L ⊢
  clear h
  go_enter Tryz.func65, Tryz.ntmps65
  go_wp2_with fail
  refine L.mono ?_
  rintro e w' ⟨rfl, rfl⟩
  go_wp2_with fail
  go_ret
  exact ⟨rfl, rfl⟩

set_option maxRecDepth 100000 in
set_option maxHeartbeats 800000 in
theorem inc_stop {w : World} {p : Nat} {A : M} {F : List Nat} (h : IA w p A F) (ok : A.Ok) (i : Nat) (hi : i < A.now.length) (hs : ctN A.now i = 65535 ∨ ctN A.now i = 0) :
    Calls Tryz.prog 65 #[pt p, .int .i64 (i : Int)] w fun e w' => e = .returned (.int .i64 (if ctN A.now i = 65535 then 8 else 9)) ∧ w' = w := by
  obtain ⟨g1, g2, c1, c2, rfl, h⟩ := h
  have k0 := h.k0
  have q1 := h.r1.cell (ctN_get hi)
  have L := has_any h ok.pos (i : Int)
  rw [ctE_in hi] at L
  have hm := ok.max
  unfold pt at L ⊢
  clear h
  rcases hs with hx | hx
  · rw [hx] at q1 ⊢
    go_enter Tryz.func65, Tryz.ntmps65
    go_wp2_with fail
    refine L.mono ?_
    rintro e w' ⟨rfl, rfl⟩
    go_wp2_with fail
    go_ret
    exact ⟨rfl, rfl⟩
  · rw [hx] at q1 ⊢
    go_enter Tryz.func65, Tryz.ntmps65
    go_wp2_with fail
    refine L.mono ?_
    rintro e w' ⟨rfl, rfl⟩
    go_wp2_with fail
    go_ret
    exact ⟨rfl, rfl⟩

set_option maxRecDepth 100000 in
set_option maxHeartbeats 800000 in
theorem inc_in {w : World} {p : Nat} {A : M} {F : List Nat} (h : IA w p A F) (ok : A.Ok) (i : Nat) (hi : i < A.now.length) (h1 : ctN A.now i ≠ 65535) (h0 : ctN A.now i ≠ 0) :
    Calls Tryz.prog 65 #[pt p, .int .i64 (i : Int)] w fun e w' => e = .returned (.int .i64 0) ∧ IA w' p { A with now := A.now.set i (ctN A.now i + 1) } F ∧ Left F w w' F := by
  obtain ⟨g1, g2, c1, c2, rfl, h⟩ := h
  have k0 := h.k0
  have q1 := h.r1.cell (ctN_get hi)
  have hlt := ok.now _ (List.mem_of_getElem? (ctN_get hi))
  have fr := h.r1.frozen i
  have L := has_any h ok.pos (i : Int)
  rw [ctE_in hi] at L
  have hm := ok.max
  have hp := h.setNow i (ctN A.now i + 1)
  obtain ⟨x, hx⟩ : ∃ x, x = ctN A.now i := ⟨_, rfl⟩
  rw [← hx] at h1 h0 hlt hp q1 ⊢
  clear hx
  have hpost : IA (w.setCell ⟨g1, i, none⟩ (.int .u16 ((x + 1 : Nat) : Int))) p { A with now := A.now.set i (x + 1) } [p, g1, g2] ∧ Left [p, g1, g2] w (w.setCell ⟨g1, i, none⟩ (.int .u16 ((x + 1 : Nat) : Int))) [p, g1, g2] :=
    ⟨⟨g1, g2, c1, c2, rfl, by simpa using hp⟩, (Mods.refl _ w).setCell (by simp) _, fun k hk => .inl hk⟩
  have HP := Lib.hid hpost
  have e1 : ((x : Int) == 65535) = false := by simp; omega
  have e2 : ((x : Int) == 0) = false := by simp; omega
  unfold pt at L ⊢
  clear h hp hpost
  go_enter Tryz.func65, Tryz.ntmps65
  go_wp2_with fail
  refine L.mono ?_
  rintro e w' ⟨rfl, rfl⟩
  go_wp2_with fail
  go_ret
  exact ⟨rfl, by simpa using HP.out⟩
end Go.Proofs.YtcdobdjemlaaaaaGreat
