/- The methods of count.Area, walked: Dec, Free, Alloc. -/
import Derived.Test.YtcdobdjemlaaaaaGreatCount2
namespace Go.Proofs.YtcdobdjemlaaaaaGreat
open Go.RowKit
set_option linter.unusedVariables false

set_option maxRecDepth 100000 in
set_option maxHeartbeats 800000 in
theorem dec_out {w : World} {p : Nat} {A : M} {F : List Nat} (h : IA w p A F) (ok : A.Ok) (k : Int) (hk : k < 0 ∨ (A.now.length : Int) ≤ k) :
    Calls Tryz.prog 60 #[pt p, .int .i64 k] w fun e w' => e = .returned (.tuple #[.int .u16 0, .int .i64 2]) ∧ w' = w := by
  obtain ⟨g1, g2, c1, c2, rfl, h⟩ := h
  have L := has_any h ok.pos k
  rw [ctE_out hk] at L
  unfold pt at L ⊢
  clear h
  go_enter Tryz.func60, Tryz.ntmps60
  go_wp2_with fail
  refine L.mono ?_
  rintro e w' ⟨rfl, rfl⟩
  go_wp2_with fail
  go_ret2
  exact ⟨rfl, rfl⟩

set_option maxRecDepth 100000 in
set_option maxHeartbeats 800000 in
theorem dec_stop {w : World} {p : Nat} {A : M} {F : List Nat} (h : IA w p A F) (ok : A.Ok) (i : Nat) (hi : i < A.now.length) (hx : ctN A.now i = 0) :
    Calls Tryz.prog 60 #[pt p, .int .i64 (i : Int)] w fun e w' => e = .returned (.tuple #[.int .u16 0, .int .i64 9]) ∧ w' = w := by
  obtain ⟨g1, g2, c1, c2, rfl, h⟩ := h
  have k0 := h.k0
  have q1 := h.r1.cell (ctN_get hi)
  have L := has_any h ok.pos (i : Int)
  rw [ctE_in hi] at L
  have hm := ok.max
  unfold pt at L ⊢
  clear h
  rw [hx] at q1
  go_enter Tryz.func60, Tryz.ntmps60
  go_wp2_with fail
  refine L.mono ?_
  rintro e w' ⟨rfl, rfl⟩
  go_wp2_with fail
  go_ret2
  exact ⟨rfl, rfl⟩

set_option maxRecDepth 100000 in
set_option maxHeartbeats 800000 in
theorem dec_in {w : World} {p : Nat} {A : M} {F : List Nat} (h : IA w p A F) (ok : A.Ok) (i : Nat) (hi : i < A.now.length) (h0 : ctN A.now i ≠ 0) :
    Calls Tryz.prog 60 #[pt p, .int .i64 (i : Int)] w fun e w' => e = .returned (.tuple #[.int .u16 ((ctN A.now i - 1 : Nat) : Int), .int .i64 0]) ∧ IA w' p { A with now := A.now.set i (ctN A.now i - 1) } F ∧ Left F w w' F := by
  obtain ⟨g1, g2, c1, c2, rfl, h⟩ := h
  have k0 := h.k0
  have q1 := h.r1.cell (ctN_get hi)
  have hlt := ok.now _ (List.mem_of_getElem? (ctN_get hi))
  have fr := h.r1.frozen i
  have L := has_any h ok.pos (i : Int)
  rw [ctE_in hi] at L
  have hm := ok.max
  have hp := h.setNow i (ctN A.now i - 1)
  have p0 := hp.k0
  have pq := hp.r1.cell (i := i) (k := ctN A.now i - 1) (by simp [hi])
  obtain ⟨x, hx⟩ : ∃ x, x = ctN A.now i := ⟨_, rfl⟩
  rw [← hx] at h0 hlt hp q1 p0 pq ⊢
  clear hx
  obtain ⟨y, rfl⟩ : ∃ y, x = y + 1 := ⟨x - 1, by omega⟩
  simp only [Nat.add_sub_cancel] at hp p0 pq ⊢
  have hpost : IA (w.setCell ⟨g1, i, none⟩ (.int .u16 (y : Int))) p { A with now := A.now.set i y } [p, g1, g2] ∧ Left [p, g1, g2] w (w.setCell ⟨g1, i, none⟩ (.int .u16 (y : Int))) [p, g1, g2] :=
    ⟨⟨g1, g2, c1, c2, rfl, by simpa using hp⟩, (Mods.refl _ w).setCell (by simp) _, fun k hk => .inl hk⟩
  have HP := Lib.hid hpost
  have e2 : (((y + 1 : Nat) : Int) == 0) = false := by simp; omega
  have e3 : ((y + 1 : Nat) : Int) - 1 = (y : Int) := by omega
  unfold pt at L ⊢
  clear h hp hpost
  go_enter Tryz.func60, Tryz.ntmps60
  go_wp2_with fail
  refine L.mono ?_
  rintro e w' ⟨rfl, rfl⟩
  go_wp2_with fail
  go_ret2
  exact ⟨rfl, HP.out⟩

/-- How many of the first k are free. -/
def roomK (A : M) (k : Nat) : Nat := ((List.range k).filter (freeB A)).length
theorem roomK_succ (A : M) (k : Nat) : roomK A (k + 1) = roomK A k + (if freeB A k then 1 else 0) := by
  unfold roomK
  rw [List.range_succ, List.filter_append, List.length_append]
  by_cases h : freeB A k <;> simp [h]
theorem roomK_le (A : M) (k : Nat) : roomK A k ≤ k := by
  unfold roomK
  exact Nat.le_trans (List.length_filter_le _ _) (by simp)

set_option maxRecDepth 100000 in
set_option maxHeartbeats 800000 in
theorem freeN_any {w : World} {p : Nat} {A : M} {F : List Nat} (h : IA w p A F) (ok : A.Ok) :
    Calls Tryz.prog 64 #[pt p] w fun e w' => e = .returned (.int .i64 (roomK A A.now.length : Int)) ∧ w' = w := by
  obtain ⟨g1, g2, c1, c2, rfl, h⟩ := h
  have L := len_any h
  have hm := ok.max
  have hl := ok.len
  have K : ∀ i, i < A.now.length → _ := fun i hi => free_any h i hi (by omega) (by omega)
  unfold pt at L K ⊢
  have HK := Lib.hid K
  obtain ⟨n, hn⟩ : ∃ n, n = A.now.length := ⟨_, rfl⟩
  have hle := roomK_le A
  rw [← hn] at L hm HK ⊢
  have HN := Lib.hid hn
  have HLE := Lib.hid hle
  clear h hn hl K hle
  go_enter Tryz.func64, Tryz.ntmps64
  go_wp2_with fail
  refine L.mono ?_
  rintro e w' ⟨rfl, rfl⟩
  clear L
  go_wp2_with fail
  go_loop [2, 6] (fun c i => ∃ k : Nat, k ≤ n ∧ i = .int .i64 k ∧ c = .int .i64 (roomK A k : Int)) (fun c i => n - (intOf i).toNat)
  case atStart => exact ⟨0, by omega, rfl, rfl⟩
  case round =>
    obtain ⟨k, hk, rfl, rfl⟩ := hrel
    by_cases hlt : k < n
    · have K := HK.out k hlt
      have hb := HLE.out k
      by_cases hf : freeB A k = true
      · rw [hf] at K
        have hs := roomK_succ A k
        rw [if_pos hf] at hs
        have HS := Lib.hid hs
        clear hs
        go_wp2_with fail
        refine K.mono ?_
        rintro e w' ⟨rfl, rfl⟩
        go_wp2_with fail
        go_round
        case rel => exact ⟨k + 1, by omega, by go_num, by rw [HS.out]; go_num⟩
        case measure => simp [intOf]; omega
      · rw [Bool.not_eq_true] at hf
        rw [hf] at K
        have hs := roomK_succ A k
        rw [hf, if_neg (by decide), Nat.add_zero] at hs
        have HS := Lib.hid hs
        clear hs
        go_wp2_with fail
        refine K.mono ?_
        rintro e w' ⟨rfl, rfl⟩
        go_wp2_with fail
        go_round
        case rel => exact ⟨k + 1, by omega, by go_num, by rw [HS.out]; rfl⟩
        case measure => simp [intOf]; omega
    · obtain rfl : k = n := by omega
      go_wp2_with fail
      go_ret
      exact ⟨rfl, rfl⟩
end Go.Proofs.YtcdobdjemlaaaaaGreat
