/- The reference's Alloc, walked. -/
import Derived.Test.YtgokaoajpidhnaaRef6
namespace Go.Proofs.Ytgokaoajpidhnaa
open Go.RowKit
set_option linter.unusedVariables false

/-- What the reference's Alloc leaves. -/
def RAllocP (p : Nat) (A : M) (F : List Nat) (w : World) (e : Ending) (w' : World) : Prop :=
  match find A 0 with
  | none => e = .returned (.int .i64 (-1)) ∧ w' = w
  | some i => e = .returned (.int .i64 (i : Int)) ∧ RA w' p (allocM A i) F ∧ Left F w w' F
theorem rallocP_none {p : Nat} {A : M} {F : List Nat} {w : World} {e : Ending} {w' : World} (hf : find A 0 = none) (h1 : e = .returned (.int .i64 (-1))) (h2 : w' = w) : RAllocP p A F w e w' := by
  unfold RAllocP; rw [hf]; exact ⟨h1, h2⟩
theorem rallocP_some {p : Nat} {A : M} {F : List Nat} {w : World} {e : Ending} {w' : World} {i : Nat} (hf : find A 0 = some i) (h1 : e = .returned (.int .i64 (i : Int))) (h2 : RA w' p (allocM A i) F) (h3 : Left F w w' F) : RAllocP p A F w e w' := by
  unfold RAllocP; rw [hf]; exact ⟨h1, h2, h3⟩
theorem nth_eq {A : M} {k : Nat} (ha : A.at_ < A.now.length) (hk : k < A.now.length) : nth A k = if A.at_ + k < A.now.length then A.at_ + k else A.at_ + k - A.now.length := by
  unfold nth
  split
  · rename_i h; exact Nat.mod_eq_of_lt h
  · rename_i h
    rw [Nat.mod_eq_sub_mod (by omega), Nat.mod_eq_of_lt (by omega)]
theorem next_eq {x n : Nat} (hx : x < n) : (x + 1) % n = if x + 1 = n then 0 else x + 1 := by
  split
  · rename_i h; rw [h, Nat.mod_self]
  · exact Nat.mod_eq_of_lt (by omega)

set_option maxRecDepth 100000 in
set_option maxHeartbeats 1600000 in
theorem ralloc_any {w : World} {p : Nat} {A : M} {F : List Nat} (h : RA w p A F) (ok : A.Ok) :
    Calls Try.prog 71 #[pt p] w fun e w' => RAllocP p A F w e w' := by
  obtain ⟨g1, g2, c1, c2, rfl, h⟩ := h
  have hpos := ok.pos
  have hm := ok.max
  have hl := ok.len
  have hat := ok.at_
  have k0 := h.k0
  have k2 := h.k2
  have HH := Lib.hid h
  have K : ∀ i, i < A.now.length → _ := fun i hi => rfree_any h i hi (by omega) (by omega)
  unfold pt at K ⊢
  have HK := Lib.hid K
  obtain ⟨n, hn⟩ : ∃ n, n = A.now.length := ⟨_, rfl⟩
  rw [← hn] at hpos hm hl hat k0
  have HN := Lib.hid hn
  clear hl K h hn
  go_enter Try.func71, Try.ntmps71
  go_wp2_with fail
  go_loop [3] (fun i => ∃ k : Nat, k ≤ n ∧ i = .int .i64 k ∧ find A 0 = find A k) (fun i => n - (intOf i).toNat)
  case atStart => exact ⟨0, by omega, rfl, rfl⟩
  case round =>
    obtain ⟨k, hk, rfl, hfind⟩ := hrel
    have HF := Lib.hid hfind
    clear hfind
    by_cases hltk : k < n
    · have hnt : nth A k < n := by rw [HN.out]; exact nth_lt (by rw [← HN.out]; exact hpos) k
      have K := HK.out (nth A k) (by rw [← HN.out]; exact hnt)
      have hnext := find_next (A := A) (k := k) (by rw [← HN.out]; exact hltk)
      have hhit := find_hit (A := A) (k := k) (by rw [← HN.out]; exact hltk)
      have hq := nth_eq (A := A) (k := k) (by rw [← HN.out]; exact hat) (by rw [← HN.out]; exact hltk)
      rw [← HN.out] at hq
      generalize hx : nth A k = x at hnt K hnext hhit hq
      have HNX := Lib.hid hnext
      have HHT := Lib.hid hhit
      have hA2 : RAt (w.setCell ⟨g1, x, none⟩ (.int .i64 1)) p g1 g2 A.now.length c1 A.was.length c2 { A with now := A.now.set x 1 } := HH.out.setNow x 1
      have hA3 := hA2.setAt (x + 1)
      have hcx : ((x + 1 : Nat) : Int) = (x : Int) + 1 := by omega
      rw [hcx] at hA3
      have q1 := HH.out.r1.cell (getN_get (i := x) (by rw [← HN.out]; exact hnt))
      have f1 := HH.out.r1.frozen x
      have b2 := hA2.k2
      have f2 := hA2.fr 2
      have d0 := hA3.k0
      have d2 := hA3.k2
      dsimp only at d2
      rw [hcx] at d2
      clear hcx
      have f3 := hA3.fr 2
      rw [← HN.out] at d0
      have HA3 := Lib.hid hA3
      have hne := next_eq hnt
      have HNE := Lib.hid hne
      clear hnext hhit hx hA2 hA3 hne
      by_cases hw : A.at_ + k < n
      · have he : (A.at_ : Int) + (k : Int) = (x : Int) := by rw [if_pos hw] at hq; omega
        have HE := Lib.hid he
        clear he hq
        by_cases hf : freeB A x = true
        · rw [hf] at K
          have HHT2 := HHT.out hf
          by_cases hz : x + 1 = n
          · have hz2 : (((x : Int) + 1) == (n : Int)) = true := by simp; omega
            have hpost : ∀ q, RA ((((w.setCell ⟨g1, x, none⟩ (.int .i64 1)).setCell ⟨p, 2, none⟩ (.int .i64 ((x : Int) + 1))).drewN q).setCell ⟨p, 2, none⟩ (.int .i64 0)) p (allocM A x) [p, g1, g2] ∧ Left [p, g1, g2] w ((((w.setCell ⟨g1, x, none⟩ (.int .i64 1)).setCell ⟨p, 2, none⟩ (.int .i64 ((x : Int) + 1))).drewN q).setCell ⟨p, 2, none⟩ (.int .i64 0)) [p, g1, g2] := by
              intro q
              refine ⟨⟨g1, g2, c1, c2, rfl, ?_⟩, ((((Mods.refl _ w).setCell (by simp) _).setCell (by simp) _).drewN q).setCell (by simp) _, fun k hk => .inl hk⟩
              have := (HA3.out.below (below_drewN (Below.refl _ _) q)).setAt 0
              have e := HNE.out
              rw [if_pos hz, HN.out] at e
              simpa [allocM, e] using this
            have HP := Lib.hid hpost
            have HX := Lib.hid HHT2
            clear HHT2 hpost hz
            go_wp2_with fail
            rw [HE.out]
            refine K.mono ?_
            rintro e w1 ⟨rfl, rfl⟩
            go_wp2_with fail
            go_quiet (fail)
            go_wp2_with fail
            go_ret
            exact rallocP_some (HF.out.trans HX.out) rfl (HP.out _).1 (HP.out _).2
          · have hz2 : (((x : Int) + 1) == (n : Int)) = false := by simp; omega
            have hpost : ∀ q, RA (((w.setCell ⟨g1, x, none⟩ (.int .i64 1)).setCell ⟨p, 2, none⟩ (.int .i64 ((x : Int) + 1))).drewN q) p (allocM A x) [p, g1, g2] ∧ Left [p, g1, g2] w (((w.setCell ⟨g1, x, none⟩ (.int .i64 1)).setCell ⟨p, 2, none⟩ (.int .i64 ((x : Int) + 1))).drewN q) [p, g1, g2] := by
              intro q
              refine ⟨⟨g1, g2, c1, c2, rfl, ?_⟩, (((Mods.refl _ w).setCell (by simp) _).setCell (by simp) _).drewN q, fun k hk => .inl hk⟩
              have := HA3.out.below (below_drewN (Below.refl _ _) q)
              have e := HNE.out
              rw [if_neg hz, HN.out] at e
              simpa [allocM, e] using this
            have HP := Lib.hid hpost
            have HX := Lib.hid HHT2
            clear HHT2 hpost hz
            go_wp2_with fail
            rw [HE.out]
            refine K.mono ?_
            rintro e w1 ⟨rfl, rfl⟩
            go_wp2_with fail
            go_quiet (fail)
            go_wp2_with fail
            go_ret
            exact rallocP_some (HF.out.trans HX.out) rfl (HP.out _).1 (HP.out _).2
        · rw [Bool.not_eq_true] at hf
          rw [hf] at K
          have HX := Lib.hid (HNX.out hf)
          go_wp2_with fail
          rw [HE.out]
          refine K.mono ?_
          rintro e w1 ⟨rfl, rfl⟩
          go_wp2_with fail
          go_round
          case rel => exact ⟨k + 1, by omega, by go_num, by rw [HF.out, HX.out]⟩
          case measure => simp [intOf]; omega
      · have he : (A.at_ : Int) + (k : Int) - (n : Int) = (x : Int) := by rw [if_neg hw] at hq; omega
        have HE := Lib.hid he
        clear he hq
        by_cases hf : freeB A x = true
        · rw [hf] at K
          have HHT2 := HHT.out hf
          by_cases hz : x + 1 = n
          · have hz2 : (((x : Int) + 1) == (n : Int)) = true := by simp; omega
            have hpost : ∀ q, RA ((((w.setCell ⟨g1, x, none⟩ (.int .i64 1)).setCell ⟨p, 2, none⟩ (.int .i64 ((x : Int) + 1))).drewN q).setCell ⟨p, 2, none⟩ (.int .i64 0)) p (allocM A x) [p, g1, g2] ∧ Left [p, g1, g2] w ((((w.setCell ⟨g1, x, none⟩ (.int .i64 1)).setCell ⟨p, 2, none⟩ (.int .i64 ((x : Int) + 1))).drewN q).setCell ⟨p, 2, none⟩ (.int .i64 0)) [p, g1, g2] := by
              intro q
              refine ⟨⟨g1, g2, c1, c2, rfl, ?_⟩, ((((Mods.refl _ w).setCell (by simp) _).setCell (by simp) _).drewN q).setCell (by simp) _, fun k hk => .inl hk⟩
              have := (HA3.out.below (below_drewN (Below.refl _ _) q)).setAt 0
              have e := HNE.out
              rw [if_pos hz, HN.out] at e
              simpa [allocM, e] using this
            have HP := Lib.hid hpost
            have HX := Lib.hid HHT2
            clear HHT2 hpost hz
            go_wp2_with fail
            rw [HE.out]
            refine K.mono ?_
            rintro e w1 ⟨rfl, rfl⟩
            go_wp2_with fail
            go_quiet (fail)
            go_wp2_with fail
            go_ret
            exact rallocP_some (HF.out.trans HX.out) rfl (HP.out _).1 (HP.out _).2
          · have hz2 : (((x : Int) + 1) == (n : Int)) = false := by simp; omega
            have hpost : ∀ q, RA (((w.setCell ⟨g1, x, none⟩ (.int .i64 1)).setCell ⟨p, 2, none⟩ (.int .i64 ((x : Int) + 1))).drewN q) p (allocM A x) [p, g1, g2] ∧ Left [p, g1, g2] w (((w.setCell ⟨g1, x, none⟩ (.int .i64 1)).setCell ⟨p, 2, none⟩ (.int .i64 ((x : Int) + 1))).drewN q) [p, g1, g2] := by
              intro q
              refine ⟨⟨g1, g2, c1, c2, rfl, ?_⟩, (((Mods.refl _ w).setCell (by simp) _).setCell (by simp) _).drewN q, fun k hk => .inl hk⟩
              have := HA3.out.below (below_drewN (Below.refl _ _) q)
              have e := HNE.out
              rw [if_neg hz, HN.out] at e
              simpa [allocM, e] using this
            have HP := Lib.hid hpost
            have HX := Lib.hid HHT2
            clear HHT2 hpost hz
            go_wp2_with fail
            rw [HE.out]
            refine K.mono ?_
            rintro e w1 ⟨rfl, rfl⟩
            go_wp2_with fail
            go_quiet (fail)
            go_wp2_with fail
            go_ret
            exact rallocP_some (HF.out.trans HX.out) rfl (HP.out _).1 (HP.out _).2
        · rw [Bool.not_eq_true] at hf
          rw [hf] at K
          have HX := Lib.hid (HNX.out hf)
          go_wp2_with fail
          rw [HE.out]
          refine K.mono ?_
          rintro e w1 ⟨rfl, rfl⟩
          go_wp2_with fail
          go_round
          case rel => exact ⟨k + 1, by omega, by go_num, by rw [HF.out, HX.out]⟩
          case measure => simp [intOf]; omega
    · obtain rfl : k = n := by omega
      have he : find A 0 = none := by rw [HF.out, HN.out, find_end]
      go_wp2_with fail
      go_ret
      exact rallocP_none he rfl rfl
end Go.Proofs.Ytgokaoajpidhnaa
