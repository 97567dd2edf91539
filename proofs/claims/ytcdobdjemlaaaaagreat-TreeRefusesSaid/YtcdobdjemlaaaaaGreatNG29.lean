import Derived.Test.YtcdobdjemlaaaaaGreatNG24
import Derived.Test.YtcdobdjemlaaaaaGreatNG28
set_option linter.unusedVariables false
set_option linter.unusedSimpArgs false
/- TreeRefuses, walked. -/
namespace Go.Proofs.YtcdobdjemlaaaaaGreat
open Go.RowKit Go.Maps Wire
set_option linter.unusedVariables false
set_option linter.unusedSimpArgs false
theorem ct_alloc {A : M} {i : Nat} (h : i < A.now.length) : ctN (allocM A i).now i = 1 := by
 unfold ctN allocM
 simp [List.getD, h]
theorem bNd9 (k : Int) (W : World) : (Instr.build 40 #[(0, .int .i64 k)]).run Tryz.prog W = .ok (.agg #[.int .i64 k, .int .u64 0, .slice none 0 0, .slice none 0 0]) W := run_build W 40 _ _ (by kernel_rfl)
theorem ok_inner (b : Nat) : Nd.Ok ⟨1, b, [], []⟩ := ⟨by show (1 : Int) ≤ 1 ∧ (1 : Int) ≤ 3; omega, by simp, rfl, fun i a b h => by simp at h, fun x hx => by simp at hx, fun x hx => by simp at hx⟩
theorem find95 : find (allocM ar9 4) 0 = some 5 := by decide +kernel
set_option maxRecDepth 100000 in
set_option maxHeartbeats 25600000 in
theorem treeRefuses_at (w : World) (root : Nat) (kind : Int) (key : Nat) (hr32 : root < 4294967296) (hkey : key < 18446744073709551616) : Calls Tryz.prog 5 #[.int .u32 (root : Int), .int .i64 kind, .int .u64 (key : Int)] w fun e w' => e = .returned (.bool true) ∧ Below w.heap.size w w' := by
 have CM := made09_at w
 unfold Made9 pt at CM
 have htx : su9.tx + 1 < 18446744073709551616 := by decide +kernel
 have f9 := find9
 have f95 := find95
 have l9 := ar9_len
 have l9' := ar9_len'
 have c9 := ct9
 have HTX := Lib.hid htx
 have HF9 := Lib.hid (And.intro f9 (And.intro f95 (And.intro l9 (And.intro l9' c9))))
 clear f9 htx l9 l9' c9 f95
 obtain ⟨A9, hA9⟩ : ∃ x, ar9 = x := ⟨_, rfl⟩
 obtain ⟨s9, hs9⟩ : ∃ x, su9 = x := ⟨_, rfl⟩
 rw [hA9] at CM HF9
 rw [hs9] at CM HTX
 clear hA9 hs9
 go_enter Tryz.func5, Tryz.ntmps5
 go_wp2_with fail
 refine CM.mono ?_
 rintro e w1 ⟨S, B, pm, pd, mf, md, Fm, Fd, rfl, hst, hb, hge⟩
 have HS := Lib.hid hst
 have HM : Hid (Mods (mf :: Fm) w1 w1) := Lib.hid (Mods.refl _ _)
 have HB1 := Lib.hid hb
 have HGE := Lib.hid hge
 have HEN : Hid (∀ W, Mods (mf :: Fm) w1 W → Below w.heap.size w W) := Lib.hid (fun W hW => ((Mods.of_below HB1.out).trans hW (fun k hk => .inr (by
  rcases List.mem_cons.1 hk with rfl | hk
  ·exact HGE.out _ (by simp [stF])
  ·exact HGE.out _ (by simp [stF, hk])))).below (F := []) (fun k hk => by simp at hk) (Nat.le_refl _))
 clear CM hst hb hge
 by_cases h2 : kind = 2
 ·subst h2
  have C := tput_new HS.out 2 key 1 (.inl rfl) hkey (by decide) 4 HF9.out.1 HTX.out (by decide)
  have HOK := Lib.hid (ok_b (nd1_ok 2 (.inl rfl) key 1 hkey (by decide)) (s9.tx + 1))
  go_wp2_with fail
  refine C.mono ?_
  rintro e x0 ⟨x, rfl, hst, hms, hgx⟩
  have HS := Lib.hid hst
  have HM := Lib.hid (HM.out.trans hms (fun k hk => .inl hk))
  clear C hst hms hgx
  dsimp only
  have C := tcheck_leaf HS.out 4 (by decide) (by rw [HF9.out.2.2.2.1]; decide) (by rw [HF9.out.2.2.2.2]; decide) x ⟨2, s9.tx + 1, [key], [1]⟩ (getA_put _ _ _) HOK.out (by show (2 : Int) ≠ 1; decide) rfl 2
  rw [show chkE (Nd.k ⟨2, s9.tx + 1, [key], [1]⟩) 2 = 0 from rfl] at C
  go_wp2_with fail
  refine C.mono ?_
  rintro e x2 ⟨rfl, hb⟩
  have HS := Lib.hid (HS.out.below hb)
  have HM := Lib.hid (HM.out.thenBelow hb)
  clear C hb
  have C := tcheck_leaf HS.out 4 (by decide) (by rw [HF9.out.2.2.2.1]; decide) (by rw [HF9.out.2.2.2.2]; decide) x ⟨2, s9.tx + 1, [key], [1]⟩ (getA_put _ _ _) HOK.out (by show (2 : Int) ≠ 1; decide) rfl 3
  rw [show chkE (Nd.k ⟨2, s9.tx + 1, [key], [1]⟩) 3 = 14 from rfl] at C
  go_wp2_with fail
  refine C.mono ?_
  rintro e x3 ⟨rfl, hb⟩
  have HS := Lib.hid (HS.out.below hb)
  have HM := Lib.hid (HM.out.thenBelow hb)
  clear C hb
  obtain ⟨A', hA'⟩ : ∃ z, allocM A9 4 = z := ⟨_, rfl⟩
  obtain ⟨i', hi'⟩ : ∃ z, 5 = z := ⟨_, rfl⟩
  obtain ⟨l', hl'⟩ : ∃ z, putA 4 (x, (⟨2, s9.tx + 1, [key], [1]⟩ : Nd)) [] = z := ⟨_, rfl⟩
  have HFI : Hid (find A' 0 = some i' ∧ A'.now.length = 200 ∧ l'.length ≤ 1 ∧ i' ≠ 0) := Lib.hid ⟨by rw [← hA', ← hi']; exact HF9.out.2.1, by rw [← hA']; exact HF9.out.2.2.2.1, by rw [← hl']; exact putA_len _ _ _, by omega⟩
  have HS : Hid (StF x3 S B pm pd mf md s9 A' dr9 Fm Fd l') := Lib.hid (by rw [← hA', ← hl']; exact HS.out)
  clear hA' hi' hl'
  by_cases hr : 200 ≤ root
  ·have hrr : decide ((200 : Int) ≤ (root : Int)) = true := by simp; omega
   have HN : Hid (A'.now.length ≤ root) := Lib.hid (by rw [HFI.out.2.1]; exact hr)
   clear hr
   have C := tget_big HS.out.st root HN.out hr32 (key : Int)
   go_wp2_with fail
   refine C.mono ?_
   rintro e y1 ⟨rfl, hb⟩
   have HS := Lib.hid (HS.out.below hb)
   have HM := Lib.hid (HM.out.thenBelow hb)
   clear C hb
   dsimp only
   have C := tput_big HS.out.st root HN.out hr32 2 (key : Int) 1
   go_wp2_with fail
   refine C.mono ?_
   rintro e y2 ⟨rfl, hb⟩
   have HS := Lib.hid (HS.out.below hb)
   have HM := Lib.hid (HM.out.thenBelow hb)
   clear C hb
   dsimp only
   have C := tdelete_big HS.out.st root HN.out hr32 (key : Int)
   go_wp2_with fail
   refine C.mono ?_
   rintro e y3 ⟨rfl, hb⟩
   have HS := Lib.hid (HS.out.below hb)
   have HM := Lib.hid (HM.out.thenBelow hb)
   clear C hb
   dsimp only
   have C := tall_big HS.out.st root HN.out hr32 0
   go_wp2_with fail
   refine C.mono ?_
   rintro e y4 ⟨rfl, hb⟩
   have HS := Lib.hid (HS.out.below hb)
   have HM := Lib.hid (HM.out.thenBelow hb)
   clear C hb
   dsimp only
   have C := tnodes_big HS.out.st root HN.out hr32
   go_wp2_with fail
   refine C.mono ?_
   rintro e y5 ⟨rfl, hb⟩
   have HS := Lib.hid (HS.out.below hb)
   have HM := Lib.hid (HM.out.thenBelow hb)
   clear C hb
   dsimp only
   have C := tcheck_big HS.out.st root HN.out hr32 2
   go_wp2_with fail
   refine C.mono ?_
   rintro e y6 ⟨rfl, hb⟩
   have HS := Lib.hid (HS.out.below hb)
   have HM := Lib.hid (HM.out.thenBelow hb)
   clear C hb
   dsimp only
   have C := known09_at y6
   go_wp2_with fail
   refine C.mono ?_
   rintro e y7 ⟨rfl, hb⟩
   have HS := Lib.hid (HS.out.below hb)
   have HM := Lib.hid (HM.out.thenBelow hb)
   clear C hb
   dsimp only
   go_wp2_with fail
   go_ret
   exact ⟨rfl, HEN.out _ HM.out⟩
  ·have hrr : decide ((200 : Int) ≤ (root : Int)) = false := by simp; omega
   clear hr
   have hbk := bNd9 1
   have C := snew_in HS.out ⟨1, 0, [], []⟩ (.slice none 0 0) (.slice none 0 0) (ok_inner 0) (fun X _ => Rd.of_own (World.ownsRow_nil X 0 23 1)) (fun X _ => Rd.of_own (World.ownsRow_nil X 0 23 1)) i' HFI.out.1 HTX.out (Nat.le_trans HFI.out.2.2.1 (by decide))
   have hl' := find_lt (A := A') (by rw [HFI.out.2.1]; decide) _ _ _ HFI.out.1
   have HI : Hid (i' < (allocM A' i').now.length ∧ ctN (allocM A' i').now i' ≠ 0) := Lib.hid ⟨by show i' < (A'.now.set i' 1).length; rw [List.length_set]; exact hl', by rw [ct_alloc hl']; decide⟩
   clear hl'
   go_wp2_with fail
   refine C.mono ?_
   rintro e y1 ⟨x1, rfl, hst, hms, hge⟩
   have HS := Lib.hid hst
   have HM := Lib.hid (HM.out.trans hms (fun k hk => .inl hk))
   clear C hst hms hge hbk
   dsimp only
   have C := tget_empty HS.out i' HFI.out.2.2.2 HI.out.1 HI.out.2 x1 ⟨1, s9.tx + 1, [], []⟩ (getA_put _ _ _) rfl rfl rfl (key : Int)
   go_wp2_with fail
   refine C.mono ?_
   rintro e y2 ⟨rfl, hb⟩
   have HS := Lib.hid (HS.out.below hb)
   have HM := Lib.hid (HM.out.thenBelow hb)
   clear C hb
   dsimp only
   have C := tall_empty HS.out i' HFI.out.2.2.2 HI.out.1 HI.out.2 x1 ⟨1, s9.tx + 1, [], []⟩ (getA_put _ _ _) rfl rfl rfl 0
   go_wp2_with fail
   refine C.mono ?_
   rintro e y3 ⟨rfl, hb⟩
   have HS := Lib.hid (HS.out.below hb)
   have HM := Lib.hid (HM.out.thenBelow hb)
   clear C hb
   dsimp only
   have C := tcheck_empty HS.out i' HFI.out.2.2.2 HI.out.1 HI.out.2 x1 ⟨1, s9.tx + 1, [], []⟩ (getA_put _ _ _) rfl rfl rfl 2
   go_wp2_with fail
   refine C.mono ?_
   rintro e y4 ⟨rfl, hb⟩
   have HS := Lib.hid (HS.out.below hb)
   have HM := Lib.hid (HM.out.thenBelow hb)
   clear C hb
   dsimp only
   have C := known09_at y4
   go_wp2_with fail
   refine C.mono ?_
   rintro e y5 ⟨rfl, hb⟩
   have HS := Lib.hid (HS.out.below hb)
   have HM := Lib.hid (HM.out.thenBelow hb)
   clear C hb
   dsimp only
   go_wp2_with fail
   go_ret
   exact ⟨rfl, HEN.out _ HM.out⟩
 ·by_cases h3 : kind = 3
  ·subst h3
   clear h2
   have C := tput_new HS.out 3 key 1 (.inr rfl) hkey (by decide) 4 HF9.out.1 HTX.out (by decide)
   have HOK := Lib.hid (ok_b (nd1_ok 3 (.inr rfl) key 1 hkey (by decide)) (s9.tx + 1))
   go_wp2_with fail
   refine C.mono ?_
   rintro e x0 ⟨x, rfl, hst, hms, hgx⟩
   have HS := Lib.hid hst
   have HM := Lib.hid (HM.out.trans hms (fun k hk => .inl hk))
   clear C hst hms hgx
   dsimp only
   have C := tcheck_leaf HS.out 4 (by decide) (by rw [HF9.out.2.2.2.1]; decide) (by rw [HF9.out.2.2.2.2]; decide) x ⟨3, s9.tx + 1, [key], [1]⟩ (getA_put _ _ _) HOK.out (by show (3 : Int) ≠ 1; decide) rfl 3
   rw [show chkE (Nd.k ⟨3, s9.tx + 1, [key], [1]⟩) 3 = 0 from rfl] at C
   go_wp2_with fail
   refine C.mono ?_
   rintro e x2 ⟨rfl, hb⟩
   have HS := Lib.hid (HS.out.below hb)
   have HM := Lib.hid (HM.out.thenBelow hb)
   clear C hb
   have C := tcheck_leaf HS.out 4 (by decide) (by rw [HF9.out.2.2.2.1]; decide) (by rw [HF9.out.2.2.2.2]; decide) x ⟨3, s9.tx + 1, [key], [1]⟩ (getA_put _ _ _) HOK.out (by show (3 : Int) ≠ 1; decide) rfl 2
   rw [show chkE (Nd.k ⟨3, s9.tx + 1, [key], [1]⟩) 2 = 14 from rfl] at C
   go_wp2_with fail
   refine C.mono ?_
   rintro e x3 ⟨rfl, hb⟩
   have HS := Lib.hid (HS.out.below hb)
   have HM := Lib.hid (HM.out.thenBelow hb)
   clear C hb
   obtain ⟨A', hA'⟩ : ∃ z, allocM A9 4 = z := ⟨_, rfl⟩
   obtain ⟨i', hi'⟩ : ∃ z, 5 = z := ⟨_, rfl⟩
   obtain ⟨l', hl'⟩ : ∃ z, putA 4 (x, (⟨3, s9.tx + 1, [key], [1]⟩ : Nd)) [] = z := ⟨_, rfl⟩
   have HFI : Hid (find A' 0 = some i' ∧ A'.now.length = 200 ∧ l'.length ≤ 1 ∧ i' ≠ 0) := Lib.hid ⟨by rw [← hA', ← hi']; exact HF9.out.2.1, by rw [← hA']; exact HF9.out.2.2.2.1, by rw [← hl']; exact putA_len _ _ _, by omega⟩
   have HS : Hid (StF x3 S B pm pd mf md s9 A' dr9 Fm Fd l') := Lib.hid (by rw [← hA', ← hl']; exact HS.out)
   clear hA' hi' hl'
   by_cases hr : 200 ≤ root
   ·have hrr : decide ((200 : Int) ≤ (root : Int)) = true := by simp; omega
    have HN : Hid (A'.now.length ≤ root) := Lib.hid (by rw [HFI.out.2.1]; exact hr)
    clear hr
    have C := tget_big HS.out.st root HN.out hr32 (key : Int)
    go_wp2_with fail
    refine C.mono ?_
    rintro e y1 ⟨rfl, hb⟩
    have HS := Lib.hid (HS.out.below hb)
    have HM := Lib.hid (HM.out.thenBelow hb)
    clear C hb
    dsimp only
    have C := tput_big HS.out.st root HN.out hr32 2 (key : Int) 1
    go_wp2_with fail
    refine C.mono ?_
    rintro e y2 ⟨rfl, hb⟩
    have HS := Lib.hid (HS.out.below hb)
    have HM := Lib.hid (HM.out.thenBelow hb)
    clear C hb
    dsimp only
    have C := tdelete_big HS.out.st root HN.out hr32 (key : Int)
    go_wp2_with fail
    refine C.mono ?_
    rintro e y3 ⟨rfl, hb⟩
    have HS := Lib.hid (HS.out.below hb)
    have HM := Lib.hid (HM.out.thenBelow hb)
    clear C hb
    dsimp only
    have C := tall_big HS.out.st root HN.out hr32 0
    go_wp2_with fail
    refine C.mono ?_
    rintro e y4 ⟨rfl, hb⟩
    have HS := Lib.hid (HS.out.below hb)
    have HM := Lib.hid (HM.out.thenBelow hb)
    clear C hb
    dsimp only
    have C := tnodes_big HS.out.st root HN.out hr32
    go_wp2_with fail
    refine C.mono ?_
    rintro e y5 ⟨rfl, hb⟩
    have HS := Lib.hid (HS.out.below hb)
    have HM := Lib.hid (HM.out.thenBelow hb)
    clear C hb
    dsimp only
    have C := tcheck_big HS.out.st root HN.out hr32 2
    go_wp2_with fail
    refine C.mono ?_
    rintro e y6 ⟨rfl, hb⟩
    have HS := Lib.hid (HS.out.below hb)
    have HM := Lib.hid (HM.out.thenBelow hb)
    clear C hb
    dsimp only
    have C := known09_at y6
    go_wp2_with fail
    refine C.mono ?_
    rintro e y7 ⟨rfl, hb⟩
    have HS := Lib.hid (HS.out.below hb)
    have HM := Lib.hid (HM.out.thenBelow hb)
    clear C hb
    dsimp only
    go_wp2_with fail
    go_ret
    exact ⟨rfl, HEN.out _ HM.out⟩
   ·have hrr : decide ((200 : Int) ≤ (root : Int)) = false := by simp; omega
    clear hr
    have hbk := bNd9 1
    have C := snew_in HS.out ⟨1, 0, [], []⟩ (.slice none 0 0) (.slice none 0 0) (ok_inner 0) (fun X _ => Rd.of_own (World.ownsRow_nil X 0 23 1)) (fun X _ => Rd.of_own (World.ownsRow_nil X 0 23 1)) i' HFI.out.1 HTX.out (Nat.le_trans HFI.out.2.2.1 (by decide))
    have hl' := find_lt (A := A') (by rw [HFI.out.2.1]; decide) _ _ _ HFI.out.1
    have HI : Hid (i' < (allocM A' i').now.length ∧ ctN (allocM A' i').now i' ≠ 0) := Lib.hid ⟨by show i' < (A'.now.set i' 1).length; rw [List.length_set]; exact hl', by rw [ct_alloc hl']; decide⟩
    clear hl'
    go_wp2_with fail
    refine C.mono ?_
    rintro e y1 ⟨x1, rfl, hst, hms, hge⟩
    have HS := Lib.hid hst
    have HM := Lib.hid (HM.out.trans hms (fun k hk => .inl hk))
    clear C hst hms hge hbk
    dsimp only
    have C := tget_empty HS.out i' HFI.out.2.2.2 HI.out.1 HI.out.2 x1 ⟨1, s9.tx + 1, [], []⟩ (getA_put _ _ _) rfl rfl rfl (key : Int)
    go_wp2_with fail
    refine C.mono ?_
    rintro e y2 ⟨rfl, hb⟩
    have HS := Lib.hid (HS.out.below hb)
    have HM := Lib.hid (HM.out.thenBelow hb)
    clear C hb
    dsimp only
    have C := tall_empty HS.out i' HFI.out.2.2.2 HI.out.1 HI.out.2 x1 ⟨1, s9.tx + 1, [], []⟩ (getA_put _ _ _) rfl rfl rfl 0
    go_wp2_with fail
    refine C.mono ?_
    rintro e y3 ⟨rfl, hb⟩
    have HS := Lib.hid (HS.out.below hb)
    have HM := Lib.hid (HM.out.thenBelow hb)
    clear C hb
    dsimp only
    have C := tcheck_empty HS.out i' HFI.out.2.2.2 HI.out.1 HI.out.2 x1 ⟨1, s9.tx + 1, [], []⟩ (getA_put _ _ _) rfl rfl rfl 2
    go_wp2_with fail
    refine C.mono ?_
    rintro e y4 ⟨rfl, hb⟩
    have HS := Lib.hid (HS.out.below hb)
    have HM := Lib.hid (HM.out.thenBelow hb)
    clear C hb
    dsimp only
    have C := known09_at y4
    go_wp2_with fail
    refine C.mono ?_
    rintro e y5 ⟨rfl, hb⟩
    have HS := Lib.hid (HS.out.below hb)
    have HM := Lib.hid (HM.out.thenBelow hb)
    clear C hb
    dsimp only
    go_wp2_with fail
    go_ret
    exact ⟨rfl, HEN.out _ HM.out⟩
  ·have C := tput_bad HS.out.st kind (key : Int) 1 h2 h3
   have k2 : (kind != 2) = true := by simpa [bne] using h2
   have k3 : (kind != 3) = true := by simpa [bne] using h3
   clear h2 h3
   go_wp2_with fail
   refine C.mono ?_
   rintro e x3 ⟨rfl, hb⟩
   have HS := Lib.hid (HS.out.below hb)
   have HM := Lib.hid (HM.out.thenBelow hb)
   clear C hb
   dsimp only
   obtain ⟨i', hi'⟩ : ∃ z, 4 = z := ⟨_, rfl⟩
   obtain ⟨A', hA'⟩ : ∃ z, A9 = z := ⟨_, rfl⟩
   obtain ⟨l', hl'⟩ : ∃ z, ([] : List (Nat × (NdV × Nd))) = z := ⟨_, rfl⟩
   have HFI : Hid (find A' 0 = some i' ∧ A'.now.length = 200 ∧ l'.length ≤ 1 ∧ i' ≠ 0) := Lib.hid ⟨by rw [← hA', ← hi']; exact HF9.out.1, by rw [← hA']; exact HF9.out.2.2.1, by rw [← hl']; decide, by omega⟩
   have HS : Hid (StF x3 S B pm pd mf md s9 A' dr9 Fm Fd l') := Lib.hid (by rw [← hA', ← hl']; exact HS.out)
   clear hA' hi' hl'
   by_cases hr : 200 ≤ root
   ·have hrr : decide ((200 : Int) ≤ (root : Int)) = true := by simp; omega
    have HN : Hid (A'.now.length ≤ root) := Lib.hid (by rw [HFI.out.2.1]; exact hr)
    clear hr
    have C := tget_big HS.out.st root HN.out hr32 (key : Int)
    go_wp2_with fail
    refine C.mono ?_
    rintro e y1 ⟨rfl, hb⟩
    have HS := Lib.hid (HS.out.below hb)
    have HM := Lib.hid (HM.out.thenBelow hb)
    clear C hb
    dsimp only
    have C := tput_big HS.out.st root HN.out hr32 2 (key : Int) 1
    go_wp2_with fail
    refine C.mono ?_
    rintro e y2 ⟨rfl, hb⟩
    have HS := Lib.hid (HS.out.below hb)
    have HM := Lib.hid (HM.out.thenBelow hb)
    clear C hb
    dsimp only
    have C := tdelete_big HS.out.st root HN.out hr32 (key : Int)
    go_wp2_with fail
    refine C.mono ?_
    rintro e y3 ⟨rfl, hb⟩
    have HS := Lib.hid (HS.out.below hb)
    have HM := Lib.hid (HM.out.thenBelow hb)
    clear C hb
    dsimp only
    have C := tall_big HS.out.st root HN.out hr32 0
    go_wp2_with fail
    refine C.mono ?_
    rintro e y4 ⟨rfl, hb⟩
    have HS := Lib.hid (HS.out.below hb)
    have HM := Lib.hid (HM.out.thenBelow hb)
    clear C hb
    dsimp only
    have C := tnodes_big HS.out.st root HN.out hr32
    go_wp2_with fail
    refine C.mono ?_
    rintro e y5 ⟨rfl, hb⟩
    have HS := Lib.hid (HS.out.below hb)
    have HM := Lib.hid (HM.out.thenBelow hb)
    clear C hb
    dsimp only
    have C := tcheck_big HS.out.st root HN.out hr32 2
    go_wp2_with fail
    refine C.mono ?_
    rintro e y6 ⟨rfl, hb⟩
    have HS := Lib.hid (HS.out.below hb)
    have HM := Lib.hid (HM.out.thenBelow hb)
    clear C hb
    dsimp only
    have C := known09_at y6
    go_wp2_with fail
    refine C.mono ?_
    rintro e y7 ⟨rfl, hb⟩
    have HS := Lib.hid (HS.out.below hb)
    have HM := Lib.hid (HM.out.thenBelow hb)
    clear C hb
    dsimp only
    go_wp2_with fail
    go_ret
    exact ⟨rfl, HEN.out _ HM.out⟩
   ·have hrr : decide ((200 : Int) ≤ (root : Int)) = false := by simp; omega
    clear hr
    have hbk := bNd9 1
    have C := snew_in HS.out ⟨1, 0, [], []⟩ (.slice none 0 0) (.slice none 0 0) (ok_inner 0) (fun X _ => Rd.of_own (World.ownsRow_nil X 0 23 1)) (fun X _ => Rd.of_own (World.ownsRow_nil X 0 23 1)) i' HFI.out.1 HTX.out (Nat.le_trans HFI.out.2.2.1 (by decide))
    have hl' := find_lt (A := A') (by rw [HFI.out.2.1]; decide) _ _ _ HFI.out.1
    have HI : Hid (i' < (allocM A' i').now.length ∧ ctN (allocM A' i').now i' ≠ 0) := Lib.hid ⟨by show i' < (A'.now.set i' 1).length; rw [List.length_set]; exact hl', by rw [ct_alloc hl']; decide⟩
    clear hl'
    go_wp2_with fail
    refine C.mono ?_
    rintro e y1 ⟨x1, rfl, hst, hms, hge⟩
    have HS := Lib.hid hst
    have HM := Lib.hid (HM.out.trans hms (fun k hk => .inl hk))
    clear C hst hms hge hbk
    dsimp only
    have C := tget_empty HS.out i' HFI.out.2.2.2 HI.out.1 HI.out.2 x1 ⟨1, s9.tx + 1, [], []⟩ (getA_put _ _ _) rfl rfl rfl (key : Int)
    go_wp2_with fail
    refine C.mono ?_
    rintro e y2 ⟨rfl, hb⟩
    have HS := Lib.hid (HS.out.below hb)
    have HM := Lib.hid (HM.out.thenBelow hb)
    clear C hb
    dsimp only
    have C := tall_empty HS.out i' HFI.out.2.2.2 HI.out.1 HI.out.2 x1 ⟨1, s9.tx + 1, [], []⟩ (getA_put _ _ _) rfl rfl rfl 0
    go_wp2_with fail
    refine C.mono ?_
    rintro e y3 ⟨rfl, hb⟩
    have HS := Lib.hid (HS.out.below hb)
    have HM := Lib.hid (HM.out.thenBelow hb)
    clear C hb
    dsimp only
    have C := tcheck_empty HS.out i' HFI.out.2.2.2 HI.out.1 HI.out.2 x1 ⟨1, s9.tx + 1, [], []⟩ (getA_put _ _ _) rfl rfl rfl 2
    go_wp2_with fail
    refine C.mono ?_
    rintro e y4 ⟨rfl, hb⟩
    have HS := Lib.hid (HS.out.below hb)
    have HM := Lib.hid (HM.out.thenBelow hb)
    clear C hb
    dsimp only
    have C := known09_at y4
    go_wp2_with fail
    refine C.mono ?_
    rintro e y5 ⟨rfl, hb⟩
    have HS := Lib.hid (HS.out.below hb)
    have HM := Lib.hid (HM.out.thenBelow hb)
    clear C hb
    dsimp only
    go_wp2_with fail
    go_ret
    exact ⟨rfl, HEN.out _ HM.out⟩
end Go.Proofs.YtcdobdjemlaaaaaGreat
