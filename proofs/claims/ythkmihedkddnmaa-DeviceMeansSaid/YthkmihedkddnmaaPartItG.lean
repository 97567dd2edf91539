/- part.Over's iterator, once more: its contract where the parts are named by another type. -/
import Derived.Test.YthkmihedkddnmaaPartIt2
namespace Go.Proofs.Ythkmihedkddnmaa
open Go.RowKit Go.Shelf
set_option linter.unusedVariables false
attribute [local go_sem] Oper.semAt_some

theorem range_pre {α : Type} (it : Nat → α) {i n : Nat} (h : i ≤ n) : (List.range i).map it <+: (List.range n).map it := by
  have h1 : (List.range n).take i = List.range i := by rw [List.take_range, Nat.min_eq_left h]
  have : List.range i <+: List.range n := by rw [← h1]; exact List.take_prefix _ _
  exact this.map it
set_option maxRecDepth 100000 in
set_option maxHeartbeats 2000000 in
/-- part.Over's iterator, where what it gives is named by another type (whose every member is a part that may be gone on with). -/
theorem over_stopsG {α : Type} (g : α → Nat × PSpan) (it : Nat → α) (F : Fence) (n : Nat) (h90 : F.fn 50) (hro : F.round = none) (hn : 1 ≤ n) (Ba : Nat) (a c : Nat) (hg : ∀ i, i < pM a c → g (it i) = pItem a c i) (ha : a + c ≤ 1073741824) (hc : 1 ≤ c) (w : World) (hBn : Ba + 1 < w.heap.size)
    (Fp : World → Nat → Prop) (hF1 : ∀ (W : World) (o : Obj) k, w.heap.size ≤ W.heap.size → Fp (W.alloc o) k → Fp W k)
    (hF0 : ∀ W, Below w.heap.size w W → (∀ k, Fp W k → k < W.heap.size) ∧ ¬ Fp W Ba ∧ ¬ Fp W (Ba + 1))
    (hca : w.cell? ⟨Ba, 0, none⟩ = some (.int .i64 a)) (hcc : w.cell? ⟨Ba + 1, 0, none⟩ = some (.int .i64 c)) :
    SeqStopsK F n Try.prog 50 #[.pointer (some ⟨Ba, 0, none⟩), .pointer (some ⟨Ba + 1, 0, none⟩)] (fun x => itemVs (g x)) (KpF Fp) (fun ys => ys = (List.range (pM a c)).map it) (fun pre => pre <+: (List.range (pM a c)).map it) (pM a c) w := by
  intro l J Jx W hW hJ hJx hY h0
  obtain ⟨hgood, hnb, hnb1⟩ := hF0 W hW
  have hca' : W.cell? ⟨Ba, 0, none⟩ = some (.int .i64 a) := (hW.cell (p := ⟨Ba, 0, none⟩) (by simp; omega)).trans hca
  have hcc' : W.cell? ⟨Ba + 1, 0, none⟩ = some (.int .i64 c) := (hW.cell (p := ⟨Ba + 1, 0, none⟩) (by simp; omega)).trans hcc
  have hWs := hW.size
  refine callsIn_of_wp Try.func50 rfl h90 ?_ hro
  simp only [Try.ntmps50, List.size_toArray, List.length_cons, List.length_nil, Nat.reduceAdd, Nat.reduceSub, Array.replicate_succ, Array.replicate_zero, List.push_toArray, List.append_toArray, List.nil_append, List.cons_append]
  gi_wp2
  gi_loopw [4, 5, 6] (fun d _ _ wr => ∃ i : Nat, i ≤ pM a c ∧ d = .int .i64 (pDone a c i) ∧ J ((List.range i).map it) wr ∧ KpF Fp W wr)
    (fun d _ _ _ => c - (intOf d).toNat)
  case atStart =>
    exact ⟨0, Nat.zero_le _, by rw [pDone_zero]; rfl, by simpa using h0, KpF.refl _ _⟩
  case round =>
    obtain ⟨i, hi, rfl, hJs, hbw⟩ := hrel
    have hca2 : wr.cell? ⟨Ba, 0, none⟩ = some (.int .i64 a) := hbw.cell hca' hnb
    have hcc2 : wr.cell? ⟨Ba + 1, 0, none⟩ = some (.int .i64 c) := hbw.cell hcc' hnb1
    have hwr := hbw.size
    have hdl := @pDone_le a c i
    by_cases hlt : i < pM a c
    · have hd : (pDone a c i : Int) < c := by have := (pDone_lt (a := a) (i := i) hc).2 hlt; omega
      have hat := pAt hlt
      have hf4 := pFrom_lt a i
      have hq : ((a : Int) + pDone a c i) / 4 = pBlk a i := by unfold pBlk; omega
      have hr : ((a : Int) + pDone a c i) % 4 = pFrom a i := by omega
      have hft := pFrom_lt_pTo hlt
      have ht4 := @pTo_le a c i
      have HS := Lib.hid (pDone_succ hlt)
      have HA := Lib.hid hat
      have HL : Hid ((List.range i).map it ++ [it i] = (List.range (i + 1)).map it) := Lib.hid (by rw [List.range_succ, List.map_append]; rfl)
      clear hat
      have hJ2 := hJ _ _ _ none hJs (World.grownBy_alloc wr (.cells #[.int .i64 (pBlk a i), .int .i64 (pFrom a i), .int .i64 (pTo a c i)] 81) none) (fun r e => by cases e)
      obtain ⟨fn, tmps, assign, body, hy, hR⟩ := hY _ (it i) _ hJ2 (by simp; omega)
      rw [hg i hlt] at hy
      dsimp only [itemVs, spanV, pItem, pSpan] at hy
      clear hJ2 hY
      by_cases hmin : (4 : Int) ≤ pFrom a i + c - pDone a c i
      · have hmn : min (4 : Int) ((pFrom a i : Int) + c - pDone a c i) = 4 := by omega
        have hto : (pTo a c i : Int) = 4 := by have h := HA.out; unfold pTo; omega
        have hkw := KpF.alloc hbw (.cells #[.int .i64 (pBlk a i), .int .i64 (pFrom a i), .int .i64 (pTo a c i)] 81) (fun k hk => hF1 wr _ k (by omega) hk)
        have hnf : ¬ Fp (wr.alloc (.cells #[.int .i64 (pBlk a i), .int .i64 (pFrom a i), .int .i64 (pTo a c i)] 81)) wr.heap.size := fun hf => by
          have := hbw.good hgood _ (hF1 wr _ _ (by omega) hf); omega
        rw [hto] at hy hR hkw hnf
        have HT := Lib.hid hto
        clear hto
        gi_wp2
        refine hR.mono ?_
        rintro e W3 (⟨rfl, hJ3, hk3⟩ | ⟨rfl, hx3⟩)
        · have hsz := hk3.size
          have c1 : W3.cell? ⟨wr.heap.size, 1, none⟩ = some (.int .i64 (pFrom a i)) := hk3.cell (by simp) hnf
          have c2 := hk3.cell (a := ⟨wr.heap.size, 2, none⟩) (by simp; rfl) hnf
          have hk4 := hkw.trans hk3
          rw [HL.out] at hJ3
          clear hy hR hkw hnf hk3 hJs hbw
          gi_wp2
          go_roundw
          case rel =>
            refine ⟨i + 1, by omega, ?_, hJ3, hk4⟩
            have h1 := HS.out
            have h2 := HT.out
            go_num
          case measure => have h1 := HS.out; have h2 := HT.out; simp [intOf]; omega
        · gi_wp2
          refine bodyPost_ret (results_none rfl _ _ _) rfl ?_
          exact ⟨⟨_, rfl⟩, .inr ⟨_, by rw [HL.out]; exact range_pre it (by omega), hx3⟩⟩
      · have hmn : min (4 : Int) ((pFrom a i : Int) + c - pDone a c i) = (pFrom a i : Int) + c - pDone a c i := by omega
        have hto : (pTo a c i : Int) = (pFrom a i : Int) + (c : Int) - (pDone a c i : Int) := by have h := HA.out; unfold pTo; omega
        have hkw := KpF.alloc hbw (.cells #[.int .i64 (pBlk a i), .int .i64 (pFrom a i), .int .i64 (pTo a c i)] 81) (fun k hk => hF1 wr _ k (by omega) hk)
        have hnf : ¬ Fp (wr.alloc (.cells #[.int .i64 (pBlk a i), .int .i64 (pFrom a i), .int .i64 (pTo a c i)] 81)) wr.heap.size := fun hf => by
          have := hbw.good hgood _ (hF1 wr _ _ (by omega) hf); omega
        rw [hto] at hy hR hkw hnf
        have HT := Lib.hid hto
        clear hto
        gi_wp2
        refine hR.mono ?_
        rintro e W3 (⟨rfl, hJ3, hk3⟩ | ⟨rfl, hx3⟩)
        · have hsz := hk3.size
          have c1 : W3.cell? ⟨wr.heap.size, 1, none⟩ = some (.int .i64 (pFrom a i)) := hk3.cell (by simp) hnf
          have c2 := hk3.cell (a := ⟨wr.heap.size, 2, none⟩) (by simp; rfl) hnf
          have hk4 := hkw.trans hk3
          rw [HL.out] at hJ3
          clear hy hR hkw hnf hk3 hJs hbw
          gi_wp2
          go_roundw
          case rel =>
            refine ⟨i + 1, by omega, ?_, hJ3, hk4⟩
            have h1 := HS.out
            have h2 := HT.out
            go_num
          case measure => have h1 := HS.out; have h2 := HT.out; simp [intOf]; omega
        · gi_wp2
          refine bodyPost_ret (results_none rfl _ _ _) rfl ?_
          exact ⟨⟨_, rfl⟩, .inr ⟨_, by rw [HL.out]; exact range_pre it (by omega), hx3⟩⟩
    · have hd : ¬ (pDone a c i : Int) < c := by have := (pDone_lt (a := a) (i := i) hc).1; omega
      gi_wp2
      go_end0
      obtain rfl : i = pM a c := by omega
      refine ⟨⟨_, rfl⟩, .inl ?_⟩
      exact hJs
end Go.Proofs.Ythkmihedkddnmaa
