/- page: Join, walked. -/
import Derived.Test.YtcdobdjemlaaaaaGreatJn0
namespace Go.Proofs.YtcdobdjemlaaaaaGreat
open Go.RowKit Wire
set_option linter.unusedVariables false
set_option linter.unusedSimpArgs false

set_option maxRecDepth 100000 in
set_option maxHeartbeats 6400000 in
theorem join_at (w : World) (bl : Nat) (v : Value) (ps : List (List Nat)) (h1 : 1 ≤ bl) (h2 : bl ≤ 1000) (h : PgsAt w v (pagesN bl) ps) (hz : ∀ x ∈ ps.flatten.drop bl, x = 0) :
    Calls Tryz.prog 123 #[.int .i64 (bl : Int), v] w fun e w' => ∃ v', e = .returned (.tuple #[v', .int .i64 0]) ∧ Rd w' 1 v' bl (cV (ps.flatten.take bl)) ∧ Below w.heap.size w w' := by
  obtain ⟨n, hn⟩ : ∃ n, pagesN bl = n := ⟨_, rfl⟩
  have hnb : 1 ≤ n ∧ n ≤ 9 ∧ bl ≤ n * 120 := by
    rw [← hn]; unfold pagesN; rw [if_neg (by omega)]; omega
  have CP := pages_any w bl (by omega)
  rw [hn] at h CP
  have CC := concatC_at w v n ps h (by omega) (by omega)
  obtain ⟨L, hrd, hLn, hpn, hall⟩ := id h
  obtain ⟨ao, cap, rfl, _, _, _, _⟩ := id hrd
  have CA := contA_at w _ n L hrd (by omega) (fun x hx => by
    obtain ⟨k, hk, rfl⟩ := List.getElem_of_mem hx
    exact (hall k L[k] ps[k] (List.getElem?_eq_getElem hk) (List.getElem?_eq_getElem (by omega))).2.1)
  have HFL : Hid (ps.flatten.length = n * 120) := Lib.hid (by
    rw [flat_len (fun p hp => ?_), hpn]
    obtain ⟨k, hk, rfl⟩ := List.getElem_of_mem hp
    exact (hall k L[k] ps[k] (List.getElem?_eq_getElem (by omega)) (List.getElem?_eq_getElem hk)).1)
  have HZ := Lib.hid hz
  clear h hrd hLn hpn hall hn hz
  have hne : ((n : Int) != (n : Int)) = false := by simp
  go_enter Tryz.func123, Tryz.ntmps123
  go_wp2_with fail
  refine CP.mono ?_
  rintro e w2 ⟨rfl, rfl⟩
  clear CP
  go_wp2_with fail
  refine CA.mono ?_
  rintro e w2 ⟨rfl, rfl⟩
  clear CA
  go_wp2_with fail
  refine CC.mono ?_
  rintro e w2 ⟨v2, rfl, ho2, hb2⟩
  obtain ⟨g, c2, cur, rfl, hgb, hgl, hc1, hc2, hgh, hcs, hct⟩ := rowSome ho2 (by omega)
  have HB2 := Lib.hid hb2
  obtain ⟨al, hal⟩ : ∃ x, ps.flatten = x := ⟨_, rfl⟩
  rw [hal] at HFL HZ hct
  have HAL := Lib.hid hal
  have hc2' : c2 ≤ 9223372036854775807 := by unfold maxLen at hc2; omega
  have hcell : ∀ (j : Nat) (x : Value), (cV al)[j]? = some x → w2.cell? ⟨g, j, none⟩ = some x := fun j x hx => by
    rw [← hct, List.getElem?_take] at hx
    split at hx
    · exact cellOf hgh j (by simpa using hx)
    · cases hx
  have hcut1 : ∀ W, (Instr.slice 119 (.slice (some ⟨g, 0, none⟩) (n * 120) c2) (some (.int .i64 (bl : Int))) none none).run Tryz.prog W = .ok (.slice (cutA (some ⟨g, 0, none⟩) c2 bl 1) (n * 120 - bl) (c2 - bl)) W := fun W => by
    rw [run_slice_l W 119 _ (n * 120) c2 undU16 .i64 (bl : Int) (by omega) (by omega), szU16]
    rfl
  have hcut2 : ∀ W, (Instr.slice 119 (.slice (some ⟨g, 0, none⟩) (n * 120) c2) none (some (.int .i64 (bl : Int))) (some (.int .i64 (bl : Int)))).run Tryz.prog W = .ok (.slice (some ⟨g, 0, none⟩) bl bl) W := fun W => by
    rw [run_slice_hm W 119 _ (n * 120) c2 undU16 .i64 .i64 (bl : Int) (bl : Int) (by omega) (by omega) (by omega), szU16]
    simp only [Result.andThen_ok, sliced, Int.toNat_natCast]
    rw [if_neg (by omega)]
    simp [Addr.add_lit]
  have HRES : Hid (Rd w2 1 (.slice (some ⟨g, 0, none⟩) bl bl) bl (cV (al.take bl))) := Lib.hid (by
    refine ⟨_, bl, rfl, by rw [cV_len, List.length_take, HFL.out]; omega, by unfold maxLen; omega, ⟨by simp, Nat.le_refl _, by unfold maxLen; omega⟩, fun j x hx => ⟨g, 0, rfl, hgl, ?_⟩⟩
    rw [Nat.zero_add]
    refine hcell j x ?_
    unfold cV at hx ⊢
    rw [List.map_take, List.getElem?_take] at hx
    split at hx
    · exact hx
    · cases hx)
  have HRT : Hid (Rd w2 1 (.slice (cutA (some ⟨g, 0, none⟩) c2 bl 1) (n * 120 - bl) (c2 - bl)) (n * 120 - bl) (cV (al.drop bl))) := Lib.hid (by
    have hrd2 : Rd w2 1 (.slice (some ⟨g, 0, none⟩) (n * 120) c2) (n * 120) (cV al) := by
      have h1 := Rd.of_own ho2
      rw [hal] at h1
      exact h1
    have h1 := hrd2.cut (l := bl) (k := n * 120) (by omega) (Nat.le_refl _)
    have e : ((cV al).drop (bl * 1)).take ((n * 120 - bl) * 1) = cV (al.drop bl) := by
      unfold cV
      rw [← List.map_drop, ← List.map_take, Nat.mul_one, Nat.mul_one, List.take_of_length_le (by rw [List.length_drop, HFL.out]; exact Nat.le_refl _)]
    rw [e] at h1
    exact h1)
  have CZ := contB_at w2 _ (n * 120 - bl) (al.drop bl) HRT.out (by omega) HZ.out
  clear CC ho2 hgb hgl hgh hcs hct hcell hal hb2
  go_wp2_with fail
  refine CZ.mono ?_
  rintro e w3 ⟨rfl, rfl⟩
  clear CZ
  go_wp2_with fail
  go_ret2
  refine ⟨_, rfl, ?_, HB2.out⟩
  rw [HAL.out]
  exact HRES.out
end Go.Proofs.YtcdobdjemlaaaaaGreat
