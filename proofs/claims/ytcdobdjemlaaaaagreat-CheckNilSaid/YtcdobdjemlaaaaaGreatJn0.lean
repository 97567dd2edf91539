/- page: Join, walked, with what it calls of slices. -/
import Derived.Lib.AppendZeros
import Derived.Test.YtcdobdjemlaaaaaGreatPg2
namespace Go.Proofs.YtcdobdjemlaaaaaGreat
open Go.RowKit Wire
set_option linter.unusedVariables false
set_option linter.unusedSimpArgs false

theorem infoU16 : (Tryz.prog.info? 60).map (fun i => (i.zero, i.size, i.bytes)) = some (some (.int .u16 0), 1, 2) := by kernel_rfl
set_option maxRecDepth 100000 in
set_option maxHeartbeats 3200000 in
theorem growC_at (w : World) (n : Nat) (h0 : 0 < n) (hn : n ≤ 1000000) : Calls Tryz.prog 182 #[.slice none 0 0, .int .i64 (n : Int)] w fun e w' => ∃ v, e = .returned v ∧ w'.ownsRow w.heap.size 60 1 v 0 [] ∧ Below w.heap.size w w' := by
  obtain ⟨i0, hi, hz0, hz1, hz2⟩ := info_parts infoU16
  have h := Lib.run_append_nil_zeros (P := Tryz.prog) w 119 3 119 60 i0 (.int .u16 0) .i64 .i64 Tryz.underlying119 Tryz.underlying3 hi hz0 n h0 (by rw [hz1]; omega) (by omega) (by rw [hz2]; omega)
  obtain ⟨cap, hcap⟩ : ∃ c, grownCap w n 0 60 = c := ⟨_, rfl⟩
  rw [hcap] at h
  have hge : n ≤ cap := by rw [← hcap]; exact grownCap_ge w n 0 _
  have hle : cap ≤ maxLen := by rw [← hcap]; exact grownCap_le_maxLen w n 0 _ (by unfold maxLen; omega)
  have hle2 : cap ≤ 9223372036854775807 := by unfold maxLen at hle; omega
  obtain ⟨w2, hw2⟩ : ∃ W, w.drew.alloc (.cells (Builtin.zeroCells (Value.int .u16 0).cells n ++ Builtin.zeroCells (Value.int .u16 0).cells (cap - n)) 60) = W := ⟨_, rfl⟩
  have HO : Hid (w2.ownsRow w.heap.size 60 1 (.slice (some ⟨w.heap.size, 0, none⟩) 0 cap) 0 []) := Lib.hid (by
    rw [← hw2]
    exact World.ownsRow_made w.drew _ cap (Nat.le_refl _) hle (by rw [Array.size_append, size_zeroCells, size_zeroCells]; show n * 1 + (cap - n) * 1 = cap * 1; omega))
  have HB : Hid (Below w.heap.size w w2) := Lib.hid (by rw [← hw2]; exact balloc (Below.refl _ _).drew _)
  have hcut : ∀ W, (Instr.slice 119 (.slice (some ⟨w.heap.size, 0, none⟩) n cap) none (some (.int .i64 0)) none).run Tryz.prog W = .ok (.slice (some ⟨w.heap.size, 0, none⟩) 0 cap) W := fun W => by
    rw [run_slice_h W 119 _ n cap undU16 .i64 0 (by omega) (by omega), szU16]
    simp [Result.andThen_ok, sliced, Addr.add_lit]
  have hcut0 : ∀ W, (Instr.slice 119 (.slice none 0 0) none (some (.int .i64 0)) none).run Tryz.prog W = .ok (.slice none 0 0) W := fun W => by kernel_rfl
  rw [hw2] at h
  clear hcap hw2 hi hz0 hz1 hz2
  go_enter Tryz.func182, Tryz.ntmps182
  go_wp2_with (at_builtin; refine Lib.wpList_append_run _ rfl _ _ _ _ rfl _ _ rfl rfl _ _ h ?_)
  go_ret
  exact ⟨_, rfl, HO.out, HB.out⟩
set_option maxRecDepth 100000 in
set_option maxHeartbeats 1600000 in
theorem join1_any (w : World) (a : Option Addr) (n c : Nat) : Calls Tryz.prog 155 #[.slice a n c] w fun e w' => e = .returned (.bool ((n : Int) != 120)) ∧ w = w' := by
  go_enter Tryz.func155, Tryz.ntmps155
  go_wp2_with fail
  go_ret
  exact ⟨rfl, rfl⟩
set_option maxRecDepth 100000 in
set_option maxHeartbeats 1600000 in
theorem join2_any (w : World) (c : Int) : Calls Tryz.prog 158 #[.int .u16 c] w fun e w' => e = .returned (.bool (c != 0)) ∧ w = w' := by
  go_enter Tryz.func158, Tryz.ntmps158
  go_wp2_with fail
  go_ret
  exact ⟨rfl, rfl⟩
set_option maxRecDepth 100000 in
set_option maxHeartbeats 3200000 in
theorem idxA_at (w : World) (v : Value) (n : Nat) (L : List Value) (hrd : Rd w 1 v n L) (hn : n ≤ 1000) (hL : ∀ x ∈ L, ∃ a c, x = .slice a 120 c) : Calls Tryz.prog 181 #[v, .func (.func 155) #[] #[]] w fun e w' => e = .returned (.int .i64 (-1)) ∧ w = w' := by
  have HLN : Hid (L.length = n) := Lib.hid (by obtain ⟨_, _, _, hl, _⟩ := hrd; simpa using hl)
  have HRD := Lib.hid hrd
  obtain ⟨ao, cap, rfl, _, _, _, _⟩ := id hrd
  clear hrd
  go_enter Tryz.func181, Tryz.ntmps181
  go_wp2_with fail
  go_loopw [8] (fun v wr => ∃ k : Nat, k ≤ n ∧ v = .int .i64 (k : Int) ∧ w = wr) (fun v _ => n - (Go.RowKit.intOf v).toNat)
  case atStart => exact ⟨0, by omega, rfl, rfl⟩
  case round =>
    obtain ⟨k, hk, rfl, rfl⟩ := hrel
    by_cases hlt : k < n
    · obtain ⟨x, hx⟩ : ∃ x, L[k]? = some x := ⟨_, List.getElem?_eq_getElem (by rw [HLN.out]; exact hlt)⟩
      obtain ⟨a1, c1, rfl⟩ := hL x (List.mem_of_getElem? hx)
      obtain ⟨ao', cap', e1, _, _, _, hcell⟩ := HRD.out
      obtain ⟨rfl, _, rfl⟩ := Value.slice.inj e1
      obtain ⟨b0, off, rfl, hb0, hc0⟩ := hcell k _ hx
      have CJ := join1_any w a1 120 c1
      clear e1 hcell hb0 hx
      go_wp2_with fail
      refine CJ.mono ?_
      rintro e w2 ⟨rfl, rfl⟩
      dsimp only
      clear CJ
      go_wp2_with fail
      go_roundw
      case rel => exact ⟨k + 1, by omega, by go_num, trivial⟩
      case measure => simp [Go.RowKit.intOf]; omega
    · obtain rfl : k = n := by omega
      go_wp2_with fail
      go_ret
      exact ⟨rfl, rfl⟩
set_option maxRecDepth 100000 in
set_option maxHeartbeats 1600000 in
theorem contA_at (w : World) (v : Value) (n : Nat) (L : List Value) (hrd : Rd w 1 v n L) (hn : n ≤ 1000) (hL : ∀ x ∈ L, ∃ a c, x = .slice a 120 c) : Calls Tryz.prog 154 #[v, .func (.func 155) #[] #[]] w fun e w' => e = .returned (.bool false) ∧ w = w' := by
  have CI := idxA_at w v n L hrd hn hL
  clear hrd hL
  go_enter Tryz.func154, Tryz.ntmps154
  go_wp2_with fail
  refine CI.mono ?_
  rintro e w2 ⟨rfl, rfl⟩
  clear CI
  go_wp2_with fail
  go_ret
  exact ⟨rfl, rfl⟩
set_option maxRecDepth 100000 in
set_option maxHeartbeats 3200000 in
theorem idxB_at (w : World) (v : Value) (n : Nat) (cs : List Nat) (hrd : Rd w 1 v n (cV cs)) (hn : n ≤ 100000) (hL : ∀ x ∈ cs, x = 0) : Calls Tryz.prog 183 #[v, .func (.func 158) #[] #[]] w fun e w' => e = .returned (.int .i64 (-1)) ∧ w = w' := by
  have HLN : Hid (cs.length = n) := Lib.hid (by obtain ⟨_, _, _, hl, _⟩ := hrd; simpa [cV_len] using hl)
  have HRD := Lib.hid hrd
  obtain ⟨ao, cap, rfl, _, _, _, _⟩ := id hrd
  clear hrd
  go_enter Tryz.func183, Tryz.ntmps183
  go_wp2_with fail
  go_loopw [8] (fun v wr => ∃ k : Nat, k ≤ n ∧ v = .int .i64 (k : Int) ∧ w = wr) (fun v _ => n - (Go.RowKit.intOf v).toNat)
  case atStart => exact ⟨0, by omega, rfl, rfl⟩
  case round =>
    obtain ⟨k, hk, rfl, rfl⟩ := hrel
    by_cases hlt : k < n
    · obtain ⟨x, hx⟩ : ∃ x, cs[k]? = some x := ⟨_, List.getElem?_eq_getElem (by rw [HLN.out]; exact hlt)⟩
      obtain rfl := hL x (List.mem_of_getElem? hx)
      obtain ⟨ao', cap', e1, _, _, _, hcell⟩ := HRD.out
      obtain ⟨rfl, _, rfl⟩ := Value.slice.inj e1
      obtain ⟨b0, off, rfl, hb0, hc0⟩ := hcell k _ (cV_get hx)
      have CJ := join2_any w ((0 : Nat) : Int)
      clear e1 hcell hb0 hx
      go_wp2_with fail
      refine CJ.mono ?_
      rintro e w2 ⟨rfl, rfl⟩
      dsimp only
      clear CJ
      go_wp2_with fail
      go_roundw
      case rel => exact ⟨k + 1, by omega, by go_num, trivial⟩
      case measure => simp [Go.RowKit.intOf]; omega
    · obtain rfl : k = n := by omega
      go_wp2_with fail
      go_ret
      exact ⟨rfl, rfl⟩
set_option maxRecDepth 100000 in
set_option maxHeartbeats 1600000 in
theorem contB_at (w : World) (v : Value) (n : Nat) (cs : List Nat) (hrd : Rd w 1 v n (cV cs)) (hn : n ≤ 100000) (hL : ∀ x ∈ cs, x = 0) : Calls Tryz.prog 157 #[v, .func (.func 158) #[] #[]] w fun e w' => e = .returned (.bool false) ∧ w = w' := by
  have CI := idxB_at w v n cs hrd hn hL
  clear hrd hL
  go_enter Tryz.func157, Tryz.ntmps157
  go_wp2_with fail
  refine CI.mono ?_
  rintro e w2 ⟨rfl, rfl⟩
  clear CI
  go_wp2_with fail
  go_ret
  exact ⟨rfl, rfl⟩
/-- Pages in memory: a slice of slices of 120 counts. -/
def PgsAt (w : World) (v : Value) (n : Nat) (ps : List (List Nat)) : Prop := ∃ L, Rd w 1 v n L ∧ L.length = n ∧ ps.length = n ∧ ∀ (k : Nat) (x : Value) (p : List Nat), L[k]? = some x → ps[k]? = some p → p.length = 120 ∧ (∃ a c, x = .slice a 120 c) ∧ Rd w 1 x 120 (cV p)
theorem PgsAt.below {w w' : World} {v : Value} {n : Nat} {ps : List (List Nat)} (h : PgsAt w v n ps) (hb : Below w.heap.size w w') : PgsAt w' v n ps := by
  obtain ⟨L, h1, h2, h3, h4⟩ := h
  exact ⟨L, h1.below hb, h2, h3, fun k x p hx hp => ⟨(h4 k x p hx hp).1, (h4 k x p hx hp).2.1, (h4 k x p hx hp).2.2.below hb⟩⟩
theorem cV_app (a b : List Nat) : cV (a ++ b) = cV a ++ cV b := by unfold cV; rw [List.map_append]
theorem flat_take {ps : List (List Nat)} {k : Nat} {p : List Nat} (h : ps[k]? = some p) : (ps.take (k + 1)).flatten = (ps.take k).flatten ++ p := by
  rw [List.take_add_one, h, List.flatten_append]
  simp
theorem flat_len : ∀ {ps : List (List Nat)}, (∀ p ∈ ps, p.length = 120) → ps.flatten.length = ps.length * 120
  | [], _ => rfl
  | p :: ps, h => by
    rw [List.flatten_cons, List.length_append, h p (List.mem_cons_self ..), flat_len (fun q hq => h q (List.mem_cons_of_mem _ hq)), List.length_cons]
    omega
set_option maxRecDepth 100000 in
set_option maxHeartbeats 6400000 in
theorem concatC_at (w : World) (v : Value) (n : Nat) (ps : List (List Nat)) (h : PgsAt w v n ps) (h0 : 0 < n) (hn : n ≤ 1000) : Calls Tryz.prog 156 #[v] w fun e w' => ∃ v', e = .returned v' ∧ w'.ownsRow w.heap.size 60 1 v' (n * 120) (cV ps.flatten) ∧ Below w.heap.size w w' := by
  have HP := Lib.hid h
  obtain ⟨L, hrd, hLn, hpn, hall⟩ := id h
  obtain ⟨ao, cap, rfl, _, _, _, _⟩ := id hrd
  have HLN := Lib.hid hLn
  have HPN := Lib.hid hpn
  have HALL : Hid (∀ X, Below w.heap.size w X → ∀ k, k < n → ∃ b0 off a c p, ao = some ⟨b0, off, none⟩ ∧ X.cell? ⟨b0, off + k, none⟩ = some (.slice a 120 c) ∧ ps[k]? = some p ∧ p.length = 120 ∧ Rd X 1 (.slice a 120 c) 120 (cV p)) := Lib.hid (fun X hX k hk => by
    obtain ⟨x, hx⟩ : ∃ x, L[k]? = some x := ⟨_, List.getElem?_eq_getElem (by omega)⟩
    obtain ⟨p, hp⟩ : ∃ p, ps[k]? = some p := ⟨_, List.getElem?_eq_getElem (by omega)⟩
    obtain ⟨h1, ⟨a, c, rfl⟩, h3⟩ := hall k x p hx hp
    obtain ⟨ao', cap', e1, _, _, _, hcell⟩ := hrd.below hX
    obtain ⟨rfl, _, _⟩ := Value.slice.inj e1
    obtain ⟨b0, off, e2, _, hc⟩ := hcell k _ hx
    exact ⟨b0, off, a, c, p, e2, hc, hp, h1, h3.below hX⟩)
  clear h hrd hLn hpn hall
  go_enter Tryz.func156, Tryz.ntmps156
  go_wp2_with fail
  go_loopw [3, 11] (fun s v wr => ∃ k : Nat, k ≤ n ∧ v = .int .i64 (k : Int) ∧ s = .int .i64 ((k * 120 : Nat) : Int) ∧ w = wr) (fun _ v _ => n - (Go.RowKit.intOf v).toNat)
  case atStart => exact ⟨0, by omega, rfl, rfl, rfl⟩
  case round =>
    obtain ⟨k, hk, rfl, rfl, rfl⟩ := hrel
    by_cases hlt : k < n
    · obtain ⟨b0, off, a, c, p, rfl, hc0, _, _, _⟩ := HALL.out w (Below.refl _ _) k hlt
      go_wp2_with fail
      go_roundw
      case rel => exact ⟨k + 1, by omega, by go_num, by go_num, trivial⟩
      case measure => simp [Go.RowKit.intOf]; omega
    · obtain rfl : k = n := by omega
      have CG := growC_at w (k * 120) (by omega) (by omega)
      go_wp2_with fail
      refine CG.mono ?_
      rintro e w2 ⟨v2, rfl, ho2, hb2⟩
      have HO2 := Lib.hid ho2
      have HB2 := Lib.hid hb2
      clear CG ho2 hb2
      go_wp2_with fail
      go_loopw [6, 27] (fun s v wr => ∃ j : Nat, j ≤ k ∧ v = .int .i64 (j : Int) ∧ wr.ownsRow w.heap.size 60 1 s (j * 120) (cV (ps.take j).flatten) ∧ Below w.heap.size w wr) (fun _ v _ => k - (Go.RowKit.intOf v).toNat)
      case atStart => exact ⟨0, by omega, rfl, by simpa [cV] using HO2.out, HB2.out⟩
      case round =>
        obtain ⟨j, hj, rfl, ho, hb⟩ := hrel
        have HO := Lib.hid ho
        have HB := Lib.hid hb
        clear ho hb
        by_cases hlt : j < k
        · obtain ⟨b0, off, a, c, p, rfl, hc0, hp, hpl, hrp⟩ := HALL.out wr HB.out j hlt
          have HFT := Lib.hid (flat_take hp)
          have HRP := Lib.hid hrp
          clear hp hrp
          go_wp2_with (at_builtin; go_must (refine wpList_apps rfl _ _ 119 rfl w.heap.size 60 _ 1 2 Tryz.underlying119 infoU16 rfl (by decide) (by decide) _ (j * 120) _ (by rfl) HO.out _ 120 _ (by rfl) HRP.out (cV_one p) (by omega) HB.out.size ?_); intro v7 w7 ho7 hb7 hg7 hs7 hn7)
          have HO7 : Hid (w7.ownsRow w.heap.size 60 1 v7 ((j + 1) * 120) (cV (ps.take (j + 1)).flatten)) := Lib.hid (by rw [HFT.out, cV_app, show (j + 1) * 120 = j * 120 + 120 by omega]; exact ho7)
          have HB7 := Lib.hid (HB.out.trans hb7)
          clear ho7 hb7 hg7 hs7 hn7
          go_wp2_with fail
          go_roundw
          case rel => exact ⟨j + 1, by omega, by go_num, HO7.out, HB7.out⟩
          case measure => simp [Go.RowKit.intOf]; omega
        · obtain rfl : j = k := by omega
          have HOE := HO.out
          rw [List.take_of_length_le (by rw [HPN.out]; exact Nat.le_refl _)] at HOE
          go_wp2_with fail
          go_ret
          exact ⟨_, rfl, HOE, HB.out⟩
end Go.Proofs.YtcdobdjemlaaaaaGreat
