/- The reference's Pack, walked. -/
import Derived.Test.YtgkelbdgdhkeoaaCmdR6
namespace Go.Proofs.Ytgkelbdgdhkeoaa
open Go.RowKit
set_option linter.unusedVariables false
set_option linter.unusedSimpArgs false
open Wire Cmd

set_option maxRecDepth 100000 in
set_option maxHeartbeats 6400000 in
theorem rpackO_any (o : Op0) (ok : o.Ok) (sl : Value) (w : World) (hd : Rd w 1 sl o.data.length (bV o.data)) (hl : o.data.length ≤ 1000000) (bs : List UInt8) (hbs : pack (49 :: shS (nm o.k)) (num (toU o.k) :: vals o (nm o.k)) = some bs) :
    Calls Try.prog 27 #[.agg (oC o sl)] w fun e w' => ∃ v', e = .returned v' ∧ w'.ownsRow w.heap.size 5 1 v' bs.length (bV bs) ∧ Below w.heap.size w w' := by
  have CV : Hid (∀ (c : UInt8), c ∈ nm o.k → ∀ W : World, Calls Try.prog 92 #[.agg (oC o sl), .int .u8 (c.toNat : Int)] W fun e w' => ∃ RC sl', e = .returned (.agg RC.toArray) ∧ RC = rC (vaL (c.toNat : Int) o) sl' ∧ RC.length = 260 ∧ (∀ u ∈ RC, u.oneCell' = true) ∧ Rd w 1 sl' (vaL (c.toNat : Int) o).b.length (bV (vaL (c.toNat : Int) o).b) ∧ Below W.heap.size W w') := Lib.hid (fun c hc W => by
    refine (rvalue_any o c (nm_six o.k c hc) sl w W hd).mono ?_
    rintro e w' ⟨sl', rfl, hrd, hb⟩
    refine ⟨_, sl', rfl, rfl, rC_len (vaL_ok o ok _).x, rC_one' ?_, hrd, hb⟩
    obtain ⟨ao, cap, rfl, _⟩ := hrd
    rfl)
  have HVAL := Lib.hid (fun (l : List UInt8) (cs : List (V × Value)) (c : UInt8) (h : cs.map Prod.fst = num (toU o.k) :: vals o l) (sl' : Value) => show (cs ++ [(vaL (c.toNat : Int) o, sl')]).map Prod.fst = num (toU o.k) :: vals o (l ++ [c]) by
    rw [List.map_append, h, vals_snoc]; rfl)
  have HOKL := Lib.hid (fun c => vaL_ok o ok c)
  have CN := rnames_any o.k
  have CSH := rshape_any o.k
  have HIO : Hid ((Try.prog.info? 26).map (·.size) = some 7) := Lib.hid infoOp
  have hwk := u64_wrap o.k
  have HCS : Hid (chs (strB (nm o.k)) = nm o.k) := Lib.hid (by simp [chs, strB])
  have hsz : (strB (nm o.k)).size ≤ 3 := by rw [← chs_len]; simp only [chs, strB]; simpa using nm_len o.k
  have HPK : Hid (∀ W v' cs, RVrow w (w.heap.size + 1) W v' cs → Below w.heap.size w W → cs.map Prod.fst = num (toU o.k) :: vals o (nm o.k) → Calls Try.prog 93 #[.string ((⟨#[49]⟩ : ByteArray) ++ strB (shS (nm o.k))), v'] W (PackP W (some bs))) := Lib.hid (fun W v' cs hr hb he => by
    obtain ⟨ao, cap, rfl, hv⟩ := hr.rvs hb
    rw [he] at hv
    have hln : cs.length ≤ 4 := by
      have h1 : (cs.map Prod.fst).length = _ := congrArg List.length he
      rw [List.length_map, List.length_cons] at h1
      unfold vals at h1
      rw [List.length_map] at h1
      have := nm_len o.k
      omega
    have h := rpack_big ((⟨#[49]⟩ : ByteArray) ++ strB (shS (nm o.k))) ao cs.length cap _ W hv (by omega) (by
      rw [ByteArray.size_append, str_size]
      unfold shS
      rw [List.length_map]
      have := nm_len o.k
      have h2 : (⟨#[49]⟩ : ByteArray).size = 1 := rfl
      omega) (by
      intro v hv
      rcases List.mem_cons.1 hv with rfl | hv
      · exact Nat.zero_le _
      · exact Nat.le_trans (vals_blen o _ v hv) hl)
    rw [str_cons, chs_str, hbs] at h
    rw [str_cons]
    exact h)
  have HSHL : (strB (shS (nm o.k))).size ≤ 3 := by
    rw [str_size]; unfold shS; rw [List.length_map]; exact nm_len o.k
  have hb := balloc (Below.refl _ w) (.cells (oC o sl) 26)
  have HB0 := Lib.hid hb
  have hbx := heap_alloc_new w (.cells (oC o sl) 26)
  obtain ⟨OC, hOC, hol, hog⟩ : ∃ OC : List Value, oC o sl = OC.toArray ∧ OC.length = 7 ∧ OC[0]? = some (.int .i64 o.k) := ⟨_, rfl, rfl, rfl⟩
  have HRO : Hid (∀ W, Below (w.heap.size + 1) (w.alloc (.cells (oC o sl) 26)) W → W.rangeAt w.heap.size 0 OC) := Lib.hid (fun W hW j u hj => by
    rw [Nat.zero_add]
    have h1 := (hW.block w.heap.size (Nat.lt_succ_self _)).trans hbx
    exact cellIs h1 (by rw [hOC]; simpa using hj))
  rw [hOC] at CV
  have HOC := Lib.hid (And.intro hol hog)
  have HE0 : Hid (∀ W : World, W.rangeAt w.heap.size 0 OC → W.cell? ⟨w.heap.size, 0, none⟩ = some (.int .i64 o.k)) := Lib.hid (fun W h => h 0 _ hog)
  have HI1 : Hid ((Try.prog.info? 26).map (·.size) = some OC.length) := Lib.hid (by rw [hol]; exact infoOp)
  have HRR0 := HRO.out (w.alloc (.cells (oC o sl) 26)) (Below.refl _ _)
  have e0 := HE0.out _ HRR0
  have HMK := Lib.hid (mk_num (toU o.k))
  have HSLN : Hid (Rd w 1 (.slice none 0 0) (num (toU o.k)).b.length (bV (num (toU o.k)).b)) := Lib.hid (Rd.of_own (World.ownsRow_nil w 0 5 1))
  have HOK0 : Hid ((num (toU o.k)).Ok) := Lib.hid ⟨u64_lt _, rep256⟩
  have HRC0 := Lib.hid (rC_one' (v := num (toU o.k)) (sl := .slice none 0 0) (by rfl))
  unfold oC at *
  clear hb hbx hOC hol hog
  generalize toU o.k = q at *
  obtain ⟨RC, hRC, hrl, hone, HMK2⟩ : ∃ RC : List Value, RC = rC (num q) (.slice none 0 0) ∧ RC.length = 260 ∧ (∀ u ∈ RC, u.oneCell' = true) ∧ Hid (∀ W, Calls Try.prog 90 #[.int .u64 (q : Int)] W fun e w' => e = .returned (.agg RC.toArray) ∧ Below W.heap.size W w') := ⟨_, rfl, rC_len rep256, HRC0.out, HMK⟩
  have HRCE := Lib.hid hRC
  clear hRC HMK HRC0
  go_enter Try.func27, Try.ntmps27
  go_wp2_with fail
  refine (HMK2.out _).mono ?_
  rintro e w2 ⟨rfl, hb2⟩
  clear e0
  have hr2 := HRO.out w2 (hb2.mono (by simp))
  have hr3 := rangeAt_below hr2 (by have := hb2.size; simp at this; omega) (balloc (Below.refl _ w2) (.cells RC.toArray 136))
  have HR3 := Lib.hid hr3
  have HB2 := Lib.hid (balloc (bthen HB0.out hb2) (.cells RC.toArray 136))
  have HLT : Hid (w.heap.size + 1 ≤ w2.heap.size) := Lib.hid (by have := hb2.size; simpa using this)
  have HOW : Hid (RVrow w (w.heap.size + 1) (w2.alloc (.cells RC.toArray 136)) (.slice (some ⟨w2.heap.size, 0, none⟩) 1 1) [(num q, .slice none 0 0)]) := Lib.hid ⟨by
    have h := own_new w2 (w.heap.size + 1) HLT.out 136 RC 260 hrl
    have e : ([((num q, Value.slice none 0 0) : V × Value)].map fun p => rC p.1 p.2).flatten = RC := by rw [HRCE.out]; simp
    rw [e]; exact h, fun p hp => by
    obtain rfl : p = (num q, Value.slice none 0 0) := by simpa using hp
    exact ⟨HOK0.out, HSLN.out⟩⟩
  have e0 := HE0.out _ hr3
  clear hb2 hr2 hr3
  go_wp2_with (refine wpList_build1 rfl _ 138 136 260 _ RC rfl rfl Try.underlying138 infoRV3 zsz2 hrl (by omega) (by omega) ?_)
  refine (CN _).mono ?_
  rintro e w3 ⟨rfl, rfl⟩
  obtain ⟨W3, hW3⟩ : ∃ W, w2.alloc (.cells RC.toArray 136) = W := ⟨_, rfl⟩
  have HGE : Hid (w.heap.size + 1 ≤ W3.heap.size) := Lib.hid (by rw [← hW3, World.size_alloc]; have := HLT.out; omega)
  rw [hW3] at HR3 HB2 HOW e0 ⊢
  clear hW3 e0
  generalize hs : strB (nm o.k) = s at *
  clear hs
  go_wp2_with fail
  go_loopw [5, 3] (fun i a wr => ∃ (p : Nat) (v' : Value) (cs : List (V × Value)), p ≤ s.size ∧ i = .int .i64 (p : Int) ∧ v' = a ∧ RVrow w (w.heap.size + 1) wr v' cs ∧ cs.map Prod.fst = num q :: vals o ((nm o.k).take p) ∧ wr.rangeAt w.heap.size 0 OC ∧ Below w.heap.size w wr ∧ w.heap.size + 1 ≤ wr.heap.size) (fun i _ _ => s.size - (intOf i).toNat)
  case atStart => exact ⟨0, _, _, by omega, rfl, rfl, HOW.out, rfl, HR3.out, HB2.out, HGE.out⟩
  case round =>
    obtain ⟨p, v', cs, hp, rfl, rfl, ho, hcs, hr, hb, hge⟩ := hrel
    have HO := Lib.hid ho
    have HCL := Lib.hid hcs
    have HBW := Lib.hid hb
    have HRW := Lib.hid hr
    have HGW := Lib.hid hge
    clear ho hcs hb hr hge
    by_cases hlt : p < s.size
    · have hget := chs_get hlt
      rw [HCS.out] at hget
      have hmem := List.mem_of_getElem? hget
      have HT : Hid ((nm o.k).take (p + 1) = (nm o.k).take p ++ [s[p]'hlt]) := Lib.hid (by rw [List.take_add_one, hget]; rfl)
      have CVc := Lib.hid (CV.out _ hmem)
      have HCB : Hid ((cs.length + 1) * 304 ≤ 140737488355328) := Lib.hid (by
        have h1 : (cs.map Prod.fst).length = _ := congrArg List.length HCL.out
        rw [List.length_map, List.length_cons] at h1
        unfold vals at h1
        rw [List.length_map, List.length_take] at h1
        omega)
      clear hget hmem
      go_wp2_with fail
      refine wp_region_held_drew (S := fun X => X.rangeAt w.heap.size 0 OC) (by kernel_rfl) ?_ (fun hHeld => ?_)
      · exact HRW.out
      refine wpAnyH_take (i := 0) (v := ?_) rfl (by kernel_rfl) (by kernel_rfl) (by kernel_rfl) (fun _ _ _ h => h) (Or.inl ⟨by rfl, ?_⟩) (by assumption) ?_
      rotate_left
      · (intro w hSw; (try dsimp only at hSw); simp only [List.getElem_toArray, List.getElem_cons_zero, List.getElem_cons_succ]; go_simp; first | done | with_reducible rfl)
      simp only [List.getElem_toArray, List.getElem_cons_zero, List.getElem_cons_succ, Act.put, List.setIfInBounds_toArray, List.set_cons_zero, List.set_cons_succ]
      refine wpAnyH_take (i := 1) (v := _) rfl (by kernel_rfl) (by kernel_rfl) (by kernel_rfl) (fun _ _ _ h => h) (yieldsIf_load_mid (by rfl) 26 _ rfl (w.heap.size) (0) rfl (OC) _ (fun w hw => hw) (Try.underlying26) rfl (HI1.out)) (by assumption) ?_
      simp only [List.getElem_toArray, List.getElem_cons_zero, List.getElem_cons_succ, Act.put, List.setIfInBounds_toArray, List.set_cons_zero, List.set_cons_succ]
      refine wpAnyH_take (i := 2) (v := ?_) rfl (by kernel_rfl) (by kernel_rfl) (by kernel_rfl) (fun _ _ _ h => h) (Or.inl ⟨by rfl, ?_⟩) (by assumption) ?_
      rotate_left
      · (intro w hSw; (try dsimp only at hSw); simp only [List.getElem_toArray, List.getElem_cons_zero, List.getElem_cons_succ]; go_simp; first | done | with_reducible rfl)
      simp only [List.getElem_toArray, List.getElem_cons_zero, List.getElem_cons_succ, Act.put, List.setIfInBounds_toArray, List.set_cons_zero, List.set_cons_succ]
      refine wpAnyH_take (i := 3) (v := ?_) rfl (by kernel_rfl) (by kernel_rfl) (by kernel_rfl) (fun _ _ _ h => h) (Or.inl ⟨by rfl, ?_⟩) (by assumption) ?_
      rotate_left
      · (intro w hSw; (try dsimp only at hSw); simp only [List.getElem_toArray, List.getElem_cons_zero, List.getElem_cons_succ]; go_simp; first | done | with_reducible rfl)
      simp only [List.getElem_toArray, List.getElem_cons_zero, List.getElem_cons_succ, Act.put, List.setIfInBounds_toArray, List.set_cons_zero, List.set_cons_succ]
      refine wpAnyH_take (i := 4) (v := ?_) rfl (by kernel_rfl) (by kernel_rfl) (by kernel_rfl) (fun _ _ _ h => h) (Or.inl ⟨by rfl, ?_⟩) (by assumption) ?_
      rotate_left
      · (intro w hSw; (try dsimp only at hSw); simp only [List.getElem_toArray, List.getElem_cons_zero, List.getElem_cons_succ]; go_simp; first | done | with_reducible rfl)
      simp only [List.getElem_toArray, List.getElem_cons_zero, List.getElem_cons_succ, Act.put, List.setIfInBounds_toArray, List.set_cons_zero, List.set_cons_succ]
      refine wpAnyH_ready (rs := [5]) (by kernel_rfl) (by simp) ?_
      refine AllReadyH.cons rfl (fun K hK => ?_) AllReadyH.nil
      simp only [List.getElem_toArray, List.getElem_cons_zero, List.getElem_cons_succ]
      go_simp
      refine (CVc.out _).mono ?_
      rintro e w5 ⟨RD, sl5, rfl, hRD, hdl, hdone, hrd5, hb5⟩
      dsimp only
      refine hK.out _ _ ?_ (fun hHeld => ?_)
      · exact rangeAt_below HRW.out (by have := HGW.out; omega) (bthen ((Below.refl _ wr).drew) hb5)
      clear hK K
      try simp only [Act.put, List.setIfInBounds_toArray, List.set_cons_zero, List.set_cons_succ]
      have HB5 := Lib.hid (bthen ((Below.refl _ wr).drew) hb5)
      have HO5 := Lib.hid (HO.out.below HB5.out)
      have HR5 := Lib.hid (rangeAt_below HRW.out (by have := HGW.out; omega) HB5.out)
      have HL5 : Hid (w.heap.size + 1 ≤ w5.heap.size) := Lib.hid (Nat.le_trans HGW.out HB5.out.size)
      clear hb5
      refine wpAnyH_ready (rs := [6]) (by kernel_rfl) (by simp) ?_
      refine AllReadyH.cons rfl (fun K hK => ?_) AllReadyH.nil
      simp only [List.getElem_toArray, List.getElem_cons_zero, List.getElem_cons_succ]
      rw [if_pos (by rfl)]
      refine wp_build1 _ 138 136 260 _ RD rfl rfl Try.underlying138 infoRV3 zsz2 hdl (by omega) (by omega) ?_
      intro W6 hW6
      refine hK.out _ _ ?_ (fun hHeld => ?_)
      · exact (by subst hW6; exact rangeAt_below HR5.out (by have := HL5.out; omega) (balloc (Below.refl _ _) _))
      clear hK K
      try simp only [Act.put, List.setIfInBounds_toArray, List.set_cons_zero, List.set_cons_succ]
      refine wpAnyH_ready (rs := [7]) (by kernel_rfl) (by simp) ?_
      refine AllReadyH.cons rfl (fun K hK => ?_) AllReadyH.nil
      simp only [List.getElem_toArray, List.getElem_cons_zero, List.getElem_cons_succ]
      rw [if_pos (by rfl)]
      refine wp_app1 _ _ 138 rfl (w.heap.size + 1) 136 _ 260 304 Try.underlying138 infoRV4 zagg (by decide) (by decide) v' cs.length _ rfl HO5.out.1 hW6 rfl (by rw [List.size_toArray]; exact hdl) (by simpa using hdone) HCB.out HL5.out ?_
      intro v7 w7 ho7 hb7
      refine hK.out _ _ ?_ (fun hHeld => ?_)
      · exact rangeLow HR5.out (Nat.lt_succ_self _) hb7
      clear hK K
      try simp only [Act.put, List.setIfInBounds_toArray, List.set_cons_zero, List.set_cons_succ]
      refine wpAnyH_take (i := 8) (v := ?_) rfl (by kernel_rfl) (by kernel_rfl) (by kernel_rfl) (fun _ _ _ h => h) (Or.inl ⟨by rfl, ?_⟩) (by assumption) ?_
      rotate_left
      · (intro w hSw; (try dsimp only at hSw); simp only [List.getElem_toArray, List.getElem_cons_zero, List.getElem_cons_succ]; go_simp; first | done | with_reducible rfl)
      simp only [List.getElem_toArray, List.getElem_cons_zero, List.getElem_cons_succ, Act.put, List.setIfInBounds_toArray, List.set_cons_zero, List.set_cons_succ]
      refine wpAnyH_done (by kernel_rfl) ?_ _
      have HO7 : Hid (RVrow w (w.heap.size + 1) w7 v7 (cs ++ [(vaL ((s[p]'hlt).toNat : Int) o, sl5)])) := Lib.hid ⟨by
        have e : ((cs ++ [(vaL ((s[p]'hlt).toNat : Int) o, sl5)]).map fun p => rC p.1 p.2).flatten = (cs.map fun p => rC p.1 p.2).flatten ++ RD := by rw [hRD]; simp
        rw [e, List.length_append]
        simpa using ho7, fun z hz => by
        rcases List.mem_append.1 hz with h | h
        · exact HO5.out.2 z h
        · obtain rfl : z = (vaL ((s[p]'hlt).toNat : Int) o, sl5) := by simpa using h
          exact ⟨HOKL.out _, hrd5⟩⟩
      have HR7 := Lib.hid (rangeLow HR5.out (Nat.lt_succ_self _) hb7)
      have HB7 : Hid (Below w.heap.size w w7) := Lib.hid ((bthen HBW.out HB5.out).trans (hb7.mono (Nat.le_succ _)))
      have HG7 : Hid (w.heap.size + 1 ≤ w7.heap.size) := Lib.hid (Nat.le_trans HL5.out hb7.size)
      have HC7 := Lib.hid (HVAL.out _ cs (s[p]'hlt) HCL.out sl5)
      clear ho7 hb7 hrd5 hRD hdl hdone
      go_wp2_with fail
      go_roundw
      case rel => exact ⟨p + 1, v7, _, by omega, by go_num, rfl, HO7.out, by rw [HT.out]; exact HC7.out, HR7.out, HB7.out, HG7.out⟩
      case measure => simp [intOf] <;> omega
    · obtain rfl : p = s.size := by omega
      have hfin : cs.map Prod.fst = num q :: vals o (nm o.k) := by
        rw [HCL.out, List.take_of_length_le (by rw [← HCS.out, chs_len]; exact Nat.le_refl _)]
      have CP := Lib.hid (HPK.out wr v' cs HO.out HBW.out hfin)
      have e0 := HE0.out _ HRW.out
      clear hfin
      go_wp2_with fail
      refine (CSH _).mono ?_
      rintro e w4 ⟨rfl, rfl⟩
      go_wp2_with fail
      refine (CP.out).mono ?_
      rintro e w4 ⟨hb4, v4, rfl, ho4⟩
      go_wp2_with fail
      go_ret
      exact ⟨v4, rfl, ownsRow_base ho4 (by have := HGW.out; omega), bthen HBW.out hb4⟩
end Go.Proofs.Ytgkelbdgdhkeoaa
