import Derived.Test.YtgmahhdnjikdjaaGreatPG26
import Derived.Test.YtgmahhdnjikdjaaGreatPG27
set_option linter.unusedVariables false
set_option linter.unusedSimpArgs false
/- repair: planned, walked. -/
namespace Go.Proofs.YtgmahhdnjikdjaaGreat
open Go.RowKit Go.Maps Wire
set_option linter.unusedVariables false
set_option linter.unusedSimpArgs false
def isR (b : Bool) : DataW Unit := .lit (.bool b)
def RIr (v : Value) : Option (DataW Unit × List MemPlace) :=
 match v with
 | .agg ⟨[.bool b]⟩ => some (isR b, [])
 | _ => none
theorem undWay : Tryz.prog.underlying 125 = some (.map 26 205) := by kernel_rfl
theorem undKey : Tryz.prog.underlying 26 = some (.int .u64) := Tryz.underlying26
theorem bWay (W : World) : (Instr.build 205 #[(0, .bool true)]).run Tryz.prog W = .ok (.agg #[.bool true]) W := run_build W 205 _ _ (by kernel_rfl)
/-- The first entry of a plan's way. -/
theorem way_put (W : World) : ∃ W2, (Instr.mapUpdate 125 (.map (some W.heap.size)) (.int .u64 0) (.agg #[.bool true])).run Tryz.prog (W.alloc (.map #[] 0)) = .ok () W2 ∧ Below W.heap.size W W2 := by
 obtain ⟨wz, hup, _, hm⟩ := (mapL_new (f := isR) W Tryz.prog 26 RIr .u64).put undKey undWay (by decide) (n := 0) (by decide) (v := .agg #[.bool true]) (a := true) (ps := []) rfl
 have hb := balloc (Below.refl W.heap.size W) (.map #[] 0)
 exact ⟨wz, hup, hb.trans (hm.below (fun k hk => by rw [List.mem_singleton.1 hk]; exact Nat.le_refl _) hb.size)⟩
theorem VwAt.sup {W : World} {V mp : Nat} {s : Su} (h : VwAt W V mp s) : W.rangeAt V 0 (suL s) := fun j v hj =>
 rangeOf (show W.heap[V]? = some (.cells (suL s ++ [Value.map (some mp)]).toArray 142 (0, 0)) from h.1) j v (by
  rw [List.getElem?_append_left (List.getElem?_eq_some_iff.1 hj).1]
  exact hj)
theorem pl_built (V B wy : Nat) (s : Su) : Tryz.prog.built 128 [(0, .pointer (some ⟨V, 0, none⟩)), (1, .pointer (some ⟨B, 0, none⟩)), (6, .agg (suL s).toArray), (2, .map (some wy))] = some (plC V B wy s false) := by kernel_rfl
/-- What planned answers where there is a plan that changes nothing. -/
def PlanP (w : World) (s : Su) (e : Ending) (w' : World) : Prop := ∃ p V B wy, e = .returned (.tuple #[.pointer (some ⟨p, 0, none⟩), .int .i64 0]) ∧ w'.heap[p]? = some (.cells (plC V B wy s false) 128 (0, 0)) ∧ Below w.heap.size w w'
set_option maxRecDepth 100000 in
set_option maxHeartbeats 6400000 in
theorem planned_err (w : World) (a : Option Addr) (er : Int) (he : er ≠ 0) (hc : Calls Tryz.prog 58 #[.pointer a] w fun e w' => e = .returned (.tuple #[.pointer none, .int .i64 er]) ∧ Below w.heap.size w w') :
  Calls Tryz.prog 57 #[.pointer a] w fun e w' => e = .returned (.tuple #[.pointer none, .int .i64 er]) ∧ Below w.heap.size w w' := by
 have hez : (er == 0) = false := by simp [he]
 have hez2 : (er != 0) = true := by simp [he]
 go_enter Tryz.func57, Tryz.ntmps57
 go_wp2_with fail
 refine hc.mono ?_
 rintro e w1 ⟨rfl, hb1⟩
 dsimp only
 have HB1 := Lib.hid hb1
 clear hc hb1
 go_wp2_with fail
 go_ret2
 exact ⟨rfl, HB1.out⟩
set_option maxRecDepth 100000 in
set_option maxHeartbeats 12800000 in
theorem planned_ok (w : World) (B : Nat) (s : Su) (hr : s.top = 0 ∧ s.base = 0 ∧ s.stage = 0) (hc : Calls Tryz.prog 58 #[.pointer (some ⟨B, 0, none⟩)] w (LiesP w s)) (hf : ∀ X, Below w.heap.size w X → Calls Tryz.prog 105 #[.pointer (some ⟨B, 0, none⟩)] X fun e w' => e = .returned (.bool true) ∧ Below X.heap.size X w') :
  Calls Tryz.prog 57 #[.pointer (some ⟨B, 0, none⟩)] w (PlanP w s) := by
 have HF := Lib.hid hf
 clear hf
 have HRT := Lib.hid hr
 obtain ⟨SL, hSL⟩ : ∃ L, suL s = L := ⟨_, rfl⟩
 have HSL := Lib.hid hSL
 have HS19 : Hid (SL.length = 19) := Lib.hid (by rw [← hSL]; rfl)
 clear hSL hr
 go_enter Tryz.func57, Tryz.ntmps57
 go_wp2_with fail
 refine hc.mono ?_
 rintro e w1 ⟨V, mp, rfl, hv, hV1, hV2, hV3, hb1⟩
 dsimp only
 have HV := Lib.hid hv
 have HB1 := Lib.hid hb1
 have HRX : Hid (∀ X, Below w1.heap.size w1 X → X.rangeAt V 0 SL) := Lib.hid (fun X hX => by rw [← HSL.out]; exact (HV.out.below hX).sup)
 have HIS : Hid ((Tryz.prog.info? 72).map (·.size) = some SL.length) := Lib.hid (by rw [HS19.out]; exact infoSup)
 obtain ⟨x2, hup, hb2⟩ := way_put w1
 obtain ⟨mw, hmw⟩ : ∃ x, w1.heap.size = x := ⟨_, rfl⟩
 obtain ⟨x1, hx1⟩ : ∃ W, w1.alloc (.map #[] 0) = W := ⟨_, rfl⟩
 have HB2 : Hid (Below w1.heap.size w1 x2) := Lib.hid hb2
 have HBX : Hid (Below w1.heap.size w1 x1) := Lib.hid (by rw [← hx1]; exact balloc (Below.refl _ _) _)
 rw [hx1, hmw] at hup
 have hbw := bWay
 have hmm := @run_makeMap Tryz.prog
 have HBU := Lib.hid (pl_built V B mw s)
 rw [HSL.out] at HBU
 obtain ⟨CS, hCS⟩ : ∃ x, plC V B mw s false = x := ⟨_, rfl⟩
 rw [hCS] at HBU
 obtain ⟨p, hp⟩ : ∃ x, x2.heap.size = x := ⟨_, rfl⟩
 obtain ⟨x3, hx3⟩ : ∃ W, x2.alloc (.cells CS 128) = W := ⟨_, rfl⟩
 have hh3 : x3.heap[p]? = some (.cells (plC V B mw s false) 128 (0, 0)) := by rw [← hx3, ← hp, hCS]; exact heap_alloc_new _ _
 have hb3 : Below x2.heap.size x2 x3 := by rw [← hx3]; exact balloc (Below.refl _ _) _
 obtain ⟨q6, hq6⟩ : ∃ x, x3.heap.size = x := ⟨_, rfl⟩
 obtain ⟨x4, hx4⟩ : ∃ W, x3.alloc (.cells #[.pointer (some ⟨p, 0, none⟩)] 121) = W := ⟨_, rfl⟩
 have hh4 : x4.heap[q6]? = some (.cells #[.pointer (some ⟨p, 0, none⟩)] 121 (0, 0)) := by rw [← hx4, ← hq6]; exact heap_alloc_new _ _
 have hb4 : Below x3.heap.size x3 x4 := by rw [← hx4]; exact balloc (Below.refl _ _) _
 have HPG : Hid (V < p ∧ w.heap.size ≤ p) := Lib.hid (by have h1 := (Array.getElem?_eq_some_iff.1 hv.1).1; have h2 := hb2.size; have h3 := hb1.size; omega)
 have hhp : x4.heap[p]? = some (.cells (plC V B mw s false) 128 (0, 0)) := (hb4.block _ (Array.getElem?_eq_some_iff.1 hh3).1).trans hh3
 have HB4 : Hid (Below w1.heap.size w1 x4) := Lib.hid (bthn hb2 (bthn hb3 hb4))
 have HQ6 := Lib.hid hh4
 have HPP := Lib.hid hhp
 have CF := find_0 x4 p V B mw mp s false hhp (HV.out.below HB4.out) HRT.out
 have c6 : x4.cell? ⟨q6, 0, none⟩ = some (.pointer (some ⟨p, 0, none⟩)) := cellOf hh4 0 rfl
 unfold FndV NlC FlC at CF
 clear hc hv hV1 hV2 hV3 hb1 hb2 hb3 hb4 hh3 hh4 hhp hCS
 go_upto_region 4 with fail
 apply wp_region_lit
 repeat (first
  | (refine wpL_build (by kernel_rfl) 128 _ rfl #[(0, .pointer (some ⟨V, 0, none⟩)), (1, .pointer (some ⟨B, 0, none⟩)), (6, .agg SL.toArray), (2, .map (some mw))] (by simp only [List.map_toArray, List.map_cons, List.map_nil]; rfl) CS HBU.out ?_; refine Hid.out ?_)
  | (refine wpList_load_mid rfl 72 _ rfl V 0 rfl SL _ (HRX.out _ (by first | exact HBX.out | exact Below.refl _ _)) Tryz.underlying72 rfl HIS.out ?_)
  | go_step)
 refine Lib.hid ?_
 repeat go_step
 (try rw [hp])
 (try rw [hq6])
 (try rw [hx4])
 refine CF.mono ?_
 rintro e w5 ⟨rfl, hb5⟩
 dsimp only
 clear CF hmm hup hbw hx1 hx3 hx4 c6 hmw hp hq6
 obtain ⟨b7, hb7⟩ : ∃ x, w5.heap.size = x := ⟨_, rfl⟩
 obtain ⟨y1, hy1⟩ : ∃ W, w5.alloc (.cells #[.slice none 0 0, .slice none 0 0, .slice none 0 0] 206) = W := ⟨_, rfl⟩
 have hx7 : y1.heap[b7]? = some (.cells #[.slice none 0 0, .slice none 0 0, .slice none 0 0] 206 (0, 0)) := by rw [← hy1, ← hb7]; exact heap_alloc_new _ _
 obtain ⟨b8, hb8⟩ : ∃ x, y1.heap.size = x := ⟨_, rfl⟩
 obtain ⟨yz, hyz⟩ : ∃ W, y1.alloc (.cells #[.bool false, .bool false, .bool false] 207) = W := ⟨_, rfl⟩
 have hx8 : yz.heap[b8]? = some (.cells #[.bool false, .bool false, .bool false] 207 (0, 0)) := by rw [← hyz, ← hb8]; exact heap_alloc_new _ _
 have hx9 := ((balloc (Below.refl y1.heap.size y1) (.cells #[.bool false, .bool false, .bool false] 207)).block _ (Array.getElem?_eq_some_iff.1 hx7).1).trans hx7
 rw [hyz] at hx9
 have hl7 := (Array.getElem?_eq_some_iff.1 hx7).1
 have c0 := cellOf hx9 0 (v := .slice none 0 0) rfl
 have c1 := cellOf hx9 1 (v := .slice none 0 0) rfl
 have c2 := cellOf hx9 2 (v := .slice none 0 0) rfl
 have f0 := frozenOf hx9 0
 have f1 := frozenOf hx9 1
 have f2 := frozenOf hx9 2
 have hxe : (((yz.setCell ⟨b7, 0, none⟩ (.slice none 0 0)).setCell ⟨b7, 1, none⟩ (.slice none 0 0)).setCell ⟨b7, 2, none⟩ (.slice none 0 0)).heap[b8]? = some (.cells #[.bool false, .bool false, .bool false] 207 (0, 0)) := (setOther ⟨b7, 2, none⟩ _ (by show b8 ≠ b7; omega)).trans ((setOther ⟨b7, 1, none⟩ _ (by show b8 ≠ b7; omega)).trans ((setOther ⟨b7, 0, none⟩ _ (by show b8 ≠ b7; omega)).trans hx8))
 have d0 := cellOf hxe 0 (v := .bool false) rfl
 have d1 := cellOf hxe 1 (v := .bool false) rfl
 have d2 := cellOf hxe 2 (v := .bool false) rfl
 have g0 := frozenOf hxe 0
 have g1 := frozenOf hxe 1
 have g2 := frozenOf hxe 2
 obtain ⟨y2, hy2⟩ : ∃ W, (((((yz.setCell ⟨b7, 0, none⟩ (.slice none 0 0)).setCell ⟨b7, 1, none⟩ (.slice none 0 0)).setCell ⟨b7, 2, none⟩ (.slice none 0 0)).setCell ⟨b8, 0, none⟩ (.bool false)).setCell ⟨b8, 1, none⟩ (.bool false)).setCell ⟨b8, 2, none⟩ (.bool false) = W := ⟨_, rfl⟩
 have hby : Below w5.heap.size w5 y2 := by
  have h1 : Below w5.heap.size w5 yz := by rw [← hyz, ← hy1]; exact balloc (balloc (Below.refl _ _) _) _
  have h7 : w5.heap.size ≤ b7 := by omega
  have h8 : w5.heap.size ≤ b8 := by omega
  rw [← hy2]
  exact (((((h1.setCell (p := ⟨b7, 0, none⟩) h7 _).setCell (p := ⟨b7, 1, none⟩) h7 _).setCell (p := ⟨b7, 2, none⟩) h7 _).setCell (p := ⟨b8, 0, none⟩) h8 _).setCell (p := ⟨b8, 1, none⟩) h8 _).setCell (p := ⟨b8, 2, none⟩) h8 _
 have HBY : Hid (Below x4.heap.size x4 y2) := Lib.hid (bthn hb5 hby)
 have HPY : Hid (y2.heap[p]? = some (.cells (plC V B mw s false) 128 (0, 0))) := Lib.hid ((HBY.out.block _ (Array.getElem?_eq_some_iff.1 HPP.out).1).trans HPP.out)
 have HQY : Hid (y2.heap[q6]? = some (.cells #[.pointer (some ⟨p, 0, none⟩)] 121 (0, 0))) := Lib.hid ((HBY.out.block _ (Array.getElem?_eq_some_iff.1 HQ6.out).1).trans HQ6.out)
 have HPL : Hid (p < y2.heap.size ∧ q6 < y2.heap.size) := Lib.hid ⟨(Array.getElem?_eq_some_iff.1 HPY.out).1, (Array.getElem?_eq_some_iff.1 HQY.out).1⟩
 have HBW : Hid (Below w.heap.size w y2) := Lib.hid (bthn HB1.out (bthn HB4.out HBY.out))
 clear hb5 hby hx7 hx8 hx9 hxe hl7
 go_upto_region 6 with fail
 (try rw [hy1])
 (try rw [hyz])
 (try rw [hb7])
 (try rw [hb8])
 (try rw [hy2])
 clear c0 c1 c2 d0 d1 d2 f0 f1 f2 g0 g1 g2 hy1 hy2 hyz hb7 hb8
 have HSS : Hid (∀ X, Below y2.heap.size y2 X → (X.cell? ⟨q6, 0, none⟩ = some (.pointer (some ⟨p, 0, none⟩)) ∧ X.cell? ⟨p, 26, none⟩ = some (.slice none 0 0) ∧ X.cell? ⟨p, 27, none⟩ = some (.slice none 0 0)) ∧ Below y2.heap.size y2 X) := Lib.hid (fun X hb => ⟨⟨(World.cell?_of_block (hb.block _ (HPL.out.2))).trans ((cellOf HQY.out 0 rfl)), (World.cell?_of_block (hb.block _ (HPL.out.1))).trans ((cellOf HPY.out 26 rfl)), (World.cell?_of_block (hb.block _ (HPL.out.1))).trans ((cellOf HPY.out 27 rfl))⟩, hb⟩)
 refine wp_region_held_drew (S := fun X => (X.cell? ⟨q6, 0, none⟩ = some (.pointer (some ⟨p, 0, none⟩)) ∧ X.cell? ⟨p, 26, none⟩ = some (.slice none 0 0) ∧ X.cell? ⟨p, 27, none⟩ = some (.slice none 0 0)) ∧ Below y2.heap.size y2 X) (by kernel_rfl) (HSS.out _ (Below.refl _ _).drew) (fun hHeld => ?_)
 have hbe : Below y2.heap.size y2 y2.drew := (Below.refl _ _).drew
 obtain ⟨wd, hwd⟩ : ∃ y, y2.drew = y := ⟨_, rfl⟩
 rw [hwd] at hHeld hbe ⊢
 have HBE := Lib.hid hbe
 have HS0 : Hid (y2.heap.size ≤ wd.heap.size) := Lib.hid HBE.out.size
 clear hwd hbe
 refine wpAnyH_take (i := 0) (v := ?_) rfl (by kernel_rfl) (by kernel_rfl) (by kernel_rfl) (fun _ _ _ h => h) (Or.inl ⟨by rfl, ?_⟩) (by assumption) ?_
 rotate_left
 ·(intro w hSw; (try dsimp only at hSw); simp only [List.getElem_toArray, List.getElem_cons_zero, List.getElem_cons_succ]; go_simp; first | done | with_reducible rfl)
 simp only [List.getElem_toArray, List.getElem_cons_zero, List.getElem_cons_succ, Act.put, List.setIfInBounds_toArray, List.set_cons_zero, List.set_cons_succ]
 refine wpAnyH_take (i := 6) (v := ?_) rfl (by kernel_rfl) (by kernel_rfl) (by kernel_rfl) (fun _ _ _ h => h) (Or.inl ⟨by rfl, ?_⟩) (by assumption) ?_
 rotate_left
 ·(intro w hSw; (try dsimp only at hSw); simp only [List.getElem_toArray, List.getElem_cons_zero, List.getElem_cons_succ]; go_simp; first | done | with_reducible rfl)
 simp only [List.getElem_toArray, List.getElem_cons_zero, List.getElem_cons_succ, Act.put, List.setIfInBounds_toArray, List.set_cons_zero, List.set_cons_succ]
 refine wpAnyH_take (i := 1) (v := ?_) rfl (by kernel_rfl) (by kernel_rfl) (by kernel_rfl) (fun _ _ _ h => h) (Or.inl ⟨by rfl, ?_⟩) (by assumption) ?_
 rotate_left
 ·(intro w hSw; (try dsimp only at hSw); simp only [List.getElem_toArray, List.getElem_cons_zero, List.getElem_cons_succ]; go_simp; first | done | with_reducible rfl)
 simp only [List.getElem_toArray, List.getElem_cons_zero, List.getElem_cons_succ, Act.put, List.setIfInBounds_toArray, List.set_cons_zero, List.set_cons_succ]
 refine wpAnyH_take (i := 7) (v := ?_) rfl (by kernel_rfl) (by kernel_rfl) (by kernel_rfl) (fun _ _ _ h => h) (Or.inl ⟨by rfl, ?_⟩) (by assumption) ?_
 rotate_left
 ·(intro w hSw; (try dsimp only at hSw); simp only [List.getElem_toArray, List.getElem_cons_zero, List.getElem_cons_succ]; go_simp; first | done | with_reducible rfl)
 simp only [List.getElem_toArray, List.getElem_cons_zero, List.getElem_cons_succ, Act.put, List.setIfInBounds_toArray, List.set_cons_zero, List.set_cons_succ]
 refine wpAnyH_take (i := 2) (v := ?_) rfl (by kernel_rfl) (by kernel_rfl) (by kernel_rfl) (fun _ _ _ h => h) (Or.inl ⟨by rfl, ?_⟩) (by assumption) ?_
 rotate_left
 ·(intro w hSw; (try dsimp only at hSw); simp only [List.getElem_toArray, List.getElem_cons_zero, List.getElem_cons_succ]; go_simp; first | done | with_reducible rfl)
 simp only [List.getElem_toArray, List.getElem_cons_zero, List.getElem_cons_succ, Act.put, List.setIfInBounds_toArray, List.set_cons_zero, List.set_cons_succ]
 refine wpAnyH_take (i := 8) (v := ?_) rfl (by kernel_rfl) (by kernel_rfl) (by kernel_rfl) (fun _ _ _ h => h) (Or.inl ⟨by rfl, ?_⟩) (by assumption) ?_
 rotate_left
 ·(intro w hSw; (try dsimp only at hSw); simp only [List.getElem_toArray, List.getElem_cons_zero, List.getElem_cons_succ]; go_simp; first | done | with_reducible rfl)
 simp only [List.getElem_toArray, List.getElem_cons_zero, List.getElem_cons_succ, Act.put, List.setIfInBounds_toArray, List.set_cons_zero, List.set_cons_succ]
 refine wpAnyH_take (i := 3) (v := ?_) rfl (by kernel_rfl) (by kernel_rfl) (by kernel_rfl) (fun _ _ _ h => h) (Or.inl ⟨by rfl, ?_⟩) (by assumption) ?_
 rotate_left
 ·(intro w hSw; (try dsimp only at hSw); simp only [List.getElem_toArray, List.getElem_cons_zero, List.getElem_cons_succ]; go_simp; first | done | with_reducible rfl)
 simp only [List.getElem_toArray, List.getElem_cons_zero, List.getElem_cons_succ, Act.put, List.setIfInBounds_toArray, List.set_cons_zero, List.set_cons_succ]
 refine wpAnyH_take (i := 9) (v := ?_) rfl (by kernel_rfl) (by kernel_rfl) (by kernel_rfl) (fun _ _ _ h => h) (Or.inl ⟨by rfl, ?_⟩) (by assumption) ?_
 rotate_left
 ·(intro w hSw; (try dsimp only at hSw); simp only [List.getElem_toArray, List.getElem_cons_zero, List.getElem_cons_succ]; go_simp; first | done | with_reducible rfl)
 simp only [List.getElem_toArray, List.getElem_cons_zero, List.getElem_cons_succ, Act.put, List.setIfInBounds_toArray, List.set_cons_zero, List.set_cons_succ]
 refine wpAnyH_take (i := 4) (v := ?_) rfl (by kernel_rfl) (by kernel_rfl) (by kernel_rfl) (fun _ _ _ h => h) (Or.inl ⟨by rfl, ?_⟩) (by assumption) ?_
 rotate_left
 ·(intro w hSw; (try dsimp only at hSw); simp only [List.getElem_toArray, List.getElem_cons_zero, List.getElem_cons_succ]; go_simp; first | done | with_reducible rfl)
 simp only [List.getElem_toArray, List.getElem_cons_zero, List.getElem_cons_succ, Act.put, List.setIfInBounds_toArray, List.set_cons_zero, List.set_cons_succ]
 refine wpAnyH_take (i := 10) (v := ?_) rfl (by kernel_rfl) (by kernel_rfl) (by kernel_rfl) (fun _ _ _ h => h) (Or.inl ⟨by rfl, ?_⟩) (by assumption) ?_
 rotate_left
 ·(intro w hSw; (try dsimp only at hSw); simp only [List.getElem_toArray, List.getElem_cons_zero, List.getElem_cons_succ]; go_simp; first | done | with_reducible rfl)
 simp only [List.getElem_toArray, List.getElem_cons_zero, List.getElem_cons_succ, Act.put, List.setIfInBounds_toArray, List.set_cons_zero, List.set_cons_succ]
 refine wpAnyH_take (i := 5) (v := ?_) rfl (by kernel_rfl) (by kernel_rfl) (by kernel_rfl) (fun _ _ _ h => h) (Or.inl ⟨by rfl, ?_⟩) (by assumption) ?_
 rotate_left
 ·(intro w hSw; (try dsimp only at hSw); simp only [List.getElem_toArray, List.getElem_cons_zero, List.getElem_cons_succ]; go_simp; first | done | with_reducible rfl)
 simp only [List.getElem_toArray, List.getElem_cons_zero, List.getElem_cons_succ, Act.put, List.setIfInBounds_toArray, List.set_cons_zero, List.set_cons_succ]
 refine wpAnyH_take (i := 11) (v := ?_) rfl (by kernel_rfl) (by kernel_rfl) (by kernel_rfl) (fun _ _ _ h => h) (Or.inl ⟨by rfl, ?_⟩) (by assumption) ?_
 rotate_left
 ·(intro w hSw; (try dsimp only at hSw); simp only [List.getElem_toArray, List.getElem_cons_zero, List.getElem_cons_succ]; go_simp; first | done | with_reducible rfl)
 simp only [List.getElem_toArray, List.getElem_cons_zero, List.getElem_cons_succ, Act.put, List.setIfInBounds_toArray, List.set_cons_zero, List.set_cons_succ]
 refine wpAnyH_take (i := 12) (v := ?_) rfl (by kernel_rfl) (by kernel_rfl) (by kernel_rfl) (fun _ _ _ h => h) (Or.inl ⟨by rfl, ?_⟩) (by assumption) ?_
 rotate_left
 ·(intro w hSw; (try dsimp only at hSw); simp only [List.getElem_toArray, List.getElem_cons_zero, List.getElem_cons_succ]; go_simp; first | done | with_reducible rfl)
 simp only [List.getElem_toArray, List.getElem_cons_zero, List.getElem_cons_succ, Act.put, List.setIfInBounds_toArray, List.set_cons_zero, List.set_cons_succ]
 refine wpAnyH_take (i := 13) (v := .bool true) rfl (by kernel_rfl) (by kernel_rfl) (by kernel_rfl) (fun _ _ _ h => h) (Or.inl ⟨by rfl, ?_⟩) (by assumption) ?_
 ·(intro w hSw; simp only [List.getElem_toArray, List.getElem_cons_zero, List.getElem_cons_succ]; (have hw0 : IntKind.i64.wrap (0 : Int) = 0 := IntWalk.i64_in _ ⟨by omega, by omega⟩; go_simp; first | done | with_reducible rfl | (rw [hw0])))
 simp only [List.getElem_toArray, List.getElem_cons_zero, List.getElem_cons_succ, Act.put, List.setIfInBounds_toArray, List.set_cons_zero, List.set_cons_succ]
 refine wpAnyH_take (i := 14) (v := ?_) rfl (by kernel_rfl) (by kernel_rfl) (by kernel_rfl) (fun _ _ _ h => h) (Or.inl ⟨by rfl, ?_⟩) (by assumption) ?_
 rotate_left
 ·(intro w hSw; (try dsimp only at hSw); simp only [List.getElem_toArray, List.getElem_cons_zero, List.getElem_cons_succ]; go_simp; first | done | with_reducible rfl)
 simp only [List.getElem_toArray, List.getElem_cons_zero, List.getElem_cons_succ, Act.put, List.setIfInBounds_toArray, List.set_cons_zero, List.set_cons_succ]
 refine wpAnyH_take (i := 15) (v := ?_) rfl (by kernel_rfl) (by kernel_rfl) (by kernel_rfl) (fun _ _ _ h => h) (Or.inl ⟨by rfl, ?_⟩) (by assumption) ?_
 rotate_left
 ·(intro w hSw; (try dsimp only at hSw); simp only [List.getElem_toArray, List.getElem_cons_zero, List.getElem_cons_succ]; go_simp; first | done | with_reducible rfl)
 simp only [List.getElem_toArray, List.getElem_cons_zero, List.getElem_cons_succ, Act.put, List.setIfInBounds_toArray, List.set_cons_zero, List.set_cons_succ]
 refine wpAnyH_ready (rs := [16]) (by kernel_rfl) (by simp) ?_
 refine AllReadyH.cons rfl (fun K hK => ?_) (AllReadyH.nil)
 simp only [List.getElem_toArray, List.getElem_cons_zero, List.getElem_cons_succ]
 go_simp
 refine (HF.out _ (bthn HBW.out HBE.out)).mono ?_
 rintro e y6 ⟨rfl, hb6⟩
 dsimp only
 have HBE := Lib.hid (bthen HBE.out hb6)
 have hSp := HSS.out _ HBE.out
 clear hHeld
 refine hK.out _ _ hSp (fun hHeld => ?_)
 clear hSp hK K
 try simp only [Act.put, List.setIfInBounds_toArray, List.set_cons_zero, List.set_cons_succ]
 have HC16 := Lib.hid hb6
 clear hb6
 refine wpAnyH_take (i := 17) (v := ?_) rfl (by kernel_rfl) (by kernel_rfl) (by kernel_rfl) (fun _ _ _ h => h) (Or.inl ⟨by rfl, ?_⟩) (by assumption) ?_
 rotate_left
 ·(intro w hSw; (try dsimp only at hSw); simp only [List.getElem_toArray, List.getElem_cons_zero, List.getElem_cons_succ]; go_simp; first | done | with_reducible rfl)
 simp only [List.getElem_toArray, List.getElem_cons_zero, List.getElem_cons_succ, Act.put, List.setIfInBounds_toArray, List.set_cons_zero, List.set_cons_succ]
 refine wpAnyH_done (by kernel_rfl) ?_ _
 have HEND := Lib.hid hHeld.2
 have HSE := Lib.hid hHeld.1
 clear hHeld
 clear HSS HEND HSE
 have HBZ : Hid (Below w.heap.size w y6) := Lib.hid (bthn HBW.out HBE.out)
 have HPZ : Hid (y6.heap[p]? = some (.cells (plC V B mw s false) 128 (0, 0))) := Lib.hid ((HBE.out.block _ HPL.out.1).trans HPY.out)
 have c6 : y6.cell? ⟨q6, 0, none⟩ = some (.pointer (some ⟨p, 0, none⟩)) := cellOf ((HBE.out.block _ HPL.out.2).trans HQY.out) 0 rfl
 go_wp2_with fail
 go_ret2
 exact ⟨p, V, B, mw, rfl, HPZ.out, HBZ.out⟩
set_option maxRecDepth 100000 in
set_option maxHeartbeats 12800000 in
theorem planned_bad (w : World) (B : Nat) (s : Su) (hr : s.top = 0 ∧ s.base = 0 ∧ s.stage = 0) (hc : Calls Tryz.prog 58 #[.pointer (some ⟨B, 0, none⟩)] w (LiesP w s)) (hx : 4611686018427387904 ≤ s.tx) (hf : ∀ X, Below w.heap.size w X → Calls Tryz.prog 105 #[.pointer (some ⟨B, 0, none⟩)] X fun e w' => e = .returned (.bool false) ∧ Below X.heap.size X w') :
  Calls Tryz.prog 57 #[.pointer (some ⟨B, 0, none⟩)] w fun e w' => e = .returned (.tuple #[.pointer none, .int .i64 2]) ∧ Below w.heap.size w w' := by
 obtain ⟨tx, htx⟩ : ∃ x, s.tx = x := ⟨_, rfl⟩
 have HTX : Hid (s.tx = tx ∧ 4611686018427387904 ≤ tx) := Lib.hid ⟨htx, by rw [← htx]; exact hx⟩
 clear htx hx
 have HF := Lib.hid hf
 clear hf
 have HRT := Lib.hid hr
 obtain ⟨SL, hSL⟩ : ∃ L, suL s = L := ⟨_, rfl⟩
 have HSL := Lib.hid hSL
 have HS19 : Hid (SL.length = 19) := Lib.hid (by rw [← hSL]; rfl)
 clear hSL hr
 go_enter Tryz.func57, Tryz.ntmps57
 go_wp2_with fail
 refine hc.mono ?_
 rintro e w1 ⟨V, mp, rfl, hv, hV1, hV2, hV3, hb1⟩
 dsimp only
 have HV := Lib.hid hv
 have HB1 := Lib.hid hb1
 have HRX : Hid (∀ X, Below w1.heap.size w1 X → X.rangeAt V 0 SL) := Lib.hid (fun X hX => by rw [← HSL.out]; exact (HV.out.below hX).sup)
 have HIS : Hid ((Tryz.prog.info? 72).map (·.size) = some SL.length) := Lib.hid (by rw [HS19.out]; exact infoSup)
 obtain ⟨x2, hup, hb2⟩ := way_put w1
 obtain ⟨mw, hmw⟩ : ∃ x, w1.heap.size = x := ⟨_, rfl⟩
 obtain ⟨x1, hx1⟩ : ∃ W, w1.alloc (.map #[] 0) = W := ⟨_, rfl⟩
 have HB2 : Hid (Below w1.heap.size w1 x2) := Lib.hid hb2
 have HBX : Hid (Below w1.heap.size w1 x1) := Lib.hid (by rw [← hx1]; exact balloc (Below.refl _ _) _)
 rw [hx1, hmw] at hup
 have hbw := bWay
 have hmm := @run_makeMap Tryz.prog
 have HBU := Lib.hid (pl_built V B mw s)
 rw [HSL.out] at HBU
 obtain ⟨CS, hCS⟩ : ∃ x, plC V B mw s false = x := ⟨_, rfl⟩
 rw [hCS] at HBU
 obtain ⟨p, hp⟩ : ∃ x, x2.heap.size = x := ⟨_, rfl⟩
 obtain ⟨x3, hx3⟩ : ∃ W, x2.alloc (.cells CS 128) = W := ⟨_, rfl⟩
 have hh3 : x3.heap[p]? = some (.cells (plC V B mw s false) 128 (0, 0)) := by rw [← hx3, ← hp, hCS]; exact heap_alloc_new _ _
 have hb3 : Below x2.heap.size x2 x3 := by rw [← hx3]; exact balloc (Below.refl _ _) _
 obtain ⟨q6, hq6⟩ : ∃ x, x3.heap.size = x := ⟨_, rfl⟩
 obtain ⟨x4, hx4⟩ : ∃ W, x3.alloc (.cells #[.pointer (some ⟨p, 0, none⟩)] 121) = W := ⟨_, rfl⟩
 have hh4 : x4.heap[q6]? = some (.cells #[.pointer (some ⟨p, 0, none⟩)] 121 (0, 0)) := by rw [← hx4, ← hq6]; exact heap_alloc_new _ _
 have hb4 : Below x3.heap.size x3 x4 := by rw [← hx4]; exact balloc (Below.refl _ _) _
 have HPG : Hid (V < p ∧ w.heap.size ≤ p) := Lib.hid (by have h1 := (Array.getElem?_eq_some_iff.1 hv.1).1; have h2 := hb2.size; have h3 := hb1.size; omega)
 have hhp : x4.heap[p]? = some (.cells (plC V B mw s false) 128 (0, 0)) := (hb4.block _ (Array.getElem?_eq_some_iff.1 hh3).1).trans hh3
 have HB4 : Hid (Below w1.heap.size w1 x4) := Lib.hid (bthn hb2 (bthn hb3 hb4))
 have HQ6 := Lib.hid hh4
 have HPP := Lib.hid hhp
 have CF := find_0 x4 p V B mw mp s false hhp (HV.out.below HB4.out) HRT.out
 have c6 : x4.cell? ⟨q6, 0, none⟩ = some (.pointer (some ⟨p, 0, none⟩)) := cellOf hh4 0 rfl
 unfold FndV NlC FlC at CF
 clear hc hv hV1 hV2 hV3 hb1 hb2 hb3 hb4 hh3 hh4 hhp hCS
 go_upto_region 4 with fail
 apply wp_region_lit
 repeat (first
  | (refine wpL_build (by kernel_rfl) 128 _ rfl #[(0, .pointer (some ⟨V, 0, none⟩)), (1, .pointer (some ⟨B, 0, none⟩)), (6, .agg SL.toArray), (2, .map (some mw))] (by simp only [List.map_toArray, List.map_cons, List.map_nil]; rfl) CS HBU.out ?_; refine Hid.out ?_)
  | (refine wpList_load_mid rfl 72 _ rfl V 0 rfl SL _ (HRX.out _ (by first | exact HBX.out | exact Below.refl _ _)) Tryz.underlying72 rfl HIS.out ?_)
  | go_step)
 refine Lib.hid ?_
 repeat go_step
 (try rw [hp])
 (try rw [hq6])
 (try rw [hx4])
 refine CF.mono ?_
 rintro e w5 ⟨rfl, hb5⟩
 dsimp only
 clear CF hmm hup hbw hx1 hx3 hx4 c6 hmw hp hq6
 obtain ⟨b7, hb7⟩ : ∃ x, w5.heap.size = x := ⟨_, rfl⟩
 obtain ⟨y1, hy1⟩ : ∃ W, w5.alloc (.cells #[.slice none 0 0, .slice none 0 0, .slice none 0 0] 206) = W := ⟨_, rfl⟩
 have hx7 : y1.heap[b7]? = some (.cells #[.slice none 0 0, .slice none 0 0, .slice none 0 0] 206 (0, 0)) := by rw [← hy1, ← hb7]; exact heap_alloc_new _ _
 obtain ⟨b8, hb8⟩ : ∃ x, y1.heap.size = x := ⟨_, rfl⟩
 obtain ⟨yz, hyz⟩ : ∃ W, y1.alloc (.cells #[.bool false, .bool false, .bool false] 207) = W := ⟨_, rfl⟩
 have hx8 : yz.heap[b8]? = some (.cells #[.bool false, .bool false, .bool false] 207 (0, 0)) := by rw [← hyz, ← hb8]; exact heap_alloc_new _ _
 have hx9 := ((balloc (Below.refl y1.heap.size y1) (.cells #[.bool false, .bool false, .bool false] 207)).block _ (Array.getElem?_eq_some_iff.1 hx7).1).trans hx7
 rw [hyz] at hx9
 have hl7 := (Array.getElem?_eq_some_iff.1 hx7).1
 have c0 := cellOf hx9 0 (v := .slice none 0 0) rfl
 have c1 := cellOf hx9 1 (v := .slice none 0 0) rfl
 have c2 := cellOf hx9 2 (v := .slice none 0 0) rfl
 have f0 := frozenOf hx9 0
 have f1 := frozenOf hx9 1
 have f2 := frozenOf hx9 2
 have hxe : (((yz.setCell ⟨b7, 0, none⟩ (.slice none 0 0)).setCell ⟨b7, 1, none⟩ (.slice none 0 0)).setCell ⟨b7, 2, none⟩ (.slice none 0 0)).heap[b8]? = some (.cells #[.bool false, .bool false, .bool false] 207 (0, 0)) := (setOther ⟨b7, 2, none⟩ _ (by show b8 ≠ b7; omega)).trans ((setOther ⟨b7, 1, none⟩ _ (by show b8 ≠ b7; omega)).trans ((setOther ⟨b7, 0, none⟩ _ (by show b8 ≠ b7; omega)).trans hx8))
 have d0 := cellOf hxe 0 (v := .bool false) rfl
 have d1 := cellOf hxe 1 (v := .bool false) rfl
 have d2 := cellOf hxe 2 (v := .bool false) rfl
 have g0 := frozenOf hxe 0
 have g1 := frozenOf hxe 1
 have g2 := frozenOf hxe 2
 obtain ⟨y2, hy2⟩ : ∃ W, (((((yz.setCell ⟨b7, 0, none⟩ (.slice none 0 0)).setCell ⟨b7, 1, none⟩ (.slice none 0 0)).setCell ⟨b7, 2, none⟩ (.slice none 0 0)).setCell ⟨b8, 0, none⟩ (.bool false)).setCell ⟨b8, 1, none⟩ (.bool false)).setCell ⟨b8, 2, none⟩ (.bool false) = W := ⟨_, rfl⟩
 have hby : Below w5.heap.size w5 y2 := by
  have h1 : Below w5.heap.size w5 yz := by rw [← hyz, ← hy1]; exact balloc (balloc (Below.refl _ _) _) _
  have h7 : w5.heap.size ≤ b7 := by omega
  have h8 : w5.heap.size ≤ b8 := by omega
  rw [← hy2]
  exact (((((h1.setCell (p := ⟨b7, 0, none⟩) h7 _).setCell (p := ⟨b7, 1, none⟩) h7 _).setCell (p := ⟨b7, 2, none⟩) h7 _).setCell (p := ⟨b8, 0, none⟩) h8 _).setCell (p := ⟨b8, 1, none⟩) h8 _).setCell (p := ⟨b8, 2, none⟩) h8 _
 have HBY : Hid (Below x4.heap.size x4 y2) := Lib.hid (bthn hb5 hby)
 have HPY : Hid (y2.heap[p]? = some (.cells (plC V B mw s false) 128 (0, 0))) := Lib.hid ((HBY.out.block _ (Array.getElem?_eq_some_iff.1 HPP.out).1).trans HPP.out)
 have HQY : Hid (y2.heap[q6]? = some (.cells #[.pointer (some ⟨p, 0, none⟩)] 121 (0, 0))) := Lib.hid ((HBY.out.block _ (Array.getElem?_eq_some_iff.1 HQ6.out).1).trans HQ6.out)
 have HPL : Hid (p < y2.heap.size ∧ q6 < y2.heap.size) := Lib.hid ⟨(Array.getElem?_eq_some_iff.1 HPY.out).1, (Array.getElem?_eq_some_iff.1 HQY.out).1⟩
 have HBW : Hid (Below w.heap.size w y2) := Lib.hid (bthn HB1.out (bthn HB4.out HBY.out))
 clear hb5 hby hx7 hx8 hx9 hxe hl7
 go_upto_region 6 with fail
 (try rw [hy1])
 (try rw [hyz])
 (try rw [hb7])
 (try rw [hb8])
 (try rw [hy2])
 clear c0 c1 c2 d0 d1 d2 f0 f1 f2 g0 g1 g2 hy1 hy2 hyz hb7 hb8
 have HSS : Hid (∀ X, Below y2.heap.size y2 X → (X.cell? ⟨q6, 0, none⟩ = some (.pointer (some ⟨p, 0, none⟩)) ∧ X.cell? ⟨p, 26, none⟩ = some (.slice none 0 0) ∧ X.cell? ⟨p, 27, none⟩ = some (.slice none 0 0)) ∧ Below y2.heap.size y2 X) := Lib.hid (fun X hb => ⟨⟨(World.cell?_of_block (hb.block _ (HPL.out.2))).trans ((cellOf HQY.out 0 rfl)), (World.cell?_of_block (hb.block _ (HPL.out.1))).trans ((cellOf HPY.out 26 rfl)), (World.cell?_of_block (hb.block _ (HPL.out.1))).trans ((cellOf HPY.out 27 rfl))⟩, hb⟩)
 refine wp_region_held_drew (S := fun X => (X.cell? ⟨q6, 0, none⟩ = some (.pointer (some ⟨p, 0, none⟩)) ∧ X.cell? ⟨p, 26, none⟩ = some (.slice none 0 0) ∧ X.cell? ⟨p, 27, none⟩ = some (.slice none 0 0)) ∧ Below y2.heap.size y2 X) (by kernel_rfl) (HSS.out _ (Below.refl _ _).drew) (fun hHeld => ?_)
 have hbe : Below y2.heap.size y2 y2.drew := (Below.refl _ _).drew
 obtain ⟨wd, hwd⟩ : ∃ y, y2.drew = y := ⟨_, rfl⟩
 rw [hwd] at hHeld hbe ⊢
 have HBE := Lib.hid hbe
 have HS0 : Hid (y2.heap.size ≤ wd.heap.size) := Lib.hid HBE.out.size
 clear hwd hbe
 refine wpAnyH_take (i := 0) (v := ?_) rfl (by kernel_rfl) (by kernel_rfl) (by kernel_rfl) (fun _ _ _ h => h) (Or.inl ⟨by rfl, ?_⟩) (by assumption) ?_
 rotate_left
 ·(intro w hSw; (try dsimp only at hSw); simp only [List.getElem_toArray, List.getElem_cons_zero, List.getElem_cons_succ]; go_simp; first | done | with_reducible rfl)
 simp only [List.getElem_toArray, List.getElem_cons_zero, List.getElem_cons_succ, Act.put, List.setIfInBounds_toArray, List.set_cons_zero, List.set_cons_succ]
 refine wpAnyH_take (i := 6) (v := ?_) rfl (by kernel_rfl) (by kernel_rfl) (by kernel_rfl) (fun _ _ _ h => h) (Or.inl ⟨by rfl, ?_⟩) (by assumption) ?_
 rotate_left
 ·(intro w hSw; (try dsimp only at hSw); simp only [List.getElem_toArray, List.getElem_cons_zero, List.getElem_cons_succ]; go_simp; first | done | with_reducible rfl)
 simp only [List.getElem_toArray, List.getElem_cons_zero, List.getElem_cons_succ, Act.put, List.setIfInBounds_toArray, List.set_cons_zero, List.set_cons_succ]
 refine wpAnyH_take (i := 1) (v := ?_) rfl (by kernel_rfl) (by kernel_rfl) (by kernel_rfl) (fun _ _ _ h => h) (Or.inl ⟨by rfl, ?_⟩) (by assumption) ?_
 rotate_left
 ·(intro w hSw; (try dsimp only at hSw); simp only [List.getElem_toArray, List.getElem_cons_zero, List.getElem_cons_succ]; go_simp; first | done | with_reducible rfl)
 simp only [List.getElem_toArray, List.getElem_cons_zero, List.getElem_cons_succ, Act.put, List.setIfInBounds_toArray, List.set_cons_zero, List.set_cons_succ]
 refine wpAnyH_take (i := 7) (v := ?_) rfl (by kernel_rfl) (by kernel_rfl) (by kernel_rfl) (fun _ _ _ h => h) (Or.inl ⟨by rfl, ?_⟩) (by assumption) ?_
 rotate_left
 ·(intro w hSw; (try dsimp only at hSw); simp only [List.getElem_toArray, List.getElem_cons_zero, List.getElem_cons_succ]; go_simp; first | done | with_reducible rfl)
 simp only [List.getElem_toArray, List.getElem_cons_zero, List.getElem_cons_succ, Act.put, List.setIfInBounds_toArray, List.set_cons_zero, List.set_cons_succ]
 refine wpAnyH_take (i := 2) (v := ?_) rfl (by kernel_rfl) (by kernel_rfl) (by kernel_rfl) (fun _ _ _ h => h) (Or.inl ⟨by rfl, ?_⟩) (by assumption) ?_
 rotate_left
 ·(intro w hSw; (try dsimp only at hSw); simp only [List.getElem_toArray, List.getElem_cons_zero, List.getElem_cons_succ]; go_simp; first | done | with_reducible rfl)
 simp only [List.getElem_toArray, List.getElem_cons_zero, List.getElem_cons_succ, Act.put, List.setIfInBounds_toArray, List.set_cons_zero, List.set_cons_succ]
 refine wpAnyH_take (i := 8) (v := ?_) rfl (by kernel_rfl) (by kernel_rfl) (by kernel_rfl) (fun _ _ _ h => h) (Or.inl ⟨by rfl, ?_⟩) (by assumption) ?_
 rotate_left
 ·(intro w hSw; (try dsimp only at hSw); simp only [List.getElem_toArray, List.getElem_cons_zero, List.getElem_cons_succ]; go_simp; first | done | with_reducible rfl)
 simp only [List.getElem_toArray, List.getElem_cons_zero, List.getElem_cons_succ, Act.put, List.setIfInBounds_toArray, List.set_cons_zero, List.set_cons_succ]
 refine wpAnyH_take (i := 3) (v := ?_) rfl (by kernel_rfl) (by kernel_rfl) (by kernel_rfl) (fun _ _ _ h => h) (Or.inl ⟨by rfl, ?_⟩) (by assumption) ?_
 rotate_left
 ·(intro w hSw; (try dsimp only at hSw); simp only [List.getElem_toArray, List.getElem_cons_zero, List.getElem_cons_succ]; go_simp; first | done | with_reducible rfl)
 simp only [List.getElem_toArray, List.getElem_cons_zero, List.getElem_cons_succ, Act.put, List.setIfInBounds_toArray, List.set_cons_zero, List.set_cons_succ]
 refine wpAnyH_take (i := 9) (v := ?_) rfl (by kernel_rfl) (by kernel_rfl) (by kernel_rfl) (fun _ _ _ h => h) (Or.inl ⟨by rfl, ?_⟩) (by assumption) ?_
 rotate_left
 ·(intro w hSw; (try dsimp only at hSw); simp only [List.getElem_toArray, List.getElem_cons_zero, List.getElem_cons_succ]; go_simp; first | done | with_reducible rfl)
 simp only [List.getElem_toArray, List.getElem_cons_zero, List.getElem_cons_succ, Act.put, List.setIfInBounds_toArray, List.set_cons_zero, List.set_cons_succ]
 refine wpAnyH_take (i := 4) (v := ?_) rfl (by kernel_rfl) (by kernel_rfl) (by kernel_rfl) (fun _ _ _ h => h) (Or.inl ⟨by rfl, ?_⟩) (by assumption) ?_
 rotate_left
 ·(intro w hSw; (try dsimp only at hSw); simp only [List.getElem_toArray, List.getElem_cons_zero, List.getElem_cons_succ]; go_simp; first | done | with_reducible rfl)
 simp only [List.getElem_toArray, List.getElem_cons_zero, List.getElem_cons_succ, Act.put, List.setIfInBounds_toArray, List.set_cons_zero, List.set_cons_succ]
 refine wpAnyH_take (i := 10) (v := ?_) rfl (by kernel_rfl) (by kernel_rfl) (by kernel_rfl) (fun _ _ _ h => h) (Or.inl ⟨by rfl, ?_⟩) (by assumption) ?_
 rotate_left
 ·(intro w hSw; (try dsimp only at hSw); simp only [List.getElem_toArray, List.getElem_cons_zero, List.getElem_cons_succ]; go_simp; first | done | with_reducible rfl)
 simp only [List.getElem_toArray, List.getElem_cons_zero, List.getElem_cons_succ, Act.put, List.setIfInBounds_toArray, List.set_cons_zero, List.set_cons_succ]
 refine wpAnyH_take (i := 5) (v := ?_) rfl (by kernel_rfl) (by kernel_rfl) (by kernel_rfl) (fun _ _ _ h => h) (Or.inl ⟨by rfl, ?_⟩) (by assumption) ?_
 rotate_left
 ·(intro w hSw; (try dsimp only at hSw); simp only [List.getElem_toArray, List.getElem_cons_zero, List.getElem_cons_succ]; go_simp; first | done | with_reducible rfl)
 simp only [List.getElem_toArray, List.getElem_cons_zero, List.getElem_cons_succ, Act.put, List.setIfInBounds_toArray, List.set_cons_zero, List.set_cons_succ]
 refine wpAnyH_take (i := 11) (v := ?_) rfl (by kernel_rfl) (by kernel_rfl) (by kernel_rfl) (fun _ _ _ h => h) (Or.inl ⟨by rfl, ?_⟩) (by assumption) ?_
 rotate_left
 ·(intro w hSw; (try dsimp only at hSw); simp only [List.getElem_toArray, List.getElem_cons_zero, List.getElem_cons_succ]; go_simp; first | done | with_reducible rfl)
 simp only [List.getElem_toArray, List.getElem_cons_zero, List.getElem_cons_succ, Act.put, List.setIfInBounds_toArray, List.set_cons_zero, List.set_cons_succ]
 refine wpAnyH_take (i := 12) (v := ?_) rfl (by kernel_rfl) (by kernel_rfl) (by kernel_rfl) (fun _ _ _ h => h) (Or.inl ⟨by rfl, ?_⟩) (by assumption) ?_
 rotate_left
 ·(intro w hSw; (try dsimp only at hSw); simp only [List.getElem_toArray, List.getElem_cons_zero, List.getElem_cons_succ]; go_simp; first | done | with_reducible rfl)
 simp only [List.getElem_toArray, List.getElem_cons_zero, List.getElem_cons_succ, Act.put, List.setIfInBounds_toArray, List.set_cons_zero, List.set_cons_succ]
 refine wpAnyH_take (i := 13) (v := .bool true) rfl (by kernel_rfl) (by kernel_rfl) (by kernel_rfl) (fun _ _ _ h => h) (Or.inl ⟨by rfl, ?_⟩) (by assumption) ?_
 ·(intro w hSw; simp only [List.getElem_toArray, List.getElem_cons_zero, List.getElem_cons_succ]; (have hw0 : IntKind.i64.wrap (0 : Int) = 0 := IntWalk.i64_in _ ⟨by omega, by omega⟩; go_simp; first | done | with_reducible rfl | (rw [hw0])))
 simp only [List.getElem_toArray, List.getElem_cons_zero, List.getElem_cons_succ, Act.put, List.setIfInBounds_toArray, List.set_cons_zero, List.set_cons_succ]
 refine wpAnyH_take (i := 14) (v := ?_) rfl (by kernel_rfl) (by kernel_rfl) (by kernel_rfl) (fun _ _ _ h => h) (Or.inl ⟨by rfl, ?_⟩) (by assumption) ?_
 rotate_left
 ·(intro w hSw; (try dsimp only at hSw); simp only [List.getElem_toArray, List.getElem_cons_zero, List.getElem_cons_succ]; go_simp; first | done | with_reducible rfl)
 simp only [List.getElem_toArray, List.getElem_cons_zero, List.getElem_cons_succ, Act.put, List.setIfInBounds_toArray, List.set_cons_zero, List.set_cons_succ]
 refine wpAnyH_take (i := 15) (v := ?_) rfl (by kernel_rfl) (by kernel_rfl) (by kernel_rfl) (fun _ _ _ h => h) (Or.inl ⟨by rfl, ?_⟩) (by assumption) ?_
 rotate_left
 ·(intro w hSw; (try dsimp only at hSw); simp only [List.getElem_toArray, List.getElem_cons_zero, List.getElem_cons_succ]; go_simp; first | done | with_reducible rfl)
 simp only [List.getElem_toArray, List.getElem_cons_zero, List.getElem_cons_succ, Act.put, List.setIfInBounds_toArray, List.set_cons_zero, List.set_cons_succ]
 refine wpAnyH_ready (rs := [16]) (by kernel_rfl) (by simp) ?_
 refine AllReadyH.cons rfl (fun K hK => ?_) (AllReadyH.nil)
 simp only [List.getElem_toArray, List.getElem_cons_zero, List.getElem_cons_succ]
 go_simp
 refine (HF.out _ (bthn HBW.out HBE.out)).mono ?_
 rintro e y6 ⟨rfl, hb6⟩
 dsimp only
 have HBE := Lib.hid (bthen HBE.out hb6)
 have hSp := HSS.out _ HBE.out
 clear hHeld
 refine hK.out _ _ hSp (fun hHeld => ?_)
 clear hSp hK K
 try simp only [Act.put, List.setIfInBounds_toArray, List.set_cons_zero, List.set_cons_succ]
 have HC16 := Lib.hid hb6
 clear hb6
 refine wpAnyH_take (i := 17) (v := ?_) rfl (by kernel_rfl) (by kernel_rfl) (by kernel_rfl) (fun _ _ _ h => h) (Or.inl ⟨by rfl, ?_⟩) (by assumption) ?_
 rotate_left
 ·(intro w hSw; (try dsimp only at hSw); simp only [List.getElem_toArray, List.getElem_cons_zero, List.getElem_cons_succ]; go_simp; first | done | with_reducible rfl)
 simp only [List.getElem_toArray, List.getElem_cons_zero, List.getElem_cons_succ, Act.put, List.setIfInBounds_toArray, List.set_cons_zero, List.set_cons_succ]
 refine wpAnyH_done (by kernel_rfl) ?_ _
 have HEND := Lib.hid hHeld.2
 have HSE := Lib.hid hHeld.1
 clear hHeld
 clear HSS HEND HSE
 have HBZ : Hid (Below w.heap.size w y6) := Lib.hid (bthn HBW.out HBE.out)
 have hpz : y6.heap[p]? = some (.cells (plC V B mw s false) 128 (0, 0)) := (HBE.out.block _ HPL.out.1).trans HPY.out
 have c6 : y6.cell? ⟨q6, 0, none⟩ = some (.pointer (some ⟨p, 0, none⟩)) := cellOf ((HBE.out.block _ HPL.out.2).trans HQY.out) 0 rfl
 have c25 : y6.cell? ⟨p, 25, none⟩ = some (.bool false) := cellOf hpz 25 rfl
 have f25 := frozenOf hpz 25
 have HVZ : Hid (VwAt y6 V mp s) := Lib.hid (HV.out.below (bthn HB4.out (bthn HBY.out HBE.out)))
 obtain ⟨z, hz⟩ : ∃ W, y6.setCell ⟨p, 25, none⟩ (.bool true) = W := ⟨_, rfl⟩
 have HBQ : Hid (Below w.heap.size w z) := Lib.hid (by rw [← hz]; exact HBZ.out.setCell (p := ⟨p, 25, none⟩) HPG.out.2 _)
 have c0 : z.cell? ⟨V, 0, none⟩ = some (.int .u64 (tx : Int)) := by
  rw [← hz]
  exact cellOf ((Below.heap_setCell _ ⟨p, 25, none⟩ _ V (by have := HPG.out.1; show V ≠ p; omega)).trans HVZ.out.1) 0 (by show some (Value.int .u64 (s.tx : Int)) = _; rw [HTX.out.1])
 have hq0 : decide ((4611686018427387904 : Int) ≤ (tx : Int)) = true := decide_eq_true (by have := HTX.out.2; omega)
 go_wp2_with fail
 go_ret2
 exact ⟨rfl, HBQ.out⟩
end Go.Proofs.YtgmahhdnjikdjaaGreat
