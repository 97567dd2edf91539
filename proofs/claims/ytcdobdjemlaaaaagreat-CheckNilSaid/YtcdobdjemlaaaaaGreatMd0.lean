/- The law's disk, formatted; Room; the law's known of layer 8, walked. -/
import Derived.Test.YtcdobdjemlaaaaaGreatMk0
namespace Go.Proofs.YtcdobdjemlaaaaaGreat
open Go.RowKit Wire
set_option linter.unusedVariables false
set_option linter.unusedSimpArgs false

theorem mkOfc (n m k : Nat) (ok : MkOk n m k) : OfC (rdB (dk0 n).img 1) (suL suO) 4 := by
  have hs := ok.sec
  rw [zeros_dk0 n 1 (by omega)]
  exact ofr_ofc ofr_zero (.inr ⟨rfl, rfl⟩)
theorem dk0_len (n : Nat) : (dk0 n).img.length = n := List.length_replicate
/-- A disk that was formatted. -/
def MadeP (w : World) (n m k : Nat) (B : Nat) (w' : World) : Prop := (∃ iv, DkAt w.heap.size w' B iv (.slice none 0 0) ((dk0 n).fmt m k)) ∧ Below w.heap.size w w'
theorem fmt_call (w w1 : World) (n m k B : Nat) (iv : Value) (ok : MkOk n m k) (hn : n ≤ 8192) (h : DkAt w.heap.size w1 B iv (.slice none 0 0) (dk0 n)) (hb : Below w.heap.size w w1) : Calls Tryz.prog 28 #[.pointer (some ⟨B, 0, none⟩), .int .i64 (m : Int), .int .i64 (k : Int)] w1 fun e w' => e = .returned (.int .i64 0) ∧ MadeP w n m k B w' :=
  (sfmt_at w.heap.size w1 B iv _ (dk0 n) h hb.size (by show (-1 : Int) < 0; decide) rfl m k ok.m1 ok.m2 ok.k1 ok.k2 ok.p6 (by rw [dk0_len]; exact ok.sec) (by rw [dk0_len]; omega) (by show (0 : Nat) ≤ _; omega) (suL suO) 4 (mkOfc n m k ok)).mono fun e w' hp => ⟨hp.1, ⟨iv, hp.2.1⟩, hb.trans (hp.2.2.below (fun j hj => (h.inF j hj).1) hb.size)⟩
/-- What Open answers of such a disk. -/
def OpenP (w w1 : World) (B m k : Nat) (e : Ending) (w' : World) : Prop := ∃ S pm pd mf md Fm Fd, e = .returned (.tuple #[pt S, .int .i64 0]) ∧ StB w' S B pm pd mf md (suF m k (pagesN m + pagesN k)) ⟨ctK m (pagesN m + pagesN k), ctK m (pagesN m + pagesN k), 0, 0⟩ ⟨List.replicate k 0, List.replicate k 0, 0, 0⟩ Fm Fd false ∧ w'.heap[mf]? = some (.map #[] 0) ∧ w'.heap[md]? = some (.map #[] 0) ∧ mf ≠ md ∧ Below w1.heap.size w1 w' ∧ w1.heap.size ≤ S ∧ w1.heap.size ≤ mf ∧ w1.heap.size ≤ md ∧ (∀ k ∈ Fm, w1.heap.size ≤ k) ∧ (∀ k ∈ Fd, w1.heap.size ≤ k) ∧ ∀ k ∈ Fd, k ∉ Fm
theorem open_call (w w1 : World) (n m k B : Nat) (ok : MkOk n m k) (hn : n ≤ 8192) (h : MadeP w n m k B w1) : Calls Tryz.prog 27 #[.pointer (some ⟨B, 0, none⟩)] w1 (OpenP w w1 B m k) := by
  obtain ⟨⟨iv, hd⟩, hb⟩ := h
  have hl : ((dk0 n).fmt m k).img.length = n := by rw [fmt_len, dk0_len]
  have hok := fmt_ok (dk0_len n) ok
  have h6 := ok.p6
  have m1 := ok.m1
  refine (sopen_at w.heap.size w1 B iv _ _ hd _ m k _ _ hok (by omega) (slotF m k) slotE (fmt_slots (dk0_len n) ok) (slot_tx m k) (slot_best m k)).mono ?_
  rintro e w' ⟨S, pm, pd, mf, md, Fm, Fd, he, h1, h2, h3, h4, h5, h7, h8, h9, h10, h11, h12, h13, h14⟩
  refine ⟨S, pm, pd, mf, md, Fm, Fd, he, ⟨h1, h2, h3, area0 hok.ml (by omega) (by have := ok.m2; omega) hok.mc, area0 hok.dl ok.k1 (by have := ok.k2; omega) hok.dc, ?_, ?_, suF_wf m k h6⟩, h4, h5, h7, h8, h9, h10, h11, h12, h13, h14⟩
  · show ((ctK m _).length : Int) = (m : Int)
    rw [ctK_len (by omega)]
  · show ((List.replicate k 0).length : Int) = (k : Int)
    rw [List.length_replicate]
set_option maxRecDepth 100000 in
set_option maxHeartbeats 3200000 in
theorem made_at (w : World) (m k : Nat) (ok : MkOk (4 * (2 + m + k)) m k) : Calls Tryz.prog 84 #[.int .i64 (m : Int), .int .i64 (k : Int)] w fun e w' => ∃ B, e = .returned (pt B) ∧ MadeP w (4 * (2 + m + k)) m k B w' := by
  have m2 := ok.m2
  have k2 := ok.k2
  have m1 := ok.m1
  have CN := dknew_at w (4 * (2 + m + k)) (by omega) (by omega)
  rw [show ((4 * (2 + m + k) : Nat) : Int) = 4 * (2 + (m : Int) + (k : Int)) by omega] at CN
  have CF : Hid (∀ w1 B iv, DkAt w.heap.size w1 B iv (.slice none 0 0) (dk0 (4 * (2 + m + k))) → Below w.heap.size w w1 → Calls Tryz.prog 28 #[.pointer (some ⟨B, 0, none⟩), .int .i64 (m : Int), .int .i64 (k : Int)] w1 fun e w' => e = .returned (.int .i64 0) ∧ MadeP w (4 * (2 + m + k)) m k B w') := Lib.hid (fun w1 B iv h1 h2 => fmt_call w w1 _ m k B iv ok (by omega) h1 h2)
  clear ok
  go_enter Tryz.func84, Tryz.ntmps84
  go_wp2_with fail
  refine CN.mono ?_
  rintro e w1 ⟨B, iv, rfl, hd, hb⟩
  dsimp only
  have C := CF.out w1 B iv hd hb
  clear CN hd hb
  go_wp2_with fail
  refine C.mono ?_
  rintro e w2 ⟨rfl, hm⟩
  have HM := Lib.hid hm
  clear C hm
  go_wp2_with fail
  go_ret
  exact ⟨B, rfl, HM.out⟩
set_option maxRecDepth 100000 in
set_option maxHeartbeats 3200000 in
theorem sroom_at {w : World} {S B pm pd mf md : Nat} {s : Su} {A D : M} {Fm Fd : List Nat} {bk : Bool} (h : StB w S B pm pd mf md s A D Fm Fd bk) : Calls Tryz.prog 14 #[.pointer (some ⟨S, 0, none⟩)] w fun e w' => e = .returned (.tuple #[.int .i64 (roomK A A.now.length : Int), .int .i64 (roomK D D.now.length : Int)]) ∧ Below w.heap.size w w' := by
  have HC1 : Hid (w.cell? ⟨S, 20, none⟩ = some (.pointer (some ⟨pm, 0, none⟩))) := Lib.hid (cellOf h.box 20 rfl)
  have HC2 : Hid (w.cell? ⟨S, 21, none⟩ = some (.pointer (some ⟨pd, 0, none⟩))) := Lib.hid (cellOf h.box 21 rfl)
  have HSL : Hid (S < w.heap.size) := Lib.hid (Array.getElem?_eq_some_iff.1 h.box).1
  have CF1 : Hid (∀ X, Below w.heap.size w X → Calls Tryz.prog 64 #[.pointer (some ⟨pm, 0, none⟩)] X fun e w' => e = .returned (.int .i64 (roomK A A.now.length : Int)) ∧ Below X.heap.size X w') := Lib.hid (fun X hX => (freeN_any (h.below hX).ma h.mok).mono fun e w' hp => ⟨hp.1, by rw [hp.2]; exact Below.refl _ _⟩)
  have CF2 : Hid (∀ X, Below w.heap.size w X → Calls Tryz.prog 64 #[.pointer (some ⟨pd, 0, none⟩)] X fun e w' => e = .returned (.int .i64 (roomK D D.now.length : Int)) ∧ Below X.heap.size X w') := Lib.hid (fun X hX => (freeN_any (h.below hX).da h.dok).mono fun e w' hp => ⟨hp.1, by rw [hp.2]; exact Below.refl _ _⟩)
  obtain ⟨ra, hra⟩ : ∃ x, roomK A A.now.length = x := ⟨_, rfl⟩
  obtain ⟨rd, hrd⟩ : ∃ x, roomK D D.now.length = x := ⟨_, rfl⟩
  rw [hra] at CF1 ⊢
  rw [hrd] at CF2 ⊢
  clear h hra hrd
  go_enter Tryz.func14, Tryz.ntmps14
  go_wp2_with fail
  have HSS : Hid (∀ X, Below w.heap.size w X → (X.cell? ⟨S, 20, none⟩ = some (.pointer (some ⟨pm, 0, none⟩)) ∧ X.cell? ⟨S, 21, none⟩ = some (.pointer (some ⟨pd, 0, none⟩))) ∧ Below w.heap.size w X) := Lib.hid (fun X hb => ⟨⟨(World.cell?_of_block (hb.block _ (HSL.out))).trans (HC1.out), (World.cell?_of_block (hb.block _ (HSL.out))).trans (HC2.out)⟩, hb⟩)
  refine wp_region_held_drew (S := fun X => (X.cell? ⟨S, 20, none⟩ = some (.pointer (some ⟨pm, 0, none⟩)) ∧ X.cell? ⟨S, 21, none⟩ = some (.pointer (some ⟨pd, 0, none⟩))) ∧ Below w.heap.size w X) (by kernel_rfl) (HSS.out _ (Below.refl _ _).drew) (fun hHeld => ?_)
  have hbe : Below w.heap.size w w.drew := (Below.refl _ _).drew
  obtain ⟨wd, hwd⟩ : ∃ y, w.drew = y := ⟨_, rfl⟩
  rw [hwd] at hHeld hbe ⊢
  have HBE := Lib.hid hbe
  have HS0 : Hid (w.heap.size ≤ wd.heap.size) := Lib.hid HBE.out.size
  clear hwd hbe
  refine wpAnyH_take (i := 0) (v := ?_) rfl (by kernel_rfl) (by kernel_rfl) (by kernel_rfl) (fun _ _ _ h => h) (Or.inl ⟨by rfl, ?_⟩) (by assumption) ?_
  rotate_left
  · (intro w hSw; (try dsimp only at hSw); simp only [List.getElem_toArray, List.getElem_cons_zero, List.getElem_cons_succ]; go_simp; first | done | with_reducible rfl)
  simp only [List.getElem_toArray, List.getElem_cons_zero, List.getElem_cons_succ, Act.put, List.setIfInBounds_toArray, List.set_cons_zero, List.set_cons_succ]
  refine wpAnyH_take (i := 5) (v := ?_) rfl (by kernel_rfl) (by kernel_rfl) (by kernel_rfl) (fun _ _ _ h => h) (Or.inl ⟨by rfl, ?_⟩) (by assumption) ?_
  rotate_left
  · (intro w hSw; (try dsimp only at hSw); simp only [List.getElem_toArray, List.getElem_cons_zero, List.getElem_cons_succ]; go_simp; first | done | with_reducible rfl)
  simp only [List.getElem_toArray, List.getElem_cons_zero, List.getElem_cons_succ, Act.put, List.setIfInBounds_toArray, List.set_cons_zero, List.set_cons_succ]
  refine wpAnyH_take (i := 1) (v := ?_) rfl (by kernel_rfl) (by kernel_rfl) (by kernel_rfl) (fun _ _ _ h => h) (Or.inl ⟨by rfl, ?_⟩) (by assumption) ?_
  rotate_left
  · (intro w hSw; (try dsimp only at hSw); simp only [List.getElem_toArray, List.getElem_cons_zero, List.getElem_cons_succ]; go_simp; first | done | with_reducible rfl)
  simp only [List.getElem_toArray, List.getElem_cons_zero, List.getElem_cons_succ, Act.put, List.setIfInBounds_toArray, List.set_cons_zero, List.set_cons_succ]
  refine wpAnyH_take (i := 6) (v := ?_) rfl (by kernel_rfl) (by kernel_rfl) (by kernel_rfl) (fun _ _ _ h => h) (Or.inl ⟨by rfl, ?_⟩) (by assumption) ?_
  rotate_left
  · (intro w hSw; (try dsimp only at hSw); simp only [List.getElem_toArray, List.getElem_cons_zero, List.getElem_cons_succ]; go_simp; first | done | with_reducible rfl)
  simp only [List.getElem_toArray, List.getElem_cons_zero, List.getElem_cons_succ, Act.put, List.setIfInBounds_toArray, List.set_cons_zero, List.set_cons_succ]
  refine wpAnyH_take (i := 2) (v := ?_) rfl (by kernel_rfl) (by kernel_rfl) (by kernel_rfl) (fun _ _ _ h => h) (Or.inl ⟨by rfl, ?_⟩) (by assumption) ?_
  rotate_left
  · (intro w hSw; (try dsimp only at hSw); simp only [List.getElem_toArray, List.getElem_cons_zero, List.getElem_cons_succ]; go_simp; first | done | with_reducible rfl)
  simp only [List.getElem_toArray, List.getElem_cons_zero, List.getElem_cons_succ, Act.put, List.setIfInBounds_toArray, List.set_cons_zero, List.set_cons_succ]
  refine wpAnyH_take (i := 7) (v := ?_) rfl (by kernel_rfl) (by kernel_rfl) (by kernel_rfl) (fun _ _ _ h => h) (Or.inl ⟨by rfl, ?_⟩) (by assumption) ?_
  rotate_left
  · (intro w hSw; (try dsimp only at hSw); simp only [List.getElem_toArray, List.getElem_cons_zero, List.getElem_cons_succ]; go_simp; first | done | with_reducible rfl)
  simp only [List.getElem_toArray, List.getElem_cons_zero, List.getElem_cons_succ, Act.put, List.setIfInBounds_toArray, List.set_cons_zero, List.set_cons_succ]
  refine wpAnyH_take (i := 3) (v := ?_) rfl (by kernel_rfl) (by kernel_rfl) (by kernel_rfl) (fun _ _ _ h => h) (Or.inl ⟨by rfl, ?_⟩) (by assumption) ?_
  rotate_left
  · (intro w hSw; (try dsimp only at hSw); simp only [List.getElem_toArray, List.getElem_cons_zero, List.getElem_cons_succ]; go_simp; first | done | with_reducible rfl)
  simp only [List.getElem_toArray, List.getElem_cons_zero, List.getElem_cons_succ, Act.put, List.setIfInBounds_toArray, List.set_cons_zero, List.set_cons_succ]
  refine wpAnyH_take (i := 8) (v := ?_) rfl (by kernel_rfl) (by kernel_rfl) (by kernel_rfl) (fun _ _ _ h => h) (Or.inl ⟨by rfl, ?_⟩) (by assumption) ?_
  rotate_left
  · (intro w hSw; (try dsimp only at hSw); simp only [List.getElem_toArray, List.getElem_cons_zero, List.getElem_cons_succ]; go_simp; first | done | with_reducible rfl)
  simp only [List.getElem_toArray, List.getElem_cons_zero, List.getElem_cons_succ, Act.put, List.setIfInBounds_toArray, List.set_cons_zero, List.set_cons_succ]
  refine wpAnyH_ready (rs := [4]) (by kernel_rfl) (by simp) ?_
  refine AllReadyH.cons rfl (fun K hK => ?_) (AllReadyH.nil)
  simp only [List.getElem_toArray, List.getElem_cons_zero, List.getElem_cons_succ]
  go_simp
  refine (CF1.out _ HBE.out).mono ?_
  rintro e y4 ⟨rfl, hb4⟩
  dsimp only
  have HBE := Lib.hid (bthen HBE.out hb4)
  have hSp := HSS.out _ HBE.out
  clear hHeld
  refine hK.out _ _ hSp (fun hHeld => ?_)
  clear hSp hK K
  try simp only [Act.put, List.setIfInBounds_toArray, List.set_cons_zero, List.set_cons_succ]
  have HC4 := Lib.hid hb4
  clear hb4
  refine wpAnyH_ready (rs := [9]) (by kernel_rfl) (by simp) ?_
  refine AllReadyH.cons rfl (fun K hK => ?_) (AllReadyH.nil)
  simp only [List.getElem_toArray, List.getElem_cons_zero, List.getElem_cons_succ]
  go_simp
  refine (CF2.out _ HBE.out).mono ?_
  rintro e y9 ⟨rfl, hb9⟩
  dsimp only
  have HBE := Lib.hid (bthen HBE.out hb9)
  have hSp := HSS.out _ HBE.out
  clear hHeld
  refine hK.out _ _ hSp (fun hHeld => ?_)
  clear hSp hK K
  try simp only [Act.put, List.setIfInBounds_toArray, List.set_cons_zero, List.set_cons_succ]
  have HC9 := Lib.hid hb9
  clear hb9
  refine wpAnyH_take (i := 10) (v := ?_) rfl (by kernel_rfl) (by kernel_rfl) (by kernel_rfl) (fun _ _ _ h => h) (Or.inl ⟨by rfl, ?_⟩) (by assumption) ?_
  rotate_left
  · (intro w hSw; (try dsimp only at hSw); simp only [List.getElem_toArray, List.getElem_cons_zero, List.getElem_cons_succ]; go_simp; first | done | with_reducible rfl)
  simp only [List.getElem_toArray, List.getElem_cons_zero, List.getElem_cons_succ, Act.put, List.setIfInBounds_toArray, List.set_cons_zero, List.set_cons_succ]
  refine wpAnyH_take (i := 11) (v := ?_) rfl (by kernel_rfl) (by kernel_rfl) (by kernel_rfl) (fun _ _ _ h => h) (Or.inl ⟨by rfl, ?_⟩) (by assumption) ?_
  rotate_left
  · (intro w hSw; (try dsimp only at hSw); simp only [List.getElem_toArray, List.getElem_cons_zero, List.getElem_cons_succ]; go_simp; first | done | with_reducible rfl)
  simp only [List.getElem_toArray, List.getElem_cons_zero, List.getElem_cons_succ, Act.put, List.setIfInBounds_toArray, List.set_cons_zero, List.set_cons_succ]
  refine wpAnyH_done (by kernel_rfl) ?_ _
  have HEND := Lib.hid hHeld.2
  have HSE := Lib.hid hHeld.1
  clear hHeld
  clear HSS HSE HEND
  go_wp2_with fail
  go_ret2
  exact ⟨rfl, HBE.out⟩
set_option maxRecDepth 100000 in
set_option maxHeartbeats 3200000 in
theorem known08_at (w : World) : Calls Tryz.prog 29 #[] w fun e w' => e = .returned (.bool true) ∧ Below w.heap.size w w' := by
  have ok : MkOk (4 * (2 + 16 + 8)) 16 8 := by constructor <;> decide
  have CM := made_at w 16 8 ok
  have CO : Hid (∀ X B, MadeP w (4 * (2 + 16 + 8)) 16 8 B X → Calls Tryz.prog 27 #[.pointer (some ⟨B, 0, none⟩)] X (OpenP w X B 16 8)) := Lib.hid (fun X B hX => open_call w X _ 16 8 B ok (by decide) hX)
  unfold pt at CM
  clear ok
  go_enter Tryz.func29, Tryz.ntmps29
  go_wp2_with fail
  refine CM.mono ?_
  rintro e w1 ⟨B, rfl, hm⟩
  have HB1 := Lib.hid hm.2
  have C := CO.out w1 B hm
  clear CM hm
  go_wp2_with fail
  refine C.mono ?_
  rintro e w2 ⟨S, pm, pd, mf, md, Fm, Fd, rfl, h1, h2, h3, h4, h5, _⟩
  unfold pt
  dsimp only
  have CR := sroom_at h1
  have e1 : roomK (⟨ctK 16 (pagesN 16 + pagesN 8), ctK 16 (pagesN 16 + pagesN 8), 0, 0⟩ : M) (ctK 16 (pagesN 16 + pagesN 8)).length = 13 := by decide
  have e2 : roomK (⟨List.replicate 8 0, List.replicate 8 0, 0, 0⟩ : M) (List.replicate 8 0).length = 8 := by decide
  rw [e1, e2] at CR
  have HB2 := Lib.hid (bthn HB1.out h5)
  clear C h1 h2 h3 h4 h5 e1 e2
  go_wp2_with fail
  refine CR.mono ?_
  rintro e w3 ⟨rfl, hb3⟩
  have HB3 := Lib.hid (bthn HB2.out hb3)
  clear CR hb3
  go_wp2_with fail
  go_ret
  exact ⟨rfl, HB3.out⟩
end Go.Proofs.YtcdobdjemlaaaaaGreat
