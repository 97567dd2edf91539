/- Devices: the law's num and known, walked. -/
import Derived.Test.YthkmihedkddnmaaDev24
namespace Go.Proofs.Ythkmihedkddnmaa
open Go.RowKit Go.Maps Wire Cmd
set_option linter.unusedVariables false
set_option linter.unusedSimpArgs false

theorem run_textD (w : World) (v : Value) (n : Nat) (bs : List UInt8) (h : Rd w 1 v n (bV bs)) : ((convert 25 9 v).run Try.prog w).andThen (fun a w' => Result.ok (Next.value a) w') = .ok (.value (.string (strB bs))) w := by
  rw [run_text w v n bs h]; rfl
theorem strB_eqD (a b : List UInt8) : ((strB a).toList == (strB b).toList) = (a == b) := by rw [strB_toList, strB_toList]
theorem strB_appD (a b : List UInt8) : strB a ++ strB b = strB (a ++ b) := by simp [strB, ByteArray.ext_iff]
theorem num14_any (n : Int) (w : World) : Calls Try.prog 10 #[.int .i64 n] w fun e w' => e = .returned (.int .i64 n) ∧ w = w' := by
  go_enter Try.func10, Try.ntmps10
  go_wp2_with fail
  go_ret
  exact ⟨rfl, rfl⟩
/-- The chapter's row. -/
def x64 : List UInt8 := 120 :: List.replicate 63 0
def kC : Op0 := ⟨1, 1, 0, 2, 0, 0, []⟩
def kW : Op0 := ⟨5, 1, 0, 0, 4, 0, x64⟩
def kR : Op0 := ⟨9, 1, 0, 0, 0, 5, []⟩
def dC : List (Nat × Vl) := (stepD [] kC 1024).2
def dW : List (Nat × Vl) := (stepD dC kW 1024).2
theorem kR_ok : (stepD dW kR 1024).1.code = 0 ∧ (stepD dW kR 1024).1.data = List.replicate 256 0 ++ x64 ∧ (stepD dW kR 1024).1.data.length = 320 := by
  refine ⟨by kernel_rfl, by kernel_rfl, by kernel_rfl⟩
theorem kC_Ok : kC.Ok := by constructor <;> decide
theorem kW_Ok : kW.Ok := by constructor <;> decide
theorem kR_Ok : kR.Ok := by constructor <;> decide
theorem rd_heap {X : World} {g : Nat} {t : TypeId} {l : List UInt8} {n : Nat} (h : X.heap[g]? = some (.cells (bV l).toArray t (0, 0))) (hl : l.length = n) (hn : n ≤ 1000000) : Rd X 1 (.slice (some ⟨g, 0, none⟩) n n) n (bV l) := by
  refine ⟨_, _, rfl, by simp [bV_len, hl], by unfold maxLen; omega, ⟨(fun h => by cases h), Nat.le_refl _, by unfold maxLen; omega⟩, fun j u hj => ⟨g, 0, rfl, (Array.getElem?_eq_some_iff.1 h).1, ?_⟩⟩
  rw [Nat.zero_add]
  exact cellOf' h j (by simpa using hj)
theorem rd_nil (X : World) : Rd X 1 (.slice none 0 0) 0 (bV []) := Rd.of_own (World.ownsRow_nil X 0 5 1)
theorem PartP.chg {n0 : Nat} {w w' : World} {B Ba : Nat} {l : List (Nat × (Vl × Nat))} {r : Ans0 × List (Nat × Vl)} {e : Ending} (h : PartP n0 w B Ba l r e w') : ∃ sa cp l', e = .returned (.agg #[.int .i64 r.1.code, .int .i64 r.1.done, .slice sa r.1.data.length cp]) ∧ DevAt n0 w' B Ba l' ∧ strip l' = r.2 ∧
    w'.ownsRow w.heap.size 5 1 (.slice sa r.1.data.length cp) r.1.data.length (bV r.1.data) ∧ Chg (dF Ba l) w w' (dF Ba l') := by
  obtain ⟨sv, l', rfl, h1, h2, h3, h4⟩ := h
  obtain ⟨sa, cp, rfl, _⟩ := Rd.of_own h3
  exact ⟨sa, cp, l', rfl, h1, h2, h3, h4⟩
/-- A device of one's own: what an operation does stays in new memory. -/
theorem DevAt.own {w0 w w' : World} {B Ba : Nat} {l l' : List (Nat × (Vl × Nat))} (h : DevAt w0.heap.size w B Ba l) (hb : Below w0.heap.size w0 w) (hc : Chg (dF Ba l) w w' (dF Ba l')) : Below w0.heap.size w0 w' := by
  refine hb.trans (hc.1.below (fun k hk => ?_) hb.size)
  rcases List.mem_cons.1 hk with rfl | hk
  · exact h.ge.2.1
  · obtain ⟨p, hp, rfl⟩ := List.mem_map.1 hk
    exact h.ge.2.2 p hp
theorem num14_b (n : Int) (w : World) : Calls Try.prog 10 #[.int .i64 n] w fun e w' => e = .returned (.int .i64 n) ∧ Below w.heap.size w w' := (num14_any n w).mono fun e w' ⟨h1, h2⟩ => ⟨h1, by rw [← h2]; exact Below.refl _ _⟩
set_option maxRecDepth 100000 in
set_option maxHeartbeats 6400000 in
theorem known14_any (w : World) : Calls Try.prog 4 #[] w fun e w' => e = .returned (.bool true) ∧ Below w.heap.size w w' := by
  have CN := dnew_any w.heap.size w (Nat.le_refl _)
  have HMK9 : Hid (∀ W : World, (Instr.makeSlice 25 (.int .i64 256) (.int .i64 256)).run Try.prog W = .ok (.slice (some ⟨W.heap.size, 0, none⟩) 256 256) (W.alloc (.cells (bV (List.replicate 256 0)).toArray 5))) := Lib.hid (fun W => by kernel_rfl)
  have HMK : Hid (∀ W : World, (Instr.makeSlice 25 (.int .i64 64) (.int .i64 64)).run Try.prog W = .ok (.slice (some ⟨W.heap.size, 0, none⟩) 64 64) (W.alloc (.cells (bV (List.replicate 64 0)).toArray 5))) := Lib.hid (fun W => by kernel_rfl)
  go_enter Try.func4, Try.ntmps4
  go_wp2_with fail
  refine CN.mono ?_
  rintro e w1 ⟨B, Ba, rfl, hd1, hb1, _, _⟩
  dsimp only
  have HD1 := Lib.hid hd1
  have HB1 := Lib.hid hb1
  clear CN hd1 hb1
  have CC := ddo_at w.heap.size w1 B Ba [] HD1.out kC kC_Ok none 0 (rd_nil _)
  go_wp2_with fail
  refine CC.mono ?_
  intro e w2 hP
  obtain ⟨sa, cp, l2, rfl, hd2, hs2, _, hc2⟩ := hP.chg
  dsimp only
  have HD2 := Lib.hid hd2
  have HS2 : Hid (strip l2 = dC) := Lib.hid hs2
  have HB2 := Lib.hid (HD1.out.own HB1.out hc2)
  clear CC hd2 hs2 hc2 hP
  have hmk := HMK.out w2
  obtain ⟨w3, hw3⟩ : ∃ y, w2.alloc (.cells (bV (List.replicate 64 0)).toArray 5) = y := ⟨_, rfl⟩
  have hb3 : Below w2.heap.size w2 w3 := by rw [← hw3]; exact balloc (Below.refl _ _) _
  have hx3 : w3.heap[w2.heap.size]? = some (.cells (bV (List.replicate 64 0)).toArray 5 (0, 0)) := by rw [← hw3]; exact heap_alloc_new w2 _
  obtain ⟨g, hg⟩ : ∃ g, w2.heap.size = g := ⟨_, rfl⟩
  have HG := Lib.hid hg
  rw [hg] at hx3 hmk
  rw [hw3] at hmk
  have c30 : w3.cell? ⟨g, 0, none⟩ = some (.int .u8 0) := cellOf hx3 0 rfl
  have f30 := frozenOf hx3 0
  obtain ⟨w4, hw4⟩ : ∃ y, w3.setCell ⟨g, 0, none⟩ (.int .u8 120) = y := ⟨_, rfl⟩
  have hm4 : Mods [g] w3 w4 := by rw [← hw4]; exact (Mods.refl _ w3).setCell (p := ⟨g, 0, none⟩) (by simp) _
  have hx4 : w4.heap[g]? = some (.cells (bV x64).toArray 5 (0, 0)) := by
    have h1 := setOf hx3 0 (.int .u8 120)
    rw [hw4] at h1
    rw [h1]
    have : ((bV (List.replicate 64 0)).toArray.setIfInBounds 0 (.int .u8 120)) = (bV x64).toArray := by kernel_rfl
    rw [this]
  have HB4 : Hid (Below w2.heap.size w2 w4) := Lib.hid (hb3.trans (hm4.below (fun k hk => by rw [List.mem_singleton.1 hk, hg]; exact Nat.le_refl _) hb3.size))
  have HX4 := Lib.hid hx4
  have CW := ddo_at w.heap.size w4 B Ba l2 (HD2.out.below HB4.out) kW kW_Ok (some ⟨g, 0, none⟩) 64 (rd_heap hx4 (by decide) (by decide))
  clear hb3 hx3 hm4 hx4 hg
  go_wp2_with fail
  refine CW.mono ?_
  intro e w5 hP
  obtain ⟨sa5, cp5, l5, rfl, hd5, hs5, _, hc5⟩ := hP.chg
  dsimp only
  have HD5 := Lib.hid hd5
  have HS5 : Hid (strip l5 = dW) := Lib.hid (by rw [hs5, HS2.out]; rfl)
  have HB5 := Lib.hid ((HD2.out.below HB4.out).own (bthen HB2.out HB4.out) hc5)
  have HNG : Hid (g ∉ dF Ba l5) := Lib.hid (fun hh => by
    have h4 := (Array.getElem?_eq_some_iff.1 HX4.out).1
    have h2 := HG.out
    rcases hc5.2 g hh with h | h
    · have := HD2.out.lt_all g h
      omega
    · omega)
  have HX5 := Lib.hid ((hc5.1.block g (Array.getElem?_eq_some_iff.1 HX4.out).1 (fun hh => by
    have := HD2.out.lt_all g hh
    have := HG.out
    omega)).trans HX4.out)
  clear CW hd5 hs5 hc5 hP hmk c30 f30 hw3 hw4
  have CR := ddo_at w.heap.size w5 B Ba l5 HD5.out kR kR_Ok none 0 (rd_nil _)
  go_wp2_with fail
  refine CR.mono ?_
  intro e w6 hP
  obtain ⟨sa6, cp6, l6, rfl, hd6, hs6, ho6, hc6⟩ := hP.chg
  rw [HS5.out] at ho6 ⊢
  rw [kR_ok.2.2, kR_ok.2.1] at ho6
  rw [kR_ok.1, kR_ok.2.2]
  dsimp only
  have HB6 := Lib.hid (HD5.out.own HB5.out hc6)
  have HX6 := Lib.hid ((hc6.1.block g (Array.getElem?_eq_some_iff.1 HX5.out).1 HNG.out).trans HX5.out)
  have HO6 := Lib.hid ho6
  clear CR hd6 hs6 hc6 hP ho6
  obtain ⟨ad6, had6⟩ : ∃ d, (stepD dW kR 1024).1.done = d := ⟨_, rfl⟩
  rw [had6]
  clear had6
  obtain ⟨w7, hw7⟩ : ∃ y, w6.alloc (.cells #[.int .i64 0, .int .i64 ad6, .slice sa6 320 cp6] 35) = y := ⟨_, rfl⟩
  have HB7 : Hid (Below w6.heap.size w6 w7) := Lib.hid (by rw [← hw7]; exact balloc (Below.refl _ _) _)
  have HX7 : Hid (w7.heap[w6.heap.size]? = some (.cells #[.int .i64 0, .int .i64 ad6, .slice sa6 320 cp6] 35 (0, 0))) := Lib.hid (by rw [← hw7]; exact heap_alloc_new w6 _)
  go_wp2_with fail
  (try rw [hw7])
  clear hw7
  obtain ⟨SA, hSA⟩ : ∃ s, strB (List.replicate 256 0) = s := ⟨_, rfl⟩
  obtain ⟨SB, hSB⟩ : ∃ s, strB x64 = s := ⟨_, rfl⟩
  obtain ⟨SC, hSC⟩ : ∃ s, strB (List.replicate 256 0 ++ x64) = s := ⟨_, rfl⟩
  have HABC : Hid (SA ++ SB = SC) := Lib.hid (by rw [← hSA, ← hSB, ← hSC, strB_appD])
  have hsz : SA.size = 256 ∧ SB.size = 64 ∧ SC.size = 320 := ⟨by rw [← hSA]; kernel_rfl, by rw [← hSB]; kernel_rfl, by rw [← hSC]; kernel_rfl⟩
  have HT7 : Hid (∀ X, Below w7.heap.size w7 X → ((convert 25 9 (.slice sa6 320 cp6)).run Try.prog X).andThen (fun a w' => Result.ok (Next.value a) w') = .ok (.value (.string SC)) X) := Lib.hid (fun X hX => by rw [← hSC]; exact run_textD X _ 320 _ ((Rd.of_own HO6.out).below (bthen HB7.out hX)))
  have HT11 : Hid (∀ X, Below w7.heap.size w7 X → ((convert 25 9 (.slice (some ⟨g, 0, none⟩) 64 64)).run Try.prog X).andThen (fun a w' => Result.ok (Next.value a) w') = .ok (.value (.string SB)) X) := Lib.hid (fun X hX => by rw [← hSB]; exact run_textD X _ 64 _ ((rd_heap HX6.out (by decide) (by decide)).below (bthen HB7.out hX)))
  have HSA := Lib.hid hSA
  have HLZ := Lib.hid (Array.getElem?_eq_some_iff.1 HX7.out).1
  clear hSA hSB hSC
  have HSS : Hid (∀ X, Below w7.heap.size w7 X → (X.cell? ⟨w6.heap.size, 0, none⟩ = some (.int .i64 0) ∧ X.cell? ⟨w6.heap.size, 2, none⟩ = some (.slice sa6 320 cp6)) ∧ Below w7.heap.size w7 X) := Lib.hid (fun X hb => ⟨⟨(World.cell?_of_block (hb.block _ (HLZ.out))).trans (cellOf HX7.out 0 rfl), (World.cell?_of_block (hb.block _ (HLZ.out))).trans (cellOf HX7.out 2 rfl)⟩, hb⟩)
  refine wp_region_held_drew (S := fun X => (X.cell? ⟨w6.heap.size, 0, none⟩ = some (.int .i64 0) ∧ X.cell? ⟨w6.heap.size, 2, none⟩ = some (.slice sa6 320 cp6)) ∧ Below w7.heap.size w7 X) (by kernel_rfl) (HSS.out _ (Below.refl _ _).drew) (fun hHeld => ?_)
  have hbe : Below w7.heap.size w7 w7.drew := (Below.refl _ _).drew
  obtain ⟨wd, hwd⟩ : ∃ y, w7.drew = y := ⟨_, rfl⟩
  rw [hwd] at hHeld hbe ⊢
  have HBE := Lib.hid hbe
  have HS0 : Hid (w7.heap.size ≤ wd.heap.size) := Lib.hid HBE.out.size
  clear hwd hbe
  refine wpAnyH_take (i := 0) (v := ?_) rfl (by kernel_rfl) (by kernel_rfl) (by kernel_rfl) (fun _ _ _ h => h) (Or.inl ⟨by rfl, ?_⟩) (by assumption) ?_
  rotate_left
  · (intro w hSw; (try dsimp only at hSw); simp only [List.getElem_toArray, List.getElem_cons_zero, List.getElem_cons_succ]; go_simp; first | done | with_reducible rfl)
  simp only [List.getElem_toArray, List.getElem_cons_zero, List.getElem_cons_succ, Act.put, List.setIfInBounds_toArray, List.set_cons_zero, List.set_cons_succ]
  refine wpAnyH_take (i := 1) (v := ?_) rfl (by kernel_rfl) (by kernel_rfl) (by kernel_rfl) (fun _ _ _ h => h) (Or.inl ⟨by rfl, ?_⟩) (by assumption) ?_
  rotate_left
  · (intro w hSw; (try dsimp only at hSw); simp only [List.getElem_toArray, List.getElem_cons_zero, List.getElem_cons_succ]; go_simp; first | done | with_reducible rfl)
  simp only [List.getElem_toArray, List.getElem_cons_zero, List.getElem_cons_succ, Act.put, List.setIfInBounds_toArray, List.set_cons_zero, List.set_cons_succ]
  refine wpAnyH_ready (rs := [2]) (by kernel_rfl) (by simp) ?_
  refine AllReadyH.cons rfl (fun K hK => ?_) (AllReadyH.nil)
  simp only [List.getElem_toArray, List.getElem_cons_zero, List.getElem_cons_succ]
  go_simp
  refine (num14_b 0 _).mono ?_
  rintro e w8 ⟨rfl, hb8⟩
  dsimp only
  have HBE := Lib.hid (bthen HBE.out hb8)
  have hSp := HSS.out _ HBE.out
  clear hHeld
  refine hK.out _ _ hSp (fun hHeld => ?_)
  clear hSp hK K
  try simp only [Act.put, List.setIfInBounds_toArray, List.set_cons_zero, List.set_cons_succ]
  have HC2 := Lib.hid hb8
  clear hb8
  refine wpAnyH_take (i := 3) (v := ?_) rfl (by kernel_rfl) (by kernel_rfl) (by kernel_rfl) (fun _ _ _ h => h) (Or.inl ⟨by rfl, ?_⟩) (by assumption) ?_
  rotate_left
  · (intro w hSw; (try dsimp only at hSw); simp only [List.getElem_toArray, List.getElem_cons_zero, List.getElem_cons_succ]; go_simp; first | done | with_reducible rfl)
  simp only [List.getElem_toArray, List.getElem_cons_zero, List.getElem_cons_succ, Act.put, List.setIfInBounds_toArray, List.set_cons_zero, List.set_cons_succ]
  refine wpAnyH_take (i := 4) (v := ?_) rfl (by kernel_rfl) (by kernel_rfl) (by kernel_rfl) (fun _ _ _ h => h) (Or.inl ⟨by rfl, ?_⟩) (by assumption) ?_
  rotate_left
  · (intro w hSw; (try dsimp only at hSw); simp only [List.getElem_toArray, List.getElem_cons_zero, List.getElem_cons_succ]; go_simp; first | done | with_reducible rfl)
  simp only [List.getElem_toArray, List.getElem_cons_zero, List.getElem_cons_succ, Act.put, List.setIfInBounds_toArray, List.set_cons_zero, List.set_cons_succ]
  refine wpAnyH_take (i := 5) (v := ?_) rfl (by kernel_rfl) (by kernel_rfl) (by kernel_rfl) (fun _ _ _ h => h) (Or.inl ⟨by rfl, ?_⟩) (by assumption) ?_
  rotate_left
  · (intro w hSw; (try dsimp only at hSw); simp only [List.getElem_toArray, List.getElem_cons_zero, List.getElem_cons_succ]; go_simp; first | done | with_reducible rfl)
  simp only [List.getElem_toArray, List.getElem_cons_zero, List.getElem_cons_succ, Act.put, List.setIfInBounds_toArray, List.set_cons_zero, List.set_cons_succ]
  refine wpAnyH_take (i := 10) (v := ?_) rfl (by kernel_rfl) (by kernel_rfl) (by kernel_rfl) (fun _ _ _ h => h) (Or.inl ⟨by rfl, ?_⟩) (by assumption) ?_
  rotate_left
  · (intro w hSw; (try dsimp only at hSw); simp only [List.getElem_toArray, List.getElem_cons_zero, List.getElem_cons_succ]; go_simp; first | done | with_reducible rfl)
  simp only [List.getElem_toArray, List.getElem_cons_zero, List.getElem_cons_succ, Act.put, List.setIfInBounds_toArray, List.set_cons_zero, List.set_cons_succ]
  refine wpAnyH_take (i := 6) (v := ?_) rfl (by kernel_rfl) (by kernel_rfl) (by kernel_rfl) (fun _ _ _ h => h) (Or.inl ⟨by rfl, ?_⟩) (by assumption) ?_
  rotate_left
  · (intro w hSw; (try dsimp only at hSw); simp only [List.getElem_toArray, List.getElem_cons_zero, List.getElem_cons_succ]; go_simp; first | done | with_reducible rfl)
  simp only [List.getElem_toArray, List.getElem_cons_zero, List.getElem_cons_succ, Act.put, List.setIfInBounds_toArray, List.set_cons_zero, List.set_cons_succ]
  refine wpAnyH_take (i := 11) (v := .string SB) rfl (by kernel_rfl) (by kernel_rfl) (by kernel_rfl) (fun _ _ _ h => h) (Or.inl ⟨by rfl, ?_⟩) (by assumption) ?_
  · (intro w hSw; simp only [List.getElem_toArray, List.getElem_cons_zero, List.getElem_cons_succ]; (go_simp; exact HT11.out w hSw.2))
  simp only [List.getElem_toArray, List.getElem_cons_zero, List.getElem_cons_succ, Act.put, List.setIfInBounds_toArray, List.set_cons_zero, List.set_cons_succ]
  refine wpAnyH_take (i := 7) (v := .string SC) rfl (by kernel_rfl) (by kernel_rfl) (by kernel_rfl) (fun _ _ _ h => h) (Or.inl ⟨by rfl, ?_⟩) (by assumption) ?_
  · (intro w hSw; simp only [List.getElem_toArray, List.getElem_cons_zero, List.getElem_cons_succ]; (go_simp; exact HT7.out w hSw.2))
  simp only [List.getElem_toArray, List.getElem_cons_zero, List.getElem_cons_succ, Act.put, List.setIfInBounds_toArray, List.set_cons_zero, List.set_cons_succ]
  refine wpAnyH_ready (rs := [8]) (by kernel_rfl) (by simp) ?_
  refine AllReadyH.cons rfl (fun K hK => ?_) (AllReadyH.nil)
  obtain ⟨w9, hw9⟩ : ∃ y, w8.alloc (.cells (bV (List.replicate 256 0)).toArray 5) = y := ⟨_, rfl⟩
  have hmk9 : (Instr.makeSlice 25 (.int .i64 256) (.int .i64 256)).run Try.prog w8 = .ok (.slice (some ⟨w8.heap.size, 0, none⟩) 256 256) w9 := by rw [← hw9]; exact HMK9.out w8
  have hb9 : Below w8.heap.size w8 w9 := by rw [← hw9]; exact balloc (Below.refl _ _) _
  have hx9 : w9.heap[w8.heap.size]? = some (.cells (bV (List.replicate 256 0)).toArray 5 (0, 0)) := by rw [← hw9]; exact heap_alloc_new _ _
  simp only [List.getElem_toArray, List.getElem_cons_zero, List.getElem_cons_succ]
  go_simp
  refine hK.out _ _ ?_ (fun hHeld => ?_)
  · exact HSS.out _ (bthen hHeld.2 hb9)
  clear hK K
  try simp only [Act.put, List.setIfInBounds_toArray, List.set_cons_zero, List.set_cons_succ]
  have HBE := Lib.hid (bthen HBE.out hb9)
  have hrd9 := run_textD w9 _ 256 _ (rd_heap hx9 (List.length_replicate) (by decide))
  rw [HSA.out] at hrd9
  clear hw9 hmk9 hb9 hx9
  refine wpAnyH_ready (rs := [9]) (by kernel_rfl) (by simp) ?_
  refine AllReadyH.cons rfl (fun K hK => ?_) (AllReadyH.nil)
  have hrd := hrd9
  simp only [List.getElem_toArray, List.getElem_cons_zero, List.getElem_cons_succ]
  go_simp
  clear hrd
  have hSp := HSS.out _ HBE.out
  clear hHeld
  refine hK.out _ _ hSp (fun hHeld => ?_)
  clear hSp hK K
  try simp only [Act.put, List.setIfInBounds_toArray, List.set_cons_zero, List.set_cons_succ]
  refine wpAnyH_take (i := 12) (v := .string SC) rfl (by kernel_rfl) (by kernel_rfl) (by kernel_rfl) (fun _ _ _ h => h) (Or.inl ⟨by rfl, ?_⟩) (by assumption) ?_
  · (intro w hSw; simp only [List.getElem_toArray, List.getElem_cons_zero, List.getElem_cons_succ]; (have hh := HABC.out; go_simp; first | done | rw [hh]))
  simp only [List.getElem_toArray, List.getElem_cons_zero, List.getElem_cons_succ, Act.put, List.setIfInBounds_toArray, List.set_cons_zero, List.set_cons_succ]
  refine wpAnyH_take (i := 13) (v := ?_) rfl (by kernel_rfl) (by kernel_rfl) (by kernel_rfl) (fun _ _ _ h => h) (Or.inl ⟨by rfl, ?_⟩) (by assumption) ?_
  rotate_left
  · (intro w hSw; (try dsimp only at hSw); simp only [List.getElem_toArray, List.getElem_cons_zero, List.getElem_cons_succ]; go_simp; first | done | with_reducible rfl)
  simp only [List.getElem_toArray, List.getElem_cons_zero, List.getElem_cons_succ, Act.put, List.setIfInBounds_toArray, List.set_cons_zero, List.set_cons_succ]
  refine wpAnyH_take (i := 14) (v := ?_) rfl (by kernel_rfl) (by kernel_rfl) (by kernel_rfl) (fun _ _ _ h => h) (Or.inl ⟨by rfl, ?_⟩) (by assumption) ?_
  rotate_left
  · (intro w hSw; (try dsimp only at hSw); simp only [List.getElem_toArray, List.getElem_cons_zero, List.getElem_cons_succ]; go_simp; first | done | with_reducible rfl)
  simp only [List.getElem_toArray, List.getElem_cons_zero, List.getElem_cons_succ, Act.put, List.setIfInBounds_toArray, List.set_cons_zero, List.set_cons_succ]
  refine wpAnyH_take (i := 15) (v := ?_) rfl (by kernel_rfl) (by kernel_rfl) (by kernel_rfl) (fun _ _ _ h => h) (Or.inl ⟨by rfl, ?_⟩) (by assumption) ?_
  rotate_left
  · (intro w hSw; (try dsimp only at hSw); simp only [List.getElem_toArray, List.getElem_cons_zero, List.getElem_cons_succ]; go_simp; first | done | with_reducible rfl)
  simp only [List.getElem_toArray, List.getElem_cons_zero, List.getElem_cons_succ, Act.put, List.setIfInBounds_toArray, List.set_cons_zero, List.set_cons_succ]
  refine wpAnyH_done (by kernel_rfl) ?_ _
  have HEND := Lib.hid hHeld.2
  have HSE := Lib.hid hHeld.1
  clear hHeld
  clear HSE HSS HBE
  go_wp2_with fail
  go_ret
  exact ⟨rfl, bthen (bthen HB6.out HB7.out) HEND.out⟩
end Go.Proofs.Ythkmihedkddnmaa
