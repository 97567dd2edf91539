import Derived.Test.YtgmahhdnjikdjaaGreatPG25
set_option linter.unusedVariables false
set_option linter.unusedSimpArgs false
/- repair: find, of roots that are none, walked. -/
namespace Go.Proofs.YtgmahhdnjikdjaaGreat
open Go.RowKit Wire
set_option linter.unusedVariables false
set_option linter.unusedSimpArgs false
/-- A plan's cells. -/
def plC (V B wy : Nat) (s : Su) (ch : Bool) : Array Value := ([Value.pointer (some ⟨V, 0, none⟩), .pointer (some ⟨B, 0, none⟩), .map (some wy), .int .u32 0, .slice none 0 0, .slice none 0 0] ++ (suL s ++ [Value.bool ch, .slice none 0 0, .slice none 0 0])).toArray
/-- What find answers of a view without trees. -/
def FndV : Value := .tuple #[.agg #[.slice none 0 0, .slice none 0 0, .slice none 0 0], .agg #[.bool false, .bool false, .bool false]]
def NlC : Array Value := #[.slice none 0 0, .slice none 0 0, .slice none 0 0]
def FlC : Array Value := #[.bool false, .bool false, .bool false]
theorem set_same3 {W : World} {b : Nat} {T : TypeId} (x : Value) (h : W.heap[b]? = some (.cells #[x, x, x] T (0, 0))) : (((W.setCell ⟨b, 0, none⟩ x).setCell ⟨b, 1, none⟩ x).setCell ⟨b, 2, none⟩ x).heap[b]? = some (.cells #[x, x, x] T (0, 0)) := setOf (setOf (setOf h 0 x) 1 x) 2 x
set_option maxRecDepth 100000 in
set_option maxHeartbeats 12800000 in
theorem find_0 (w : World) (p V B wy mp : Nat) (s : Su) (ch : Bool) (hp : w.heap[p]? = some (.cells (plC V B wy s ch) 128 (0, 0))) (hv : VwAt w V mp s) (hr : s.top = 0 ∧ s.base = 0 ∧ s.stage = 0) :
  Calls Tryz.prog 104 #[.pointer (some ⟨p, 0, none⟩)] w fun e w' => e = .returned (.tuple #[.agg NlC, .agg FlC]) ∧ Below w.heap.size w w' := by
 have CT : Hid (∀ X, Calls Tryz.prog 59 #[.pointer (some ⟨V, 0, none⟩), .int .u32 0, .int .i64 3] X fun e w' => e = .returned (.tuple #[.slice none 0 0, .bool true]) ∧ Below X.heap.size X w') := Lib.hid (fun X => rtree_0 X V 3)
 obtain ⟨b2, hb2⟩ : ∃ b, w.heap.size = b := ⟨_, rfl⟩
 obtain ⟨w1, hw1⟩ : ∃ W, w.alloc (.cells #[.slice none 0 0, .slice none 0 0, .slice none 0 0] 206) = W := ⟨_, rfl⟩
 have hx1 : w1.heap[b2]? = some (.cells #[.slice none 0 0, .slice none 0 0, .slice none 0 0] 206 (0, 0)) := by rw [← hw1, ← hb2]; exact heap_alloc_new _ _
 have hB1 : Below w.heap.size w w1 := by rw [← hw1]; exact balloc (Below.refl _ _) _
 obtain ⟨b3, hb3⟩ : ∃ b, w1.heap.size = b := ⟨_, rfl⟩
 obtain ⟨w2, hw2⟩ : ∃ W, w1.alloc (.cells #[.bool false, .bool false, .bool false] 207) = W := ⟨_, rfl⟩
 have hx3 : w2.heap[b3]? = some (.cells #[.bool false, .bool false, .bool false] 207 (0, 0)) := by rw [← hw2, ← hb3]; exact heap_alloc_new _ _
 have hB2 : Below w1.heap.size w1 w2 := by rw [← hw2]; exact balloc (Below.refl _ _) _
 have hx2 := (hB2.block _ (Array.getElem?_eq_some_iff.1 hx1).1).trans hx1
 have HX2 := Lib.hid hx2
 have HX3 := Lib.hid hx3
 have HB2 := Lib.hid (bthn hB1 hB2)
 have HBG : Hid (w.heap.size ≤ b2 ∧ b2 < b3) := Lib.hid ⟨by omega, by have := (Array.getElem?_eq_some_iff.1 hx1).1; omega⟩
 have hpw := (HB2.out.block _ (Array.getElem?_eq_some_iff.1 hp).1).trans hp
 have hvw := (HB2.out.block _ (Array.getElem?_eq_some_iff.1 hv.1).1).trans hv.1
 have HPL : Hid (p < w2.heap.size ∧ V < w2.heap.size) := Lib.hid ⟨(Array.getElem?_eq_some_iff.1 hpw).1, (Array.getElem?_eq_some_iff.1 hvw).1⟩
 have HP0 : Hid (∀ X, Below w2.heap.size w2 X → X.cell? ⟨p, 0, none⟩ = some (.pointer (some ⟨V, 0, none⟩))) := Lib.hid (fun X hX => cellOf ((hX.block _ HPL.out.1).trans hpw) 0 rfl)
 have HRT : Hid (∀ X, Below w2.heap.size w2 X → ∀ j, j < 3 → X.cell? ⟨V, 9 + j, none⟩ = some (.int .u32 0)) := Lib.hid (fun X hX j hj => by
  refine cellOf ((hX.block _ HPL.out.2).trans hvw) (9 + j) ?_
  rcases (show j = 0 ∨ j = 1 ∨ j = 2 by omega) with rfl | rfl | rfl
  ·show some (Value.int .u32 (s.top : Int)) = _; rw [hr.1]; rfl
  ·show some (Value.int .u32 (s.base : Int)) = _; rw [hr.2.1]; rfl
  ·show some (Value.int .u32 (s.stage : Int)) = _; rw [hr.2.2]; rfl)
 have c0 := HP0.out w2 (Below.refl _ _)
 have CR := roots_at w2 V
 clear hp hv hx1 hx2 hx3 hB1 hB2 hpw hvw hr
 go_enter Tryz.func104, Tryz.ntmps104
 go_upto_region 1 with fail
 (try rw [hw1, hb2])
 (try rw [hw2, hb3])
 clear hw1 hw2 hb2 hb3
 go_wp2_with fail
 refine CR.mono ?_
 rintro e w3 ⟨rfl, hb3⟩
 dsimp only
 have HB3 := Lib.hid hb3
 clear CR hb3 c0
 go_wp2_with fail
 go_loopw [17] (fun v wr => ∃ i : Nat, i ≤ 3 ∧ v = .int .i64 (i : Int) ∧ Below w2.heap.size w2 wr) (fun v _ => 3 - (Go.RowKit.intOf v).toNat)
 case atStart => exact ⟨0, by omega, rfl, HB3.out⟩
 case round =>
  obtain ⟨i, hi, rfl, hbr⟩ := hrel
  have HBR := Lib.hid hbr
  clear hbr
  rcases (show i = 0 ∨ i = 1 ∨ i = 2 ∨ i = 3 by omega) with rfl | rfl | rfl | rfl
  ·skip
   have hix : ∀ W, (Instr.index 137 (.agg #[.pointer (some ⟨V, 9, none⟩), .pointer (some ⟨V, 10, none⟩), .pointer (some ⟨V, 11, none⟩)]) (.int .i64 0)).run Tryz.prog W = .ok (.pointer (some ⟨V, 9, none⟩)) W := fun W => by kernel_rfl
   go_upto_region 4 with fail
   have HSS : Hid (∀ X, Below wr.heap.size wr X → (X.cell? ⟨p, 0, none⟩ = some (.pointer (some ⟨V, 0, none⟩)) ∧ X.cell? ⟨V, 9, none⟩ = some (.int .u32 0)) ∧ Below wr.heap.size wr X) := Lib.hid (fun X hb => ⟨⟨(World.cell?_of_block (hb.block _ (Nat.lt_of_lt_of_le HPL.out.1 HBR.out.size))).trans ((HP0.out wr HBR.out)), (World.cell?_of_block (hb.block _ (Nat.lt_of_lt_of_le HPL.out.2 HBR.out.size))).trans ((HRT.out wr HBR.out 0 (by omega)))⟩, hb⟩)
   refine wp_region_held_drew (S := fun X => (X.cell? ⟨p, 0, none⟩ = some (.pointer (some ⟨V, 0, none⟩)) ∧ X.cell? ⟨V, 9, none⟩ = some (.int .u32 0)) ∧ Below wr.heap.size wr X) (by kernel_rfl) (HSS.out _ (Below.refl _ _).drew) (fun hHeld => ?_)
   have hbe : Below wr.heap.size wr wr.drew := (Below.refl _ _).drew
   obtain ⟨wd, hwd⟩ : ∃ y, wr.drew = y := ⟨_, rfl⟩
   rw [hwd] at hHeld hbe ⊢
   have HBE := Lib.hid hbe
   have HS0 : Hid (wr.heap.size ≤ wd.heap.size) := Lib.hid HBE.out.size
   clear hwd hbe
   refine wpAnyH_take (i := 0) (v := ?_) rfl (by kernel_rfl) (by kernel_rfl) (by kernel_rfl) (fun _ _ _ h => h) (Or.inl ⟨by rfl, ?_⟩) (by assumption) ?_
   rotate_left
   ·(intro w hSw; (try dsimp only at hSw); simp only [List.getElem_toArray, List.getElem_cons_zero, List.getElem_cons_succ]; go_simp; first | done | with_reducible rfl)
   simp only [List.getElem_toArray, List.getElem_cons_zero, List.getElem_cons_succ, Act.put, List.setIfInBounds_toArray, List.set_cons_zero, List.set_cons_succ]
   refine wpAnyH_take (i := 4) (v := ?_) rfl (by kernel_rfl) (by kernel_rfl) (by kernel_rfl) (fun _ _ _ h => h) (Or.inl ⟨by rfl, ?_⟩) (by assumption) ?_
   rotate_left
   ·(intro w hSw; (try dsimp only at hSw); simp only [List.getElem_toArray, List.getElem_cons_zero, List.getElem_cons_succ]; go_simp; first | done | with_reducible rfl)
   simp only [List.getElem_toArray, List.getElem_cons_zero, List.getElem_cons_succ, Act.put, List.setIfInBounds_toArray, List.set_cons_zero, List.set_cons_succ]
   refine wpAnyH_take (i := 1) (v := ?_) rfl (by kernel_rfl) (by kernel_rfl) (by kernel_rfl) (fun _ _ _ h => h) (Or.inl ⟨by rfl, ?_⟩) (by assumption) ?_
   rotate_left
   ·(intro w hSw; (try dsimp only at hSw); simp only [List.getElem_toArray, List.getElem_cons_zero, List.getElem_cons_succ]; go_simp; first | done | with_reducible rfl)
   simp only [List.getElem_toArray, List.getElem_cons_zero, List.getElem_cons_succ, Act.put, List.setIfInBounds_toArray, List.set_cons_zero, List.set_cons_succ]
   refine wpAnyH_take (i := 5) (v := ?_) rfl (by kernel_rfl) (by kernel_rfl) (by kernel_rfl) (fun _ _ _ h => h) (Or.inl ⟨by rfl, ?_⟩) (by assumption) ?_
   rotate_left
   ·(intro w hSw; (try dsimp only at hSw); simp only [List.getElem_toArray, List.getElem_cons_zero, List.getElem_cons_succ]; go_simp; first | done | with_reducible rfl)
   simp only [List.getElem_toArray, List.getElem_cons_zero, List.getElem_cons_succ, Act.put, List.setIfInBounds_toArray, List.set_cons_zero, List.set_cons_succ]
   refine wpAnyH_take (i := 2) (v := ?_) rfl (by kernel_rfl) (by kernel_rfl) (by kernel_rfl) (fun _ _ _ h => h) (Or.inl ⟨by rfl, ?_⟩) (by assumption) ?_
   rotate_left
   ·(intro w hSw; (try dsimp only at hSw); simp only [List.getElem_toArray, List.getElem_cons_zero, List.getElem_cons_succ]; go_simp; first | done | with_reducible rfl)
   simp only [List.getElem_toArray, List.getElem_cons_zero, List.getElem_cons_succ, Act.put, List.setIfInBounds_toArray, List.set_cons_zero, List.set_cons_succ]
   refine wpAnyH_take (i := 6) (v := ?_) rfl (by kernel_rfl) (by kernel_rfl) (by kernel_rfl) (fun _ _ _ h => h) (Or.inl ⟨by rfl, ?_⟩) (by assumption) ?_
   rotate_left
   ·(intro w hSw; (try dsimp only at hSw); simp only [List.getElem_toArray, List.getElem_cons_zero, List.getElem_cons_succ]; go_simp; first | done | with_reducible rfl)
   simp only [List.getElem_toArray, List.getElem_cons_zero, List.getElem_cons_succ, Act.put, List.setIfInBounds_toArray, List.set_cons_zero, List.set_cons_succ]
   refine wpAnyH_take (i := 3) (v := ?_) rfl (by kernel_rfl) (by kernel_rfl) (by kernel_rfl) (fun _ _ _ h => h) (Or.inl ⟨by rfl, ?_⟩) (by assumption) ?_
   rotate_left
   ·(intro w hSw; (try dsimp only at hSw); simp only [List.getElem_toArray, List.getElem_cons_zero, List.getElem_cons_succ]; go_simp; first | done | with_reducible rfl)
   simp only [List.getElem_toArray, List.getElem_cons_zero, List.getElem_cons_succ, Act.put, List.setIfInBounds_toArray, List.set_cons_zero, List.set_cons_succ]
   refine wpAnyH_ready (rs := [7]) (by kernel_rfl) (by simp) ?_
   refine AllReadyH.cons rfl (fun K hK => ?_) (AllReadyH.nil)
   simp only [List.getElem_toArray, List.getElem_cons_zero, List.getElem_cons_succ]
   go_simp
   refine (CT.out _).mono ?_
   rintro e y7 ⟨rfl, hb7⟩
   dsimp only
   have HBE := Lib.hid (bthen HBE.out hb7)
   have hSp := HSS.out _ HBE.out
   clear hHeld
   refine hK.out _ _ hSp (fun hHeld => ?_)
   clear hSp hK K
   try simp only [Act.put, List.setIfInBounds_toArray, List.set_cons_zero, List.set_cons_succ]
   have HC7 := Lib.hid hb7
   clear hb7
   refine wpAnyH_take (i := 8) (v := ?_) rfl (by kernel_rfl) (by kernel_rfl) (by kernel_rfl) (fun _ _ _ h => h) (Or.inl ⟨by rfl, ?_⟩) (by assumption) ?_
   rotate_left
   ·(intro w hSw; (try dsimp only at hSw); simp only [List.getElem_toArray, List.getElem_cons_zero, List.getElem_cons_succ]; go_simp; first | done | with_reducible rfl)
   simp only [List.getElem_toArray, List.getElem_cons_zero, List.getElem_cons_succ, Act.put, List.setIfInBounds_toArray, List.set_cons_zero, List.set_cons_succ]
   refine wpAnyH_take (i := 9) (v := ?_) rfl (by kernel_rfl) (by kernel_rfl) (by kernel_rfl) (fun _ _ _ h => h) (Or.inl ⟨by rfl, ?_⟩) (by assumption) ?_
   rotate_left
   ·(intro w hSw; (try dsimp only at hSw); simp only [List.getElem_toArray, List.getElem_cons_zero, List.getElem_cons_succ]; go_simp; first | done | with_reducible rfl)
   simp only [List.getElem_toArray, List.getElem_cons_zero, List.getElem_cons_succ, Act.put, List.setIfInBounds_toArray, List.set_cons_zero, List.set_cons_succ]
   refine wpAnyH_take (i := 10) (v := ?_) rfl (by kernel_rfl) (by kernel_rfl) (by kernel_rfl) (fun _ _ _ h => h) (Or.inl ⟨by rfl, ?_⟩) (by assumption) ?_
   rotate_left
   ·(intro w hSw; (try dsimp only at hSw); simp only [List.getElem_toArray, List.getElem_cons_zero, List.getElem_cons_succ]; go_simp; first | done | with_reducible rfl)
   simp only [List.getElem_toArray, List.getElem_cons_zero, List.getElem_cons_succ, Act.put, List.setIfInBounds_toArray, List.set_cons_zero, List.set_cons_succ]
   refine wpAnyH_take (i := 11) (v := ?_) rfl (by kernel_rfl) (by kernel_rfl) (by kernel_rfl) (fun _ _ _ h => h) (Or.inl ⟨by rfl, ?_⟩) (by assumption) ?_
   rotate_left
   ·(intro w hSw; (try dsimp only at hSw); simp only [List.getElem_toArray, List.getElem_cons_zero, List.getElem_cons_succ]; go_simp; first | done | with_reducible rfl)
   simp only [List.getElem_toArray, List.getElem_cons_zero, List.getElem_cons_succ, Act.put, List.setIfInBounds_toArray, List.set_cons_zero, List.set_cons_succ]
   refine wpAnyH_take (i := 12) (v := ?_) rfl (by kernel_rfl) (by kernel_rfl) (by kernel_rfl) (fun _ _ _ h => h) (Or.inl ⟨by rfl, ?_⟩) (by assumption) ?_
   rotate_left
   ·(intro w hSw; (try dsimp only at hSw); simp only [List.getElem_toArray, List.getElem_cons_zero, List.getElem_cons_succ]; go_simp; first | done | with_reducible rfl)
   simp only [List.getElem_toArray, List.getElem_cons_zero, List.getElem_cons_succ, Act.put, List.setIfInBounds_toArray, List.set_cons_zero, List.set_cons_succ]
   refine wpAnyH_done (by kernel_rfl) ?_ _
   have HEND := Lib.hid hHeld.2
   have HSE := Lib.hid hHeld.1
   clear hHeld
   clear HSS HSE HEND
   have HBY := Lib.hid (bthn HBR.out HBE.out)
   go_wp2_with fail
   go_loopw [48] (fun v wz => v = .int .i64 0 ∧ y7 = wz) (fun _ _ => 0)
   case atStart => exact ⟨rfl, rfl⟩
   case round =>
    obtain ⟨rfl, rfl⟩ := hrel
    go_wp2_with fail
    go_roundw
    case rel => exact ⟨1, by omega, rfl, HBY.out⟩
    case measure => simp [Go.RowKit.intOf]
  ·skip
   have hix : ∀ W, (Instr.index 137 (.agg #[.pointer (some ⟨V, 9, none⟩), .pointer (some ⟨V, 10, none⟩), .pointer (some ⟨V, 11, none⟩)]) (.int .i64 1)).run Tryz.prog W = .ok (.pointer (some ⟨V, 10, none⟩)) W := fun W => by kernel_rfl
   go_upto_region 4 with fail
   have HSS : Hid (∀ X, Below wr.heap.size wr X → (X.cell? ⟨p, 0, none⟩ = some (.pointer (some ⟨V, 0, none⟩)) ∧ X.cell? ⟨V, 10, none⟩ = some (.int .u32 0)) ∧ Below wr.heap.size wr X) := Lib.hid (fun X hb => ⟨⟨(World.cell?_of_block (hb.block _ (Nat.lt_of_lt_of_le HPL.out.1 HBR.out.size))).trans ((HP0.out wr HBR.out)), (World.cell?_of_block (hb.block _ (Nat.lt_of_lt_of_le HPL.out.2 HBR.out.size))).trans ((HRT.out wr HBR.out 1 (by omega)))⟩, hb⟩)
   refine wp_region_held_drew (S := fun X => (X.cell? ⟨p, 0, none⟩ = some (.pointer (some ⟨V, 0, none⟩)) ∧ X.cell? ⟨V, 10, none⟩ = some (.int .u32 0)) ∧ Below wr.heap.size wr X) (by kernel_rfl) (HSS.out _ (Below.refl _ _).drew) (fun hHeld => ?_)
   have hbe : Below wr.heap.size wr wr.drew := (Below.refl _ _).drew
   obtain ⟨wd, hwd⟩ : ∃ y, wr.drew = y := ⟨_, rfl⟩
   rw [hwd] at hHeld hbe ⊢
   have HBE := Lib.hid hbe
   have HS0 : Hid (wr.heap.size ≤ wd.heap.size) := Lib.hid HBE.out.size
   clear hwd hbe
   refine wpAnyH_take (i := 0) (v := ?_) rfl (by kernel_rfl) (by kernel_rfl) (by kernel_rfl) (fun _ _ _ h => h) (Or.inl ⟨by rfl, ?_⟩) (by assumption) ?_
   rotate_left
   ·(intro w hSw; (try dsimp only at hSw); simp only [List.getElem_toArray, List.getElem_cons_zero, List.getElem_cons_succ]; go_simp; first | done | with_reducible rfl)
   simp only [List.getElem_toArray, List.getElem_cons_zero, List.getElem_cons_succ, Act.put, List.setIfInBounds_toArray, List.set_cons_zero, List.set_cons_succ]
   refine wpAnyH_take (i := 4) (v := ?_) rfl (by kernel_rfl) (by kernel_rfl) (by kernel_rfl) (fun _ _ _ h => h) (Or.inl ⟨by rfl, ?_⟩) (by assumption) ?_
   rotate_left
   ·(intro w hSw; (try dsimp only at hSw); simp only [List.getElem_toArray, List.getElem_cons_zero, List.getElem_cons_succ]; go_simp; first | done | with_reducible rfl)
   simp only [List.getElem_toArray, List.getElem_cons_zero, List.getElem_cons_succ, Act.put, List.setIfInBounds_toArray, List.set_cons_zero, List.set_cons_succ]
   refine wpAnyH_take (i := 1) (v := ?_) rfl (by kernel_rfl) (by kernel_rfl) (by kernel_rfl) (fun _ _ _ h => h) (Or.inl ⟨by rfl, ?_⟩) (by assumption) ?_
   rotate_left
   ·(intro w hSw; (try dsimp only at hSw); simp only [List.getElem_toArray, List.getElem_cons_zero, List.getElem_cons_succ]; go_simp; first | done | with_reducible rfl)
   simp only [List.getElem_toArray, List.getElem_cons_zero, List.getElem_cons_succ, Act.put, List.setIfInBounds_toArray, List.set_cons_zero, List.set_cons_succ]
   refine wpAnyH_take (i := 5) (v := ?_) rfl (by kernel_rfl) (by kernel_rfl) (by kernel_rfl) (fun _ _ _ h => h) (Or.inl ⟨by rfl, ?_⟩) (by assumption) ?_
   rotate_left
   ·(intro w hSw; (try dsimp only at hSw); simp only [List.getElem_toArray, List.getElem_cons_zero, List.getElem_cons_succ]; go_simp; first | done | with_reducible rfl)
   simp only [List.getElem_toArray, List.getElem_cons_zero, List.getElem_cons_succ, Act.put, List.setIfInBounds_toArray, List.set_cons_zero, List.set_cons_succ]
   refine wpAnyH_take (i := 2) (v := ?_) rfl (by kernel_rfl) (by kernel_rfl) (by kernel_rfl) (fun _ _ _ h => h) (Or.inl ⟨by rfl, ?_⟩) (by assumption) ?_
   rotate_left
   ·(intro w hSw; (try dsimp only at hSw); simp only [List.getElem_toArray, List.getElem_cons_zero, List.getElem_cons_succ]; go_simp; first | done | with_reducible rfl)
   simp only [List.getElem_toArray, List.getElem_cons_zero, List.getElem_cons_succ, Act.put, List.setIfInBounds_toArray, List.set_cons_zero, List.set_cons_succ]
   refine wpAnyH_take (i := 6) (v := ?_) rfl (by kernel_rfl) (by kernel_rfl) (by kernel_rfl) (fun _ _ _ h => h) (Or.inl ⟨by rfl, ?_⟩) (by assumption) ?_
   rotate_left
   ·(intro w hSw; (try dsimp only at hSw); simp only [List.getElem_toArray, List.getElem_cons_zero, List.getElem_cons_succ]; go_simp; first | done | with_reducible rfl)
   simp only [List.getElem_toArray, List.getElem_cons_zero, List.getElem_cons_succ, Act.put, List.setIfInBounds_toArray, List.set_cons_zero, List.set_cons_succ]
   refine wpAnyH_take (i := 3) (v := ?_) rfl (by kernel_rfl) (by kernel_rfl) (by kernel_rfl) (fun _ _ _ h => h) (Or.inl ⟨by rfl, ?_⟩) (by assumption) ?_
   rotate_left
   ·(intro w hSw; (try dsimp only at hSw); simp only [List.getElem_toArray, List.getElem_cons_zero, List.getElem_cons_succ]; go_simp; first | done | with_reducible rfl)
   simp only [List.getElem_toArray, List.getElem_cons_zero, List.getElem_cons_succ, Act.put, List.setIfInBounds_toArray, List.set_cons_zero, List.set_cons_succ]
   refine wpAnyH_ready (rs := [7]) (by kernel_rfl) (by simp) ?_
   refine AllReadyH.cons rfl (fun K hK => ?_) (AllReadyH.nil)
   simp only [List.getElem_toArray, List.getElem_cons_zero, List.getElem_cons_succ]
   go_simp
   refine (CT.out _).mono ?_
   rintro e y7 ⟨rfl, hb7⟩
   dsimp only
   have HBE := Lib.hid (bthen HBE.out hb7)
   have hSp := HSS.out _ HBE.out
   clear hHeld
   refine hK.out _ _ hSp (fun hHeld => ?_)
   clear hSp hK K
   try simp only [Act.put, List.setIfInBounds_toArray, List.set_cons_zero, List.set_cons_succ]
   have HC7 := Lib.hid hb7
   clear hb7
   refine wpAnyH_take (i := 8) (v := ?_) rfl (by kernel_rfl) (by kernel_rfl) (by kernel_rfl) (fun _ _ _ h => h) (Or.inl ⟨by rfl, ?_⟩) (by assumption) ?_
   rotate_left
   ·(intro w hSw; (try dsimp only at hSw); simp only [List.getElem_toArray, List.getElem_cons_zero, List.getElem_cons_succ]; go_simp; first | done | with_reducible rfl)
   simp only [List.getElem_toArray, List.getElem_cons_zero, List.getElem_cons_succ, Act.put, List.setIfInBounds_toArray, List.set_cons_zero, List.set_cons_succ]
   refine wpAnyH_take (i := 9) (v := ?_) rfl (by kernel_rfl) (by kernel_rfl) (by kernel_rfl) (fun _ _ _ h => h) (Or.inl ⟨by rfl, ?_⟩) (by assumption) ?_
   rotate_left
   ·(intro w hSw; (try dsimp only at hSw); simp only [List.getElem_toArray, List.getElem_cons_zero, List.getElem_cons_succ]; go_simp; first | done | with_reducible rfl)
   simp only [List.getElem_toArray, List.getElem_cons_zero, List.getElem_cons_succ, Act.put, List.setIfInBounds_toArray, List.set_cons_zero, List.set_cons_succ]
   refine wpAnyH_take (i := 10) (v := ?_) rfl (by kernel_rfl) (by kernel_rfl) (by kernel_rfl) (fun _ _ _ h => h) (Or.inl ⟨by rfl, ?_⟩) (by assumption) ?_
   rotate_left
   ·(intro w hSw; (try dsimp only at hSw); simp only [List.getElem_toArray, List.getElem_cons_zero, List.getElem_cons_succ]; go_simp; first | done | with_reducible rfl)
   simp only [List.getElem_toArray, List.getElem_cons_zero, List.getElem_cons_succ, Act.put, List.setIfInBounds_toArray, List.set_cons_zero, List.set_cons_succ]
   refine wpAnyH_take (i := 11) (v := ?_) rfl (by kernel_rfl) (by kernel_rfl) (by kernel_rfl) (fun _ _ _ h => h) (Or.inl ⟨by rfl, ?_⟩) (by assumption) ?_
   rotate_left
   ·(intro w hSw; (try dsimp only at hSw); simp only [List.getElem_toArray, List.getElem_cons_zero, List.getElem_cons_succ]; go_simp; first | done | with_reducible rfl)
   simp only [List.getElem_toArray, List.getElem_cons_zero, List.getElem_cons_succ, Act.put, List.setIfInBounds_toArray, List.set_cons_zero, List.set_cons_succ]
   refine wpAnyH_take (i := 12) (v := ?_) rfl (by kernel_rfl) (by kernel_rfl) (by kernel_rfl) (fun _ _ _ h => h) (Or.inl ⟨by rfl, ?_⟩) (by assumption) ?_
   rotate_left
   ·(intro w hSw; (try dsimp only at hSw); simp only [List.getElem_toArray, List.getElem_cons_zero, List.getElem_cons_succ]; go_simp; first | done | with_reducible rfl)
   simp only [List.getElem_toArray, List.getElem_cons_zero, List.getElem_cons_succ, Act.put, List.setIfInBounds_toArray, List.set_cons_zero, List.set_cons_succ]
   refine wpAnyH_done (by kernel_rfl) ?_ _
   have HEND := Lib.hid hHeld.2
   have HSE := Lib.hid hHeld.1
   clear hHeld
   clear HSS HSE HEND
   have HBY := Lib.hid (bthn HBR.out HBE.out)
   go_wp2_with fail
   go_loopw [48] (fun v wz => v = .int .i64 0 ∧ y7 = wz) (fun _ _ => 0)
   case atStart => exact ⟨rfl, rfl⟩
   case round =>
    obtain ⟨rfl, rfl⟩ := hrel
    go_wp2_with fail
    go_roundw
    case rel => exact ⟨2, by omega, rfl, HBY.out⟩
    case measure => simp [Go.RowKit.intOf]
  ·skip
   have hix : ∀ W, (Instr.index 137 (.agg #[.pointer (some ⟨V, 9, none⟩), .pointer (some ⟨V, 10, none⟩), .pointer (some ⟨V, 11, none⟩)]) (.int .i64 2)).run Tryz.prog W = .ok (.pointer (some ⟨V, 11, none⟩)) W := fun W => by kernel_rfl
   go_upto_region 4 with fail
   have HSS : Hid (∀ X, Below wr.heap.size wr X → (X.cell? ⟨p, 0, none⟩ = some (.pointer (some ⟨V, 0, none⟩)) ∧ X.cell? ⟨V, 11, none⟩ = some (.int .u32 0)) ∧ Below wr.heap.size wr X) := Lib.hid (fun X hb => ⟨⟨(World.cell?_of_block (hb.block _ (Nat.lt_of_lt_of_le HPL.out.1 HBR.out.size))).trans ((HP0.out wr HBR.out)), (World.cell?_of_block (hb.block _ (Nat.lt_of_lt_of_le HPL.out.2 HBR.out.size))).trans ((HRT.out wr HBR.out 2 (by omega)))⟩, hb⟩)
   refine wp_region_held_drew (S := fun X => (X.cell? ⟨p, 0, none⟩ = some (.pointer (some ⟨V, 0, none⟩)) ∧ X.cell? ⟨V, 11, none⟩ = some (.int .u32 0)) ∧ Below wr.heap.size wr X) (by kernel_rfl) (HSS.out _ (Below.refl _ _).drew) (fun hHeld => ?_)
   have hbe : Below wr.heap.size wr wr.drew := (Below.refl _ _).drew
   obtain ⟨wd, hwd⟩ : ∃ y, wr.drew = y := ⟨_, rfl⟩
   rw [hwd] at hHeld hbe ⊢
   have HBE := Lib.hid hbe
   have HS0 : Hid (wr.heap.size ≤ wd.heap.size) := Lib.hid HBE.out.size
   clear hwd hbe
   refine wpAnyH_take (i := 0) (v := ?_) rfl (by kernel_rfl) (by kernel_rfl) (by kernel_rfl) (fun _ _ _ h => h) (Or.inl ⟨by rfl, ?_⟩) (by assumption) ?_
   rotate_left
   ·(intro w hSw; (try dsimp only at hSw); simp only [List.getElem_toArray, List.getElem_cons_zero, List.getElem_cons_succ]; go_simp; first | done | with_reducible rfl)
   simp only [List.getElem_toArray, List.getElem_cons_zero, List.getElem_cons_succ, Act.put, List.setIfInBounds_toArray, List.set_cons_zero, List.set_cons_succ]
   refine wpAnyH_take (i := 4) (v := ?_) rfl (by kernel_rfl) (by kernel_rfl) (by kernel_rfl) (fun _ _ _ h => h) (Or.inl ⟨by rfl, ?_⟩) (by assumption) ?_
   rotate_left
   ·(intro w hSw; (try dsimp only at hSw); simp only [List.getElem_toArray, List.getElem_cons_zero, List.getElem_cons_succ]; go_simp; first | done | with_reducible rfl)
   simp only [List.getElem_toArray, List.getElem_cons_zero, List.getElem_cons_succ, Act.put, List.setIfInBounds_toArray, List.set_cons_zero, List.set_cons_succ]
   refine wpAnyH_take (i := 1) (v := ?_) rfl (by kernel_rfl) (by kernel_rfl) (by kernel_rfl) (fun _ _ _ h => h) (Or.inl ⟨by rfl, ?_⟩) (by assumption) ?_
   rotate_left
   ·(intro w hSw; (try dsimp only at hSw); simp only [List.getElem_toArray, List.getElem_cons_zero, List.getElem_cons_succ]; go_simp; first | done | with_reducible rfl)
   simp only [List.getElem_toArray, List.getElem_cons_zero, List.getElem_cons_succ, Act.put, List.setIfInBounds_toArray, List.set_cons_zero, List.set_cons_succ]
   refine wpAnyH_take (i := 5) (v := ?_) rfl (by kernel_rfl) (by kernel_rfl) (by kernel_rfl) (fun _ _ _ h => h) (Or.inl ⟨by rfl, ?_⟩) (by assumption) ?_
   rotate_left
   ·(intro w hSw; (try dsimp only at hSw); simp only [List.getElem_toArray, List.getElem_cons_zero, List.getElem_cons_succ]; go_simp; first | done | with_reducible rfl)
   simp only [List.getElem_toArray, List.getElem_cons_zero, List.getElem_cons_succ, Act.put, List.setIfInBounds_toArray, List.set_cons_zero, List.set_cons_succ]
   refine wpAnyH_take (i := 2) (v := ?_) rfl (by kernel_rfl) (by kernel_rfl) (by kernel_rfl) (fun _ _ _ h => h) (Or.inl ⟨by rfl, ?_⟩) (by assumption) ?_
   rotate_left
   ·(intro w hSw; (try dsimp only at hSw); simp only [List.getElem_toArray, List.getElem_cons_zero, List.getElem_cons_succ]; go_simp; first | done | with_reducible rfl)
   simp only [List.getElem_toArray, List.getElem_cons_zero, List.getElem_cons_succ, Act.put, List.setIfInBounds_toArray, List.set_cons_zero, List.set_cons_succ]
   refine wpAnyH_take (i := 6) (v := ?_) rfl (by kernel_rfl) (by kernel_rfl) (by kernel_rfl) (fun _ _ _ h => h) (Or.inl ⟨by rfl, ?_⟩) (by assumption) ?_
   rotate_left
   ·(intro w hSw; (try dsimp only at hSw); simp only [List.getElem_toArray, List.getElem_cons_zero, List.getElem_cons_succ]; go_simp; first | done | with_reducible rfl)
   simp only [List.getElem_toArray, List.getElem_cons_zero, List.getElem_cons_succ, Act.put, List.setIfInBounds_toArray, List.set_cons_zero, List.set_cons_succ]
   refine wpAnyH_take (i := 3) (v := ?_) rfl (by kernel_rfl) (by kernel_rfl) (by kernel_rfl) (fun _ _ _ h => h) (Or.inl ⟨by rfl, ?_⟩) (by assumption) ?_
   rotate_left
   ·(intro w hSw; (try dsimp only at hSw); simp only [List.getElem_toArray, List.getElem_cons_zero, List.getElem_cons_succ]; go_simp; first | done | with_reducible rfl)
   simp only [List.getElem_toArray, List.getElem_cons_zero, List.getElem_cons_succ, Act.put, List.setIfInBounds_toArray, List.set_cons_zero, List.set_cons_succ]
   refine wpAnyH_ready (rs := [7]) (by kernel_rfl) (by simp) ?_
   refine AllReadyH.cons rfl (fun K hK => ?_) (AllReadyH.nil)
   simp only [List.getElem_toArray, List.getElem_cons_zero, List.getElem_cons_succ]
   go_simp
   refine (CT.out _).mono ?_
   rintro e y7 ⟨rfl, hb7⟩
   dsimp only
   have HBE := Lib.hid (bthen HBE.out hb7)
   have hSp := HSS.out _ HBE.out
   clear hHeld
   refine hK.out _ _ hSp (fun hHeld => ?_)
   clear hSp hK K
   try simp only [Act.put, List.setIfInBounds_toArray, List.set_cons_zero, List.set_cons_succ]
   have HC7 := Lib.hid hb7
   clear hb7
   refine wpAnyH_take (i := 8) (v := ?_) rfl (by kernel_rfl) (by kernel_rfl) (by kernel_rfl) (fun _ _ _ h => h) (Or.inl ⟨by rfl, ?_⟩) (by assumption) ?_
   rotate_left
   ·(intro w hSw; (try dsimp only at hSw); simp only [List.getElem_toArray, List.getElem_cons_zero, List.getElem_cons_succ]; go_simp; first | done | with_reducible rfl)
   simp only [List.getElem_toArray, List.getElem_cons_zero, List.getElem_cons_succ, Act.put, List.setIfInBounds_toArray, List.set_cons_zero, List.set_cons_succ]
   refine wpAnyH_take (i := 9) (v := ?_) rfl (by kernel_rfl) (by kernel_rfl) (by kernel_rfl) (fun _ _ _ h => h) (Or.inl ⟨by rfl, ?_⟩) (by assumption) ?_
   rotate_left
   ·(intro w hSw; (try dsimp only at hSw); simp only [List.getElem_toArray, List.getElem_cons_zero, List.getElem_cons_succ]; go_simp; first | done | with_reducible rfl)
   simp only [List.getElem_toArray, List.getElem_cons_zero, List.getElem_cons_succ, Act.put, List.setIfInBounds_toArray, List.set_cons_zero, List.set_cons_succ]
   refine wpAnyH_take (i := 10) (v := ?_) rfl (by kernel_rfl) (by kernel_rfl) (by kernel_rfl) (fun _ _ _ h => h) (Or.inl ⟨by rfl, ?_⟩) (by assumption) ?_
   rotate_left
   ·(intro w hSw; (try dsimp only at hSw); simp only [List.getElem_toArray, List.getElem_cons_zero, List.getElem_cons_succ]; go_simp; first | done | with_reducible rfl)
   simp only [List.getElem_toArray, List.getElem_cons_zero, List.getElem_cons_succ, Act.put, List.setIfInBounds_toArray, List.set_cons_zero, List.set_cons_succ]
   refine wpAnyH_take (i := 11) (v := ?_) rfl (by kernel_rfl) (by kernel_rfl) (by kernel_rfl) (fun _ _ _ h => h) (Or.inl ⟨by rfl, ?_⟩) (by assumption) ?_
   rotate_left
   ·(intro w hSw; (try dsimp only at hSw); simp only [List.getElem_toArray, List.getElem_cons_zero, List.getElem_cons_succ]; go_simp; first | done | with_reducible rfl)
   simp only [List.getElem_toArray, List.getElem_cons_zero, List.getElem_cons_succ, Act.put, List.setIfInBounds_toArray, List.set_cons_zero, List.set_cons_succ]
   refine wpAnyH_take (i := 12) (v := ?_) rfl (by kernel_rfl) (by kernel_rfl) (by kernel_rfl) (fun _ _ _ h => h) (Or.inl ⟨by rfl, ?_⟩) (by assumption) ?_
   rotate_left
   ·(intro w hSw; (try dsimp only at hSw); simp only [List.getElem_toArray, List.getElem_cons_zero, List.getElem_cons_succ]; go_simp; first | done | with_reducible rfl)
   simp only [List.getElem_toArray, List.getElem_cons_zero, List.getElem_cons_succ, Act.put, List.setIfInBounds_toArray, List.set_cons_zero, List.set_cons_succ]
   refine wpAnyH_done (by kernel_rfl) ?_ _
   have HEND := Lib.hid hHeld.2
   have HSE := Lib.hid hHeld.1
   clear hHeld
   clear HSS HSE HEND
   have HBY := Lib.hid (bthn HBR.out HBE.out)
   go_wp2_with fail
   go_loopw [48] (fun v wz => v = .int .i64 0 ∧ y7 = wz) (fun _ _ => 0)
   case atStart => exact ⟨rfl, rfl⟩
   case round =>
    obtain ⟨rfl, rfl⟩ := hrel
    go_wp2_with fail
    go_roundw
    case rel => exact ⟨3, by omega, rfl, HBY.out⟩
    case measure => simp [Go.RowKit.intOf]
  ·have hx2 := (HBR.out.block _ (Array.getElem?_eq_some_iff.1 HX2.out).1).trans HX2.out
   have hx3 := (HBR.out.block _ (Array.getElem?_eq_some_iff.1 HX3.out).1).trans HX3.out
   go_upto_region 15 with fail
   have hd := (Below.refl wr.heap.size wr).drew
   refine wp_region_held_drew (S := fun X => X.heap[b2]? = some (.cells #[.slice none 0 0, .slice none 0 0, .slice none 0 0] 206 (0, 0)) ∧ X.heap[b3]? = some (.cells #[.bool false, .bool false, .bool false] 207 (0, 0))) (by kernel_rfl) ⟨(hd.block _ (Array.getElem?_eq_some_iff.1 hx2).1).trans hx2, (hd.block _ (Array.getElem?_eq_some_iff.1 hx3).1).trans hx3⟩ (fun hHeld => ?_)
   obtain ⟨wd, hwd⟩ : ∃ y, wr.drew = y := ⟨_, rfl⟩
   rw [hwd] at hHeld hd ⊢
   have hy2 := hHeld.1
   have hy3 := hHeld.2
   have HY2 := Lib.hid hy2
   have HY3 := Lib.hid hy3
   have HBD := Lib.hid (bthn HB2.out (bthn HBR.out hd))
   clear hwd hx2 hx3 hd
   refine wpAnyH_take (i := 0) (v := _) rfl (by kernel_rfl) (by kernel_rfl) (by kernel_rfl) (fun _ _ _ h => h) (yieldsIf_load_mid (by rfl) 206 _ rfl (b2) (0) rfl ([.slice none 0 0, .slice none 0 0, .slice none 0 0]) _ (fun w hw => rangeOf hw.1) (Tryz.underlying206) rfl ((by kernel_rfl))) (by assumption) ?_
   simp only [List.getElem_toArray, List.getElem_cons_zero, List.getElem_cons_succ, Act.put, List.setIfInBounds_toArray, List.set_cons_zero, List.set_cons_succ]
   refine wpAnyH_take (i := 1) (v := _) rfl (by kernel_rfl) (by kernel_rfl) (by kernel_rfl) (fun _ _ _ h => h) (yieldsIf_load_mid (by rfl) 207 _ rfl (b3) (0) rfl ([.bool false, .bool false, .bool false]) _ (fun w hw => rangeOf hw.2) (Tryz.underlying207) rfl ((by kernel_rfl))) (by assumption) ?_
   simp only [List.getElem_toArray, List.getElem_cons_zero, List.getElem_cons_succ, Act.put, List.setIfInBounds_toArray, List.set_cons_zero, List.set_cons_succ]
   have c0 := cellOf hy2 0 (v := .slice none 0 0) rfl
   have c1 := cellOf hy2 1 (v := .slice none 0 0) rfl
   have c2 := cellOf hy2 2 (v := .slice none 0 0) rfl
   have f0 := frozenOf hy2 0
   have f1 := frozenOf hy2 1
   have f2 := frozenOf hy2 2
   clear hy2 hy3
   have HZ2 : Hid ((((wd.setCell ⟨b2, 0, none⟩ (.slice none 0 0)).setCell ⟨b2, 1, none⟩ (.slice none 0 0)).setCell ⟨b2, 2, none⟩ (.slice none 0 0)).heap[b2]? = some (.cells #[.slice none 0 0, .slice none 0 0, .slice none 0 0] 206 (0, 0))) := Lib.hid (set_same3 _ HY2.out)
   have HZ3 : Hid ((((wd.setCell ⟨b2, 0, none⟩ (.slice none 0 0)).setCell ⟨b2, 1, none⟩ (.slice none 0 0)).setCell ⟨b2, 2, none⟩ (.slice none 0 0)).heap[b3]? = some (.cells #[.bool false, .bool false, .bool false] 207 (0, 0))) := Lib.hid ((setOther ⟨b2, 2, none⟩ _ (by have := HBG.out; show b3 ≠ b2; omega)).trans ((setOther ⟨b2, 1, none⟩ _ (by have := HBG.out; show b3 ≠ b2; omega)).trans ((setOther ⟨b2, 0, none⟩ _ (by have := HBG.out; show b3 ≠ b2; omega)).trans HY3.out)))
   have HBZ : Hid (Below w.heap.size w (((wd.setCell ⟨b2, 0, none⟩ (.slice none 0 0)).setCell ⟨b2, 1, none⟩ (.slice none 0 0)).setCell ⟨b2, 2, none⟩ (.slice none 0 0))) := Lib.hid (((HBD.out.setCell (p := ⟨b2, 0, none⟩) HBG.out.1 _).setCell (p := ⟨b2, 1, none⟩) HBG.out.1 _).setCell (p := ⟨b2, 2, none⟩) HBG.out.1 _)
   refine wpAnyH_ready (rs := [2]) (by kernel_rfl) (by simp) ?_
   refine AllReadyH.cons rfl (fun K hK => ?_) AllReadyH.nil
   simp only [List.getElem_toArray, List.getElem_cons_zero, List.getElem_cons_succ]
   go_simp
   refine hK.out _ _ ?_ (fun hHeld => ?_)
   ·exact ⟨HZ2.out, HZ3.out⟩
   clear hK K
   try simp only [Act.put, List.setIfInBounds_toArray, List.set_cons_zero, List.set_cons_succ]
   clear c0 c1 c2 f0 f1 f2
   obtain ⟨z1, hz1⟩ : ∃ W, (((wd.setCell ⟨b2, 0, none⟩ (.slice none 0 0)).setCell ⟨b2, 1, none⟩ (.slice none 0 0)).setCell ⟨b2, 2, none⟩ (.slice none 0 0)) = W := ⟨_, rfl⟩
   rw [hz1] at HZ2 HZ3 HBZ hHeld ⊢
   clear hz1
   have hy3 := HZ3.out
   have c0 := cellOf hy3 0 (v := .bool false) rfl
   have c1 := cellOf hy3 1 (v := .bool false) rfl
   have c2 := cellOf hy3 2 (v := .bool false) rfl
   have f0 := frozenOf hy3 0
   have f1 := frozenOf hy3 1
   have f2 := frozenOf hy3 2
   clear hy3
   have HQ3 : Hid ((((z1.setCell ⟨b3, 0, none⟩ (.bool false)).setCell ⟨b3, 1, none⟩ (.bool false)).setCell ⟨b3, 2, none⟩ (.bool false)).heap[b3]? = some (.cells #[.bool false, .bool false, .bool false] 207 (0, 0))) := Lib.hid (set_same3 _ HZ3.out)
   have HQ2 : Hid ((((z1.setCell ⟨b3, 0, none⟩ (.bool false)).setCell ⟨b3, 1, none⟩ (.bool false)).setCell ⟨b3, 2, none⟩ (.bool false)).heap[b2]? = some (.cells #[.slice none 0 0, .slice none 0 0, .slice none 0 0] 206 (0, 0))) := Lib.hid ((setOther ⟨b3, 2, none⟩ _ (by have := HBG.out; show b2 ≠ b3; omega)).trans ((setOther ⟨b3, 1, none⟩ _ (by have := HBG.out; show b2 ≠ b3; omega)).trans ((setOther ⟨b3, 0, none⟩ _ (by have := HBG.out; show b2 ≠ b3; omega)).trans HZ2.out)))
   have HBQ : Hid (Below w.heap.size w (((z1.setCell ⟨b3, 0, none⟩ (.bool false)).setCell ⟨b3, 1, none⟩ (.bool false)).setCell ⟨b3, 2, none⟩ (.bool false))) := Lib.hid (((HBZ.out.setCell (p := ⟨b3, 0, none⟩) (by have := HBG.out; show w.heap.size ≤ b3; omega) _).setCell (p := ⟨b3, 1, none⟩) (by have := HBG.out; show w.heap.size ≤ b3; omega) _).setCell (p := ⟨b3, 2, none⟩) (by have := HBG.out; show w.heap.size ≤ b3; omega) _)
   refine wpAnyH_ready (rs := [3]) (by kernel_rfl) (by simp) ?_
   refine AllReadyH.cons rfl (fun K hK => ?_) AllReadyH.nil
   simp only [List.getElem_toArray, List.getElem_cons_zero, List.getElem_cons_succ]
   go_simp
   refine hK.out _ _ ?_ (fun hHeld => ?_)
   ·exact ⟨HQ2.out, HQ3.out⟩
   clear hK K
   try simp only [Act.put, List.setIfInBounds_toArray, List.set_cons_zero, List.set_cons_succ]
   clear c0 c1 c2 f0 f1 f2
   refine wpAnyH_done (by kernel_rfl) ?_ _
   clear hHeld
   go_wp2_with fail
   refine bodyPost_ret (v := .tuple #[.agg #[.slice none 0 0, .slice none 0 0, .slice none 0 0], .agg #[.bool false, .bool false, .bool false]]) (res_ag2 rfl _ _ b2 b3 [.slice none 0 0, .slice none 0 0, .slice none 0 0] [.bool false, .bool false, .bool false] _ _ rfl rfl (rangeOf HQ2.out) (rangeOf HQ3.out) Tryz.underlying206 Tryz.underlying207 rfl rfl (by kernel_rfl) (by kernel_rfl)) rfl ⟨rfl, HBQ.out⟩
end Go.Proofs.YtgmahhdnjikdjaaGreat
