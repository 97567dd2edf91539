import Derived.Test.YtgmahhdnjikdjaaGreatPG16
set_option linter.unusedVariables false
set_option linter.unusedSimpArgs false
/- check: there, walk (of a store without trees), none, Names, Room, walked. -/
namespace Go.Proofs.YtgmahhdnjikdjaaGreat
open Go.RowKit Wire
set_option linter.unusedVariables false
set_option linter.unusedSimpArgs false
theorem stC_mid (B : Nat) (s : Su) (pm pd mf md : Nat) (bk : Bool) {j : Nat} {u : Value} (h : (suL s)[j]? = some u) : (stC B s pm pd mf md bk)[1 + j]? = some u := by
 have hj19 : j < 19 := (List.getElem?_eq_some_iff.1 h).1
 rcases (show j = 0 ∨ j = 1 ∨ j = 2 ∨ j = 3 ∨ j = 4 ∨ j = 5 ∨ j = 6 ∨ j = 7 ∨ j = 8 ∨ j = 9 ∨ j = 10 ∨ j = 11 ∨ j = 12 ∨ j = 13 ∨ j = 14 ∨ j = 15 ∨ j = 16 ∨ j = 17 ∨ j = 18 by omega) with rfl | rfl | rfl | rfl | rfl | rfl | rfl | rfl | rfl | rfl | rfl | rfl | rfl | rfl | rfl | rfl | rfl | rfl | rfl <;> exact h
theorem StB.sup {w : World} {S B pm pd mf md : Nat} {s : Su} {A D : M} {Fm Fd : List Nat} {bk : Bool} (h : StB w S B pm pd mf md s A D Fm Fd bk) : w.rangeAt S 1 (suL s) := fun j u hj => cellOf h.box (1 + j) (stC_mid B s pm pd mf md bk hj)
set_option maxRecDepth 100000 in
set_option maxHeartbeats 6400000 in
theorem ssuper_at {w : World} {S B pm pd mf md : Nat} {s : Su} {A D : M} {Fm Fd : List Nat} {bk : Bool} (h : StB w S B pm pd mf md s A D Fm Fd bk) : Calls Tryz.prog 44 #[.pointer (some ⟨S, 0, none⟩)] w fun e w' => e = .returned (suV s) ∧ Below w.heap.size w w' := by
 have HR : Hid (∀ X, Below w.heap.size w X → X.rangeAt S 1 (suL s)) := Lib.hid (fun X hX => (h.below hX).sup)
 rw [suL_v]
 obtain ⟨SL, hSL⟩ : ∃ L, suL s = L := ⟨_, rfl⟩
 have HS19 : Hid (SL.length = 19) := Lib.hid (by rw [← hSL]; rfl)
 have HS1 : Hid (∀ u ∈ SL, u.oneCell' = true) := Lib.hid (by rw [← hSL]; exact suL_one s)
 rw [hSL] at HR ⊢
 have hss : SL.toArray.size = 19 := by rw [List.size_toArray, HS19.out]
 have HIS : Hid ((Tryz.prog.info? 72).map (·.size) = some SL.length) := Lib.hid (by rw [HS19.out]; exact infoSup)
 clear h hSL
 go_enter Tryz.func44, Tryz.ntmps44
 go_upto_region 3 with fail
 apply wp_region_lit
 repeat (first
  | (refine wpList_load_mid rfl 72 _ rfl S 1 rfl SL _ (HR.out _ (balloc (Below.refl _ _) _)) Tryz.underlying72 rfl HIS.out ?_)
  | (refine wpList_store_mid rfl 72 _ _ rfl w.heap.size 0 SL.toArray rfl rfl (thereOf (heap_alloc_new w _) (by rw [hss]; simp)) (by rw [hss]; exact infoSup) (Array.all_eq_true_iff_forall_mem.2 (fun v hv => HS1.out v (by simpa using hv))) ?_)
  | go_step)
 refine bodyPost_ret (v := .agg SL.toArray) (res_one_sup rfl _ _ w.heap.size SL rfl (World.rangeAt_setCells_same _ _ _ _ (thereOf (heap_alloc_new w _) (by rw [HS19.out]; simp))) HIS.out) rfl ⟨rfl, ?_⟩
 exact belowSets (Nat.le_refl _) _ _ _ (balloc (Below.refl _ _) _)
set_option maxRecDepth 100000 in
set_option maxHeartbeats 3200000 in
theorem sbroken_at {w : World} {S B pm pd mf md : Nat} {s : Su} {A D : M} {Fm Fd : List Nat} {bk : Bool} (h : StB w S B pm pd mf md s A D Fm Fd bk) : Calls Tryz.prog 72 #[.pointer (some ⟨S, 0, none⟩)] w fun e w' => e = .returned (.bool bk) ∧ w = w' := by
 have c0 := cellOf h.box 24 (v := .bool bk) rfl
 clear h
 go_enter Tryz.func72, Tryz.ntmps72
 go_wp2_with fail
 go_ret
 exact ⟨rfl, rfl⟩
theorem fldSup (s : Su) (W : World) : (Instr.field 72 (suV s) 1).run Tryz.prog W = .ok (.int .i64 s.mt) W := by kernel_rfl
set_option maxRecDepth 100000 in
set_option maxHeartbeats 3200000 in
theorem there_at {w : World} {S B pm pd mf md : Nat} {s : Su} {A D : M} {Fm Fd : List Nat} (h : StB w S B pm pd mf md s A D Fm Fd false) (hm : 16 ≤ s.mt) : Calls Tryz.prog 203 #[.pointer (some ⟨S, 0, none⟩)] w fun e w' => e = .returned (.int .i64 0) ∧ Below w.heap.size w w' := by
 have CS := ssuper_at h
 have CB : Hid (∀ X, Below w.heap.size w X → Calls Tryz.prog 72 #[.pointer (some ⟨S, 0, none⟩)] X fun e w' => e = .returned (.bool false) ∧ X = w') := Lib.hid (fun X hX => sbroken_at (h.below hX))
 have hf := fldSup s
 have hz : (s.mt == 0) = false := by simp; omega
 obtain ⟨v, hv⟩ : ∃ v, suV s = v := ⟨_, rfl⟩
 rw [hv] at CS hf
 obtain ⟨mt, hmt⟩ : ∃ x, s.mt = x := ⟨_, rfl⟩
 rw [hmt] at hf hz
 clear h hv hmt hm
 go_enter Tryz.func203, Tryz.ntmps203
 go_wp2_with fail
 refine CS.mono ?_
 rintro e w2 ⟨rfl, hb⟩
 have C := CB.out w2 hb
 have HB := Lib.hid hb
 clear CS hb
 go_wp2_with fail
 refine C.mono ?_
 rintro e w3 ⟨rfl, rfl⟩
 clear C
 go_wp2_with fail
 go_ret
 exact ⟨rfl, HB.out⟩
set_option maxRecDepth 100000 in
set_option maxHeartbeats 3200000 in
theorem reach_zero (w : World) (a b c : Value) : Calls Tryz.prog 218 #[.int .u64 0, a, b, c] w fun e w' => e = .returned (.tuple #[]) ∧ w = w' := by
 go_enter Tryz.func218, Tryz.ntmps218
 go_wp2_with fail
 exact bodyPost_ret (v := .tuple #[]) (by kernel_rfl) rfl ⟨rfl, rfl⟩
/-- Numbers in a block. -/
def iV (l : List Nat) : List Value := l.map fun c => .int .i64 ((c : Nat) : Int)
def BoxI (w : World) (q : Nat) (l : List Nat) : Prop := w.heap[q]? = some (.cells (iV l).toArray 3 (0, 0))
theorem iV_get {l : List Nat} {j c : Nat} (h : l[j]? = some c) : (iV l)[j]? = some (.int .i64 (c : Int)) := by simp [iV, h]
theorem BoxI.cell {w : World} {q : Nat} {l : List Nat} (h : BoxI w q l) {j c : Nat} (hj : l[j]? = some c) : w.cell? ⟨q, j, none⟩ = some (.int .i64 (c : Int)) ∧ w.frozen? ⟨q, j, none⟩ = false :=
 ⟨cellOf h j (by rw [List.getElem?_toArray]; exact iV_get hj), frozenOf h j⟩
theorem BoxI.set {w : World} {q : Nat} {l : List Nat} (h : BoxI w q l) (j c : Nat) : BoxI (w.setCell ⟨q, j, none⟩ (.int .i64 (c : Int))) q (l.set j c) := by
 have h1 := setOf h j (.int .i64 (c : Int))
 unfold BoxI
 rw [h1]
 congr 2
 apply Array.toList_inj.1
 simp [iV, List.map_set]
theorem infoI : (Tryz.prog.info? 3).map (fun i => (i.zero, i.size, i.bytes)) = some (some (.int .i64 0), 1, 8) := by kernel_rfl
theorem madeI (n : Nat) : (madeCells (Value.int .i64 0).cells (n * 1)).toList = iV (List.replicate n 0) := by
 have h := made_rep (.int .i64 0) 1 (n * 1) (by omega)
 rw [Nat.mul_one] at h ⊢
 rw [show (Value.int .i64 0).cells = (List.replicate 1 (Value.int .i64 0)).toArray from rfl, h]
 unfold iV
 rw [List.map_replicate]
 rfl
theorem run_mkI (W : World) (n : Nat) (hn : n ≤ 1000000) : (Instr.makeSlice 53 (.int .i64 (n : Int)) (.int .i64 (n : Int))).run Tryz.prog W = .ok (.slice (some ⟨W.heap.size, 0, none⟩) n n) (W.alloc (.cells (iV (List.replicate n 0)).toArray 3)) := by
 obtain ⟨i0, hi, hz0, hz1, hz2⟩ := info_parts infoI
 have h := run_makeSlice (P := Tryz.prog) W 53 3 i0 _ Tryz.underlying53 hi hz0 .i64 .i64 (n : Int) (n : Int) (by omega) (Int.le_refl _) (by rw [hz1]; simp; omega) (by rw [hz2]; omega) (by omega)
 simp only [Int.toNat_natCast] at h
 rw [h, hz1]
 have e := madeI n
 rw [← e, Array.toArray_toList]
theorem nm_built (b2 m b5 k b6 : Nat) (W : World) : (Instr.build 327 #[(0, .slice (some ⟨b2, 0, none⟩) m m), (1, .slice (some ⟨b5, 0, none⟩) k k), (2, .map (some b6))]).run Tryz.prog W = .ok (.agg #[.slice (some ⟨b2, 0, none⟩) m m, .slice (some ⟨b5, 0, none⟩) k k, .map (some b6), .slice none 0 0]) W := run_build W _ _ _ (by kernel_rfl)
/-- What walk has made. -/
def NmAt (w : World) (q gm gd mp m k : Nat) (lm ld : List Nat) : Prop := w.heap[q]? = some (.cells #[.slice (some ⟨gm, 0, none⟩) m m, .slice (some ⟨gd, 0, none⟩) k k, .map (some mp), .slice none 0 0] 327 (0, 0)) ∧ BoxI w gm lm ∧ BoxI w gd ld ∧ gm ≠ gd
theorem NmAt.below {w w' : World} {q gm gd mp m k : Nat} {lm ld : List Nat} (h : NmAt w q gm gd mp m k lm ld) (hb : Below w.heap.size w w') : NmAt w' q gm gd mp m k lm ld :=
 ⟨(hb.block _ (Array.getElem?_eq_some_iff.1 h.1).1).trans h.1, (hb.block _ (Array.getElem?_eq_some_iff.1 h.2.1).1).trans h.2.1, (hb.block _ (Array.getElem?_eq_some_iff.1 h.2.2.1).1).trans h.2.2.1, h.2.2.2⟩
theorem NmAt.inc {w : World} {q gm gd mp m k : Nat} {lm ld : List Nat} (h : NmAt w q gm gd mp m k lm ld) (j c : Nat) : NmAt (w.setCell ⟨gm, j, none⟩ (.int .i64 (c : Int))) q gm gd mp m k (lm.set j c) ld := by
 have hq : q ≠ gm := by
  rintro rfl
  have h1 := h.1
  rw [h.2.1] at h1
  exact absurd (Obj.cells.inj (Option.some.inj h1)).2.1 (by decide)
 exact ⟨(Below.heap_setCell w ⟨gm, j, none⟩ _ q hq).trans h.1, h.2.1.set j c, (Below.heap_setCell w ⟨gm, j, none⟩ _ gd (Ne.symm h.2.2.2)).trans h.2.2.1, h.2.2.2⟩
theorem ctK_get {m P j : Nat} (hP : P < m) (hj : j < m) : (ctK m P)[j]? = some (if j ≤ P then 1 else 0) := by
 unfold ctK
 by_cases h : j ≤ P
 ·rw [List.getElem?_append_left (by simp; omega), List.getElem?_replicate, if_pos (by omega), if_pos h]
 ·rw [List.getElem?_append_right (by simp; omega), List.getElem?_replicate, if_pos (by simp; omega), if_neg h]
end Go.Proofs.YtgmahhdnjikdjaaGreat
