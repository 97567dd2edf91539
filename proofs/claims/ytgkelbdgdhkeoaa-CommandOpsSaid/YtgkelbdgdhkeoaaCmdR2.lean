/- The reference's Same, May; Copy, Changes, walked. -/
import Derived.Test.YtgkelbdgdhkeoaaCmdR1
import Derived.Test.YtgkelbdgdhkeoaaCmd3
import Derived.Test.YtgkelbdgdhkeoaaArr
import Derived.BigQuiet
import Derived.Deep.QuietTactic
namespace Go.Proofs.Ytgkelbdgdhkeoaa
open Go.RowKit
set_option linter.unusedVariables false
set_option linter.unusedSimpArgs false
open Wire Cmd

theorem results_cell_mid {P : Program} {fn : Func} {p : Tmp} {ty : TypeId} (h : fn.results = #[.cell p ty]) (tmps : Array Value) (w : World) (g o : Nat) (cs : List Value) (d : TypeDesc)
    (hp : tmps.getD p undef = .pointer (some ⟨g, o, none⟩)) (hr : w.rangeAt g o cs) (hu : P.underlying ty = some d) (hd : d.isRow = true) (hi : (P.info? ty).map (·.size) = some cs.length) :
    (results fn tmps).run P w = .ok (.agg cs.toArray) w := by
  have hp' : tmps[p]?.getD undef = .pointer (some ⟨g, o, none⟩) := by simpa using hp
  simp [results, h, hp', asAddr, run_loadVar_mid w g o ty cs d hr hu hd hi]
theorem belowSetC {B b : Nat} {a : World} (hb : B ≤ b) : ∀ (vs : List Value) (o : Nat) (w : World), Below B a w → Below B a (w.setCells b o vs)
  | [], _, _, h => h
  | v :: r, o, w, h => by
    rw [World.setCells]
    exact belowSetC hb r (o + 1) _ (h.setCell (p := ⟨b, o, none⟩) hb v)
theorem heapSetC (b : Nat) : ∀ (vs : List Value) (o : Nat) (w : World) (k : Nat), k ≠ b → (w.setCells b o vs).heap[k]? = w.heap[k]?
  | [], _, _, _, _ => rfl
  | v :: r, o, w, k, hk => by
    rw [World.setCells, heapSetC b r (o + 1) _ k hk]
    exact Below.heap_setCell w ⟨b, o, none⟩ v k hk
theorem infoOp : (Try.prog.info? 26).map (·.size) = some 7 := by kernel_rfl

set_option maxRecDepth 100000 in
set_option maxHeartbeats 3200000 in
theorem rsame_any (a b : Op0) (sa sb : Value) (w : World) (ha : Rd w 1 sa a.data.length (bV a.data)) (hb : Rd w 1 sb b.data.length (bV b.data)) :
    Calls Try.prog 24 #[.agg (oC a sa), .agg (oC b sb)] w fun e w' => e = .returned (.bool (opEq a b)) ∧ Below w.heap.size w w' := by
  obtain ⟨k1, v1, t1, s1, p1, c1, d1⟩ := a
  obtain ⟨k2, v2, t2, s2, p2, c2, d2⟩ := b
  unfold oC
  have HA := Lib.hid ha
  have HB := Lib.hid hb
  dsimp only at ha hb ⊢
  clear ha hb
  have HB2 : Hid (Below w.heap.size w ((w.alloc (.cells #[.int .i64 k1, .int .u64 (v1 : Int), .int .u64 (t1 : Int), .int .i64 s1, .int .i64 p1, .int .i64 c1, sa] 26)).alloc (.cells #[.int .i64 k2, .int .u64 (v2 : Int), .int .u64 (t2 : Int), .int .i64 s2, .int .i64 p2, .int .i64 c2, sb] 26))) := Lib.hid (balloc (balloc (Below.refl _ _) _) _)
  by_cases h1 : k1 = k2
  rotate_left
  · have HE := Lib.hid (opEq_no (fun e : (⟨k1, v1, t1, s1, p1, c1, d1⟩ : Op0) = ⟨k2, v2, t2, s2, p2, c2, d2⟩ => h1 (by injection e)))
    have g1 := bneI h1
    clear h1
    go_enter Try.func24, Try.ntmps24
    go_wp2_with fail
    go_ret
    exact ⟨by rw [HE.out]; rfl, HB2.out⟩
  subst h1
  have g1 := beqI (rfl : k1 = k1)
  by_cases h2 : v1 = v2
  rotate_left
  · have HE := Lib.hid (opEq_no (fun e : (⟨k1, v1, t1, s1, p1, c1, d1⟩ : Op0) = ⟨k1, v2, t2, s2, p2, c2, d2⟩ => h2 (by injection e)))
    have g2 : ((v1 : Int) == (v2 : Int)) = false := bneI (by omega)
    clear h2
    go_enter Try.func24, Try.ntmps24
    go_wp2_with fail
    go_ret
    exact ⟨by rw [HE.out]; rfl, HB2.out⟩
  subst h2
  have g2 := beqI (rfl : (v1 : Int) = v1)
  by_cases h3 : t1 = t2
  rotate_left
  · have HE := Lib.hid (opEq_no (fun e : (⟨k1, v1, t1, s1, p1, c1, d1⟩ : Op0) = ⟨k1, v1, t2, s2, p2, c2, d2⟩ => h3 (by injection e)))
    have g3 : ((t1 : Int) == (t2 : Int)) = false := bneI (by omega)
    clear h3
    go_enter Try.func24, Try.ntmps24
    go_wp2_with fail
    go_ret
    exact ⟨by rw [HE.out]; rfl, HB2.out⟩
  subst h3
  have g3 := beqI (rfl : (t1 : Int) = t1)
  by_cases h4 : s1 = s2
  rotate_left
  · have HE := Lib.hid (opEq_no (fun e : (⟨k1, v1, t1, s1, p1, c1, d1⟩ : Op0) = ⟨k1, v1, t1, s2, p2, c2, d2⟩ => h4 (by injection e)))
    have g4 := bneI h4
    clear h4
    go_enter Try.func24, Try.ntmps24
    go_wp2_with fail
    go_ret
    exact ⟨by rw [HE.out]; rfl, HB2.out⟩
  subst h4
  have g4 := beqI (rfl : s1 = s1)
  by_cases h5 : p1 = p2
  rotate_left
  · have HE := Lib.hid (opEq_no (fun e : (⟨k1, v1, t1, s1, p1, c1, d1⟩ : Op0) = ⟨k1, v1, t1, s1, p2, c2, d2⟩ => h5 (by injection e)))
    have g5 := bneI h5
    clear h5
    go_enter Try.func24, Try.ntmps24
    go_wp2_with fail
    go_ret
    exact ⟨by rw [HE.out]; rfl, HB2.out⟩
  subst h5
  have g5 := beqI (rfl : p1 = p1)
  by_cases h6 : c1 = c2
  rotate_left
  · have HE := Lib.hid (opEq_no (fun e : (⟨k1, v1, t1, s1, p1, c1, d1⟩ : Op0) = ⟨k1, v1, t1, s1, p1, c2, d2⟩ => h6 (by injection e)))
    have g6 := bneI h6
    clear h6
    go_enter Try.func24, Try.ntmps24
    go_wp2_with fail
    go_ret
    exact ⟨by rw [HE.out]; rfl, HB2.out⟩
  subst h6
  have g6 := beqI (rfl : c1 = c1)
  have hA := HA.out.below HB2.out
  have hBb := HB.out.below HB2.out
  have ht1 := run_text _ _ _ d1 hA
  have ht2 := run_text _ _ _ d2 hBb
  have HE : Hid (((strB d1).toList == (strB d2).toList) = opEq ⟨k1, v1, t1, s1, p1, c1, d1⟩ ⟨k1, v1, t1, s1, p1, c1, d2⟩) := Lib.hid (by
    rw [strB_toList, strB_toList]
    by_cases h : d1 = d2
    · subst h; rw [opEq_yes rfl]; simp
    · rw [beq_eq_false_iff_ne.2 h, opEq_no (fun e : (⟨k1, v1, t1, s1, p1, c1, d1⟩ : Op0) = ⟨k1, v1, t1, s1, p1, c1, d2⟩ => h (by injection e))])
  obtain ⟨aoa, ca, rfl, _⟩ := HA.out
  obtain ⟨aob, cb, rfl, _⟩ := HB.out
  clear hA hBb
  generalize strB d1 = S1 at *
  generalize strB d2 = S2 at *
  go_enter Try.func24, Try.ntmps24
  go_wp2_with fail
  go_ret
  exact ⟨by rw [← HE.out]; rfl, HB2.out⟩

set_option maxRecDepth 100000 in
set_option maxHeartbeats 1600000 in
theorem changes_any (o : Op0) (sl : Value) (w : World) : Calls Try.prog 25 #[.agg (oC o sl)] w fun e w' => e = .returned (.bool (o.k != 8 && o.k != 9)) ∧ Below w.heap.size w w' := by
  have hb := balloc (Below.refl _ w) (.cells (oC o sl) 26)
  unfold oC at *
  have HB := Lib.hid hb
  clear hb
  by_cases h8 : o.k = 8
  · have HE : Hid ((o.k != 8 && o.k != 9) = false) := Lib.hid (by simp [h8])
    have g8 : (o.k != 8) = false := by simp [h8]
    clear h8
    go_enter Try.func25, Try.ntmps25
    go_wp2_with fail
    go_ret
    exact ⟨by rw [HE.out]; rfl, HB.out⟩
  · have g8 : (o.k != 8) = true := by simpa using h8
    rw [g8]
    go_enter Try.func25, Try.ntmps25
    go_wp2_with fail
    go_ret
    exact ⟨rfl, HB.out⟩

set_option maxRecDepth 100000 in
set_option maxHeartbeats 3200000 in
theorem copyO_any (o : Op0) (sl : Value) (w : World) (hd : Rd w 1 sl o.data.length (bV o.data)) (hl : o.data.length ≤ 140737488355328) :
    Calls Try.prog 21 #[.agg (oC o sl)] w fun e w' => ∃ sl', e = .returned (.agg (oC o sl')) ∧ w'.ownsRow w.heap.size 5 1 sl' o.data.length (bV o.data) ∧ Below w.heap.size w w' := by
  have HD := Lib.hid hd
  obtain ⟨k1, v1, t1, s1, p1, c1, d1⟩ := o
  unfold oC
  dsimp only at hd hl ⊢
  have HB0 : Hid (Below w.heap.size w ((w.alloc (.cells #[.int .i64 k1, .int .u64 (v1 : Int), .int .u64 (t1 : Int), .int .i64 s1, .int .i64 p1, .int .i64 c1, sl] 26)).alloc (.cells #[.int .i64 0, .int .u64 0, .int .u64 0, .int .i64 0, .int .i64 0, .int .i64 0, .slice none 0 0] 26))) := Lib.hid (balloc (balloc (Below.refl _ _) _) _)
  have HBX : Hid (((w.alloc (.cells #[.int .i64 k1, .int .u64 (v1 : Int), .int .u64 (t1 : Int), .int .i64 s1, .int .i64 p1, .int .i64 c1, sl] 26)).alloc (.cells #[.int .i64 0, .int .u64 0, .int .u64 0, .int .i64 0, .int .i64 0, .int .i64 0, .slice none 0 0] 26)).heap[w.heap.size]? = some (.cells #[.int .i64 k1, .int .u64 (v1 : Int), .int .u64 (t1 : Int), .int .i64 s1, .int .i64 p1, .int .i64 c1, sl] 26 (0, 0)) ∧
      ((w.alloc (.cells #[.int .i64 k1, .int .u64 (v1 : Int), .int .u64 (t1 : Int), .int .i64 s1, .int .i64 p1, .int .i64 c1, sl] 26)).alloc (.cells #[.int .i64 0, .int .u64 0, .int .u64 0, .int .i64 0, .int .i64 0, .int .i64 0, .slice none 0 0] 26)).heap[w.heap.size + 1]? = some (.cells #[.int .i64 0, .int .u64 0, .int .u64 0, .int .i64 0, .int .i64 0, .int .i64 0, .slice none 0 0] 26 (0, 0))) := Lib.hid (by
    refine ⟨?_, ?_⟩
    · rw [Below.heap_alloc _ _ _ (by simp)]; exact heap_alloc_new w _
    · have := heap_alloc_new (w.alloc (.cells #[.int .i64 k1, .int .u64 (v1 : Int), .int .u64 (t1 : Int), .int .i64 s1, .int .i64 p1, .int .i64 c1, sl] 26)) (.cells #[.int .i64 0, .int .u64 0, .int .u64 0, .int .i64 0, .int .i64 0, .int .i64 0, .slice none 0 0] 26)
      rw [World.size_alloc] at this
      exact this)
  clear hd
  go_enter Try.func21, Try.ntmps21
  go_wp2_with fail
  refine (clone8 sl _ d1 _ (HD.out.below HB0.out) hl).mono ?_
  rintro e w1 ⟨sl2, rfl, ho, hb1⟩
  have HO := Lib.hid (ownsRow_base (base' := w.heap.size) ho (by simp; omega))
  have HOL := Lib.hid (ownsRow_ge ho)
  have HB1 := Lib.hid (bthen HB0.out hb1)
  have h1 := (hb1.block w.heap.size (by simp; omega)).trans HBX.out.1
  have h2 := (hb1.block (w.heap.size + 1) (by simp)).trans HBX.out.2
  obtain ⟨ao, cap, rfl, _⟩ := Rd.of_own ho
  -- the copy's slice laid into the box
  obtain ⟨w2, hw2⟩ : ∃ W, w1.setCell ⟨w.heap.size, 6, none⟩ (.slice ao d1.length cap) = W := ⟨_, rfl⟩
  have hcl : w1.cell? ⟨w.heap.size, 6, none⟩ = some sl := cellIs h1 rfl
  have hfz : w1.frozen? ⟨w.heap.size, 6, none⟩ = false := frozenOf h1 6
  have hx1 : w2.heap[w.heap.size]? = some (.cells #[.int .i64 k1, .int .u64 (v1 : Int), .int .u64 (t1 : Int), .int .i64 s1, .int .i64 p1, .int .i64 c1, .slice ao d1.length cap] 26 (0, 0)) := by rw [← hw2]; exact setC_heap h1
  have hx2 : w2.heap[w.heap.size + 1]? = some (.cells #[.int .i64 0, .int .u64 0, .int .u64 0, .int .i64 0, .int .i64 0, .int .i64 0, .slice none 0 0] 26 (0, 0)) := by rw [← hw2]; exact (Below.heap_setCell w1 ⟨w.heap.size, 6, none⟩ _ (w.heap.size + 1) (by simp)).trans h2
  have HB2 : Hid (Below w.heap.size w w2) := Lib.hid (by rw [← hw2]; exact HB1.out.setCell (p := ⟨w.heap.size, 6, none⟩) (by simp) _)
  have HO2 : Hid (w2.ownsRow w.heap.size 5 1 (.slice ao d1.length cap) d1.length (bV d1)) := Lib.hid (by
    rw [← hw2]
    exact ownsRow_at HO.out (fun j hj => Below.heap_setCell w1 ⟨w.heap.size, 6, none⟩ _ j (fun e => by
      have h3 := HOL.out j hj
      rw [World.size_alloc, World.size_alloc] at h3
      simp at e; omega)))
  have HLL : Hid (([.int .i64 k1, .int .u64 (v1 : Int), .int .u64 (t1 : Int), .int .i64 s1, .int .i64 p1, .int .i64 c1, .slice ao d1.length cap] : List Value).length = 7 ∧ ∀ u ∈ ([.int .i64 k1, .int .u64 (v1 : Int), .int .u64 (t1 : Int), .int .i64 s1, .int .i64 p1, .int .i64 c1, .slice ao d1.length cap] : List Value), u.oneCell' = true) := Lib.hid ⟨rfl, by simp [Value.oneCell']⟩
  have hEA : (#[.int .i64 k1, .int .u64 (v1 : Int), .int .u64 (t1 : Int), .int .i64 s1, .int .i64 p1, .int .i64 c1, .slice ao d1.length cap] : Array Value) = ([.int .i64 k1, .int .u64 (v1 : Int), .int .u64 (t1 : Int), .int .i64 s1, .int .i64 p1, .int .i64 c1, .slice ao d1.length cap] : List Value).toArray := rfl
  have hr1 : w2.rangeAt w.heap.size 0 ([.int .i64 k1, .int .u64 (v1 : Int), .int .u64 (t1 : Int), .int .i64 s1, .int .i64 p1, .int .i64 c1, .slice ao d1.length cap] : List Value) := fun j u hj => by
    rw [Nat.zero_add]
    exact cellIs hx1 (by simpa using hj)
  have hth : w2.there (w.heap.size + 1) 0 7 := fun j hj => by
    rw [Nat.zero_add]
    refine ⟨?_, frozenOf hx2 j⟩
    rw [cell_of_row w2 _ j _ _ _ hx2, Array.getElem?_eq_getElem (by simpa using hj)]; rfl
  have HEA := Lib.hid hEA
  obtain ⟨CS, hCS⟩ : ∃ CS, ([.int .i64 k1, .int .u64 (v1 : Int), .int .u64 (t1 : Int), .int .i64 s1, .int .i64 p1, .int .i64 c1, .slice ao d1.length cap] : List Value) = CS := ⟨_, rfl⟩
  rw [hCS] at HLL hr1 HEA
  have HCS := Lib.hid hCS
  have HR1 := Lib.hid hr1
  have hE7 : CS.toArray.size = 7 := by rw [List.size_toArray]; exact HLL.out.1
  have HTH7 := Lib.hid hth
  have HTH : Hid (w2.there (w.heap.size + 1) 0 CS.toArray.size) := Lib.hid (by rw [hE7]; exact hth)
  clear hE7
  have HI1 : Hid ((Try.prog.info? 26).map (·.size) = some CS.length) := Lib.hid (by rw [HLL.out.1]; exact infoOp)
  have HI2 : Hid ((Try.prog.info? 26).map (·.size) = some CS.toArray.size) := Lib.hid (by rw [List.size_toArray, HLL.out.1]; exact infoOp)
  have HO1 := Lib.hid (all_oneCell_toArray HLL.out.2)
  have hres : Hid (∀ {fn : Func} {p : Tmp} (h : fn.results = #[.cell p 26]) (tmps : Array Value) (hp : tmps.getD p undef = .pointer (some ⟨w.heap.size + 1, 0, none⟩)), (results fn tmps).run Try.prog (w2.setCells (w.heap.size + 1) 0 CS) = .ok (.agg CS.toArray) (w2.setCells (w.heap.size + 1) 0 CS)) := Lib.hid (fun h tmps hp => results_cell_mid h tmps _ _ 0 CS _ hp (World.rangeAt_setCells_same w2 _ _ _ (by rw [HLL.out.1]; exact HTH7.out)) Try.underlying26 rfl HI1.out)
  clear hEA hCS hr1 hth
  clear ho hb1 h1 h2 hx1 hx2
  go_upto_region 2 with fail
  clear hw2 hcl hfz
  go_wp2_with (first
    | (refine wpList_load_mid rfl 26 _ rfl w.heap.size 0 rfl CS _ HR1.out Try.underlying26 rfl HI1.out ?_)
    | (refine wpList_store_mid rfl 26 _ _ rfl (w.heap.size + 1) 0 CS.toArray rfl rfl HTH.out HI2.out HO1.out ?_))
  exact bodyPost_ret (v := .agg CS.toArray) (hres.out rfl _ rfl) rfl ⟨.slice ao d1.length cap, by rw [← HCS.out], ownsRow_at HO2.out (fun j hj => heapSetC _ _ _ _ _ (fun e => by
    have h3 := HOL.out j hj
    rw [World.size_alloc, World.size_alloc] at h3
    omega)), belowSetC (by omega) _ _ _ HB2.out⟩
end Go.Proofs.Ytgkelbdgdhkeoaa
