/- Devices: refused, walked. -/
import Derived.Deep.RegionHeld3
import Derived.Test.YthkmihedkddnmaaAssert2
import Derived.Test.YthkmihedkddnmaaCK
import Derived.Test.YthkmihedkddnmaaCA
import Derived.Test.YthkmihedkddnmaaDev9
namespace Go.Proofs.Ythkmihedkddnmaa
open Go.RowKit Go.Maps Wire Cmd
set_option linter.unusedVariables false
set_option linter.unusedSimpArgs false

theorem op7 {X : World} {b : Nat} {o : Op0} {sl : Value} (h : X.heap[b]? = some (.cells (oC o sl) 27 (0, 0))) :
    X.cell? ⟨b, 0, none⟩ = some (.int .i64 o.k) ∧ X.cell? ⟨b, 1, none⟩ = some (.int .u64 (o.vol : Int)) ∧ X.cell? ⟨b, 2, none⟩ = some (.int .u64 (o.to : Int)) ∧ X.cell? ⟨b, 3, none⟩ = some (.int .i64 o.size) ∧
    X.cell? ⟨b, 4, none⟩ = some (.int .i64 o.pl) ∧ X.cell? ⟨b, 5, none⟩ = some (.int .i64 o.count) ∧ X.cell? ⟨b, 6, none⟩ = some sl :=
  ⟨cellOf h 0 rfl, cellOf h 1 rfl, cellOf h 2 rfl, cellOf h 3 rfl, cellOf h 4 rfl, cellOf h 5 rfl, cellOf h 6 rfl⟩
/-- A lookup's answer at a device, whatever is there. -/
theorem DevAt.looked {n0 : Nat} {w : World} {B Ba : Nat} {l : List (Nat × (Vl × Nat))} (h : DevAt n0 w B Ba l) {n : Nat} (hn : n < 18446744073709551616) :
    ∃ (s : Nat) (p : Option Nat) (b : Bool), (∀ X, Below w.heap.size w X → (Instr.lookup 47 (.map (some Ba)) (.int .u64 (n : Int)) true).run Try.prog X = .ok (.tuple #[.agg #[.int .i64 (s : Int), .map p], .bool b]) X) ∧
      ((∃ x, getA n l = some x ∧ s = x.1.size ∧ p = some x.2 ∧ b = true) ∨ (getA n l = none ∧ s = 0 ∧ p = none ∧ b = false)) := by
  cases hg : getA n l with
  | some x => exact ⟨x.1.size, some x.2, true, fun X hX => ((h.below hX).look hn hg).1, .inl ⟨x, rfl, rfl, rfl, rfl⟩⟩
  | none => exact ⟨0, none, false, fun X hX => ((h.below hX).lookNo hn hg).1, .inr ⟨rfl, rfl, rfl, rfl⟩⟩
theorem getA_strip (n : Nat) (l : List (Nat × (Vl × Nat))) : getA n (strip l) = (getA n l).map (·.1) := getA_map _ _ _

theorem may_in {o : Op0} (h : mayO o = true) {c : UInt8} (hc : c ∈ nm o.k) : wIn (c.toNat : Int) o = true := by
  unfold mayO at h
  simp only [Bool.and_eq_true] at h
  exact List.all_eq_true.1 h.1.1 c hc
theorem may_kind {o : Op0} (h : mayO o = true) : 1 ≤ o.k ∧ o.k ≤ 9 := by
  unfold mayO at h
  simp only [Bool.and_eq_true, decide_eq_true_eq] at h
  exact h.1.2
theorem may_pl {o : Op0} (h : mayO o = true) (hk : o.k = 5 ∨ o.k = 6 ∨ o.k = 7 ∨ o.k = 9) : 0 ≤ o.pl ∧ o.pl ≤ 1048576 := by
  have := may_in h (c := 97) (by rcases hk with hk | hk | hk | hk <;> rw [hk] <;> decide)
  simpa [wIn] using this
theorem may_count {o : Op0} (h : mayO o = true) (hk : o.k = 6 ∨ o.k = 7 ∨ o.k = 9) : 1 ≤ o.count ∧ o.count ≤ 1024 := by
  have := may_in h (c := 99) (by rcases hk with hk | hk | hk <;> rw [hk] <;> decide)
  simpa [wIn] using this
theorem may_data {o : Op0} (h : mayO o = true) (hk : o.k = 5) : 64 ≤ o.data.length ∧ o.data.length % 64 = 0 ∧ o.data.length ≤ 2048 := by
  have := may_in h (c := 100) (by rw [hk]; decide)
  simp only [wIn] at this
  simpa [and_assoc] using this
theorem may_rowC {o : Op0} (h : mayO o = true) (hk : o.k = 5 ∨ o.k = 6 ∨ o.k = 9) : 1 ≤ rowC o ∧ rowC o ≤ 1024 := by
  unfold rowC
  split
  · rename_i h5
    have := may_data h h5
    omega
  · rename_i h5
    exact may_count h (by omega)
set_option maxRecDepth 100000 in
set_option maxHeartbeats 800000 in
theorem drefused_no (w : World) (v : Value) (o : Op0) (sl : Value) (h : DevV w v false) :
    Calls Try.prog 22 #[v, .agg (oC o sl)] w fun e w' => e = .returned (.int .i64 1) ∧ Below w.heap.size w w' := by
  obtain ⟨w1, hw1⟩ : ∃ W, w.alloc (.cells (oC o sl) 27) = W := ⟨_, rfl⟩
  have hb1 : Below w.heap.size w w1 := by rw [← hw1]; exact balloc (Below.refl _ _) _
  have CT := dthere_any w1 v false (h.below hb1)
  have HB := Lib.hid hb1
  clear h hb1
  unfold oC at *
  go_enter Try.func22, Try.ntmps22
  go_wp2_with fail
  refine CT.mono ?_
  rintro e w2 ⟨rfl, rfl⟩
  go_wp2_with fail
  go_ret
  exact ⟨rfl, HB.out⟩

set_option maxRecDepth 100000 in
set_option maxHeartbeats 3200000 in
theorem drefused_at (n0 : Nat) (w : World) (B Ba : Nat) (l : List (Nat × (Vl × Nat))) (h : DevAt n0 w B Ba l) (o : Op0) (ok : o.Ok) (ao : Option Addr) (cap : Nat) (hd : Rd w 1 (.slice ao o.data.length cap) o.data.length (bV o.data)) :
    Calls Try.prog 22 #[.pointer (some ⟨B, 0, none⟩), .agg (oC o (.slice ao o.data.length cap))] w fun e w' => e = .returned (.int .i64 (refD (strip l) o)) ∧ Below w.heap.size w w' := by
  have HNL : Hid (o.data.length ≤ 9223372036854775807) := Lib.hid (by obtain ⟨_, _, _, _, hm, _⟩ := hd; unfold maxLen at hm; omega)
  obtain ⟨sl, hsl⟩ : ∃ s, Value.slice ao o.data.length cap = s := ⟨_, rfl⟩
  have CP : Hid (∀ X, Calls Try.prog 34 #[.agg (oC o sl)] X fun e w' => e = .returned (partV o) ∧ Below X.heap.size X w') := Lib.hid (fun X => by rw [← hsl]; exact part13_any o ao cap X HNL.out)
  rw [hsl] at hd ⊢
  have HSL := Lib.hid hsl
  clear hsl
  obtain ⟨w1, hw1⟩ : ∃ W, w.alloc (.cells (oC o sl) 27) = W := ⟨_, rfl⟩
  have hb1 : Below w.heap.size w w1 := by rw [← hw1]; exact balloc (Below.refl _ _) _
  have hx1 : w1.heap[w.heap.size]? = some (.cells (oC o sl) 27 (0, 0)) := by rw [← hw1]; exact heap_alloc_new w _
  have CT := dthere_any w1 _ true (h.below hb1).dv
  have CM := mayO_any o ok sl w1 (hd.below hb1)
  have HD1 := Lib.hid (h.below hb1)
  have HB1 := Lib.hid hb1
  have HX1 := Lib.hid hx1
  obtain ⟨c0, c1, c2, c3, c4, c5, c6⟩ := op7 hx1
  clear h hb1 hx1
  unfold oC at hw1
  rw [show (oC o sl) = #[.int .i64 o.k, .int .u64 (o.vol : Int), .int .u64 (o.to : Int), .int .i64 o.size, .int .i64 o.pl, .int .i64 o.count, sl] from rfl]
  go_enter Try.func22, Try.ntmps22
  go_wp2_with fail
  refine CT.mono ?_
  rintro e w2 ⟨rfl, rfl⟩
  go_wp2_with fail
  refine CM.mono ?_
  rintro e w2 ⟨rfl, hb2⟩
  have HB2 := Lib.hid (bthen HB1.out hb2)
  have HX2 := Lib.hid ((hb2.block w.heap.size (Array.getElem?_eq_some_iff.1 HX1.out).1).trans HX1.out)
  have HD2 := Lib.hid (HD1.out.below hb2)
  clear c0 c1 c2 c3 c4 c5 c6 hw1 hb2 CT CM
  obtain ⟨q, hq⟩ : ∃ q, mayO o = q := ⟨_, rfl⟩
  have HQ := Lib.hid hq
  rw [hq]
  clear hq
  cases q with
  | false =>
    have HR : Hid (refD (strip l) o = 2) := Lib.hid (by unfold refD; rw [if_pos HQ.out])
    go_wp2_with fail
    go_ret
    exact ⟨by rw [HR.out]; rfl, HB2.out⟩
  | true =>
    obtain ⟨s, p, b, hlk, hcase⟩ := HD2.out.looked ok.vol
    have HLK := Lib.hid hlk
    have HCASE := Lib.hid hcase
    clear hlk hcase
    go_wp2_with fail
    have HSS : Hid (∀ X, Below w2.heap.size w2 X → (X.cell? ⟨B, 0, none⟩ = some (.map (some Ba)) ∧ X.cell? ⟨w.heap.size, 1, none⟩ = some (.int .u64 (o.vol : Int))) ∧ Below w2.heap.size w2 X) := Lib.hid (fun X hb => ⟨⟨(World.cell?_of_block (hb.block _ (HD2.out.lt))).trans (HD2.out.cell), (World.cell?_of_block (hb.block _ ((Array.getElem?_eq_some_iff.1 HX2.out).1))).trans (cellOf HX2.out 1 rfl)⟩, hb⟩)
    refine wp_region_held_drew (S := fun X => (X.cell? ⟨B, 0, none⟩ = some (.map (some Ba)) ∧ X.cell? ⟨w.heap.size, 1, none⟩ = some (.int .u64 (o.vol : Int))) ∧ Below w2.heap.size w2 X) (by kernel_rfl) (HSS.out _ (Below.refl _ _).drew) (fun hHeld => ?_)
    have hbe : Below w2.heap.size w2 w2.drew := (Below.refl _ _).drew
    obtain ⟨wd, hwd⟩ : ∃ y, w2.drew = y := ⟨_, rfl⟩
    rw [hwd] at hHeld hbe ⊢
    have HBE := Lib.hid hbe
    have HS0 : Hid (w2.heap.size ≤ wd.heap.size) := Lib.hid HBE.out.size
    clear hwd hbe
    refine wpAnyH_take (i := 0) (v := ?_) rfl (by kernel_rfl) (by kernel_rfl) (by kernel_rfl) (fun _ _ _ h => h) (Or.inl ⟨by rfl, ?_⟩) (by assumption) ?_
    rotate_left
    · (intro w hSw; (try dsimp only at hSw); simp only [List.getElem_toArray, List.getElem_cons_zero, List.getElem_cons_succ]; go_simp; first | done | with_reducible rfl)
    simp only [List.getElem_toArray, List.getElem_cons_zero, List.getElem_cons_succ, Act.put, List.setIfInBounds_toArray, List.set_cons_zero, List.set_cons_succ]
    refine wpAnyH_take (i := 4) (v := ?_) rfl (by kernel_rfl) (by kernel_rfl) (by kernel_rfl) (fun _ _ _ h => h) (Or.inl ⟨by rfl, ?_⟩) (by assumption) ?_
    rotate_left
    · (intro w hSw; (try dsimp only at hSw); simp only [List.getElem_toArray, List.getElem_cons_zero, List.getElem_cons_succ]; go_simp; first | done | with_reducible rfl)
    simp only [List.getElem_toArray, List.getElem_cons_zero, List.getElem_cons_succ, Act.put, List.setIfInBounds_toArray, List.set_cons_zero, List.set_cons_succ]
    refine wpAnyH_take (i := 1) (v := ?_) rfl (by kernel_rfl) (by kernel_rfl) (by kernel_rfl) (fun _ _ _ h => h) (Or.inl ⟨by rfl, ?_⟩) (by assumption) ?_
    rotate_left
    · (intro w hSw; (try dsimp only at hSw); simp only [List.getElem_toArray, List.getElem_cons_zero, List.getElem_cons_succ]; go_simp; first | done | with_reducible rfl)
    simp only [List.getElem_toArray, List.getElem_cons_zero, List.getElem_cons_succ, Act.put, List.setIfInBounds_toArray, List.set_cons_zero, List.set_cons_succ]
    refine wpAnyH_take (i := 5) (v := ?_) rfl (by kernel_rfl) (by kernel_rfl) (by kernel_rfl) (fun _ _ _ h => h) (Or.inl ⟨by rfl, ?_⟩) (by assumption) ?_
    rotate_left
    · (intro w hSw; (try dsimp only at hSw); simp only [List.getElem_toArray, List.getElem_cons_zero, List.getElem_cons_succ]; go_simp; first | done | with_reducible rfl)
    simp only [List.getElem_toArray, List.getElem_cons_zero, List.getElem_cons_succ, Act.put, List.setIfInBounds_toArray, List.set_cons_zero, List.set_cons_succ]
    refine wpAnyH_take (i := 2) (v := ?_) rfl (by kernel_rfl) (by kernel_rfl) (by kernel_rfl) (fun _ _ _ h => h) (Or.inl ⟨by rfl, ?_⟩) (by assumption) ?_
    rotate_left
    · (intro w hSw; (try dsimp only at hSw); simp only [List.getElem_toArray, List.getElem_cons_zero, List.getElem_cons_succ]; go_simp; first | done | with_reducible rfl)
    simp only [List.getElem_toArray, List.getElem_cons_zero, List.getElem_cons_succ, Act.put, List.setIfInBounds_toArray, List.set_cons_zero, List.set_cons_succ]
    refine wpAnyH_take (i := 3) (v := ?_) rfl (by kernel_rfl) (by kernel_rfl) (by kernel_rfl) (fun _ _ _ h => h) (Or.inl ⟨by rfl, ?_⟩) (by assumption) ?_
    rotate_left
    · (intro w hSw; (try dsimp only at hSw); simp only [List.getElem_toArray, List.getElem_cons_zero, List.getElem_cons_succ]; go_simp; first | done | with_reducible rfl)
    simp only [List.getElem_toArray, List.getElem_cons_zero, List.getElem_cons_succ, Act.put, List.setIfInBounds_toArray, List.set_cons_zero, List.set_cons_succ]
    refine wpAnyH_take (i := 6) (v := .tuple #[.agg #[.int .i64 (s : Int), .map p], .bool b]) rfl (by kernel_rfl) (by kernel_rfl) (by kernel_rfl) (fun _ _ _ h => h) (Or.inl ⟨by rfl, ?_⟩) (by assumption) ?_
    · (intro w hSw; simp only [List.getElem_toArray, List.getElem_cons_zero, List.getElem_cons_succ]; (have h6 := HLK.out w hSw.2; go_simp; first | done | with_reducible rfl))
    simp only [List.getElem_toArray, List.getElem_cons_zero, List.getElem_cons_succ, Act.put, List.setIfInBounds_toArray, List.set_cons_zero, List.set_cons_succ]
    refine wpAnyH_take (i := 7) (v := ?_) rfl (by kernel_rfl) (by kernel_rfl) (by kernel_rfl) (fun _ _ _ h => h) (Or.inl ⟨by rfl, ?_⟩) (by assumption) ?_
    rotate_left
    · (intro w hSw; (try dsimp only at hSw); simp only [List.getElem_toArray, List.getElem_cons_zero, List.getElem_cons_succ]; go_simp; first | done | with_reducible rfl)
    simp only [List.getElem_toArray, List.getElem_cons_zero, List.getElem_cons_succ, Act.put, List.setIfInBounds_toArray, List.set_cons_zero, List.set_cons_succ]
    refine wpAnyH_take (i := 8) (v := ?_) rfl (by kernel_rfl) (by kernel_rfl) (by kernel_rfl) (fun _ _ _ h => h) (Or.inl ⟨by rfl, ?_⟩) (by assumption) ?_
    rotate_left
    · (intro w hSw; (try dsimp only at hSw); simp only [List.getElem_toArray, List.getElem_cons_zero, List.getElem_cons_succ]; go_simp; first | done | with_reducible rfl)
    simp only [List.getElem_toArray, List.getElem_cons_zero, List.getElem_cons_succ, Act.put, List.setIfInBounds_toArray, List.set_cons_zero, List.set_cons_succ]
    refine wpAnyH_take (i := 9) (v := ?_) rfl (by kernel_rfl) (by kernel_rfl) (by kernel_rfl) (fun _ _ _ h => h) (Or.inl ⟨by rfl, ?_⟩) (by assumption) ?_
    rotate_left
    · (intro w hSw; (try dsimp only at hSw); simp only [List.getElem_toArray, List.getElem_cons_zero, List.getElem_cons_succ]; go_simp; first | done | with_reducible rfl)
    simp only [List.getElem_toArray, List.getElem_cons_zero, List.getElem_cons_succ, Act.put, List.setIfInBounds_toArray, List.set_cons_zero, List.set_cons_succ]
    refine wpAnyH_ready (rs := [10]) (by kernel_rfl) (by simp) ?_
    refine AllReadyH.cons rfl (fun K hK => ?_) (AllReadyH.nil)
    simp only [List.getElem_toArray, List.getElem_cons_zero, List.getElem_cons_succ]
    go_simp
    obtain ⟨b10, hw10⟩ : ∃ b, wd.heap.size = b := ⟨_, rfl⟩
    obtain ⟨y10, hy10⟩ : ∃ y, wd.alloc (.cells #[.int .i64 0, .map none] 53) = y := ⟨_, rfl⟩
    rw [hy10, hw10]
    have hx10 : Below wd.heap.size wd y10 := by rw [← hy10]; exact balloc (Below.refl _ _) _
    have HN10 : Hid (y10.heap[b10]? = some (.cells #[.int .i64 0, .map none] 53 (0, 0))) := Lib.hid (by rw [← hy10, ← hw10]; exact heap_alloc_new _ _)
    have HG10 : Hid (w2.heap.size ≤ b10) := Lib.hid (by have := HBE.out.size; omega)
    clear hy10 hw10
    have HBE := Lib.hid (bthen HBE.out hx10)
    have hSp := HSS.out _ HBE.out
    clear hHeld
    refine hK.out _ _ hSp (fun hHeld => ?_)
    clear hSp hK K
    try simp only [Act.put, List.setIfInBounds_toArray, List.set_cons_zero, List.set_cons_succ]
    clear hx10
    refine wpAnyH_ready (rs := [11]) (by kernel_rfl) (by simp) ?_
    refine AllReadyH.cons rfl (fun K hK => ?_) (AllReadyH.nil)
    have hc11_0 := cellOf HN10.out 0 rfl
    have hf11_0 := frozenOf HN10.out 0
    have hc11_1 := cellOf HN10.out 1 rfl
    have hf11_1 := frozenOf HN10.out 1
    simp only [List.getElem_toArray, List.getElem_cons_zero, List.getElem_cons_succ]
    go_simp
    obtain ⟨y11, hy11⟩ : ∃ y, ((y10.setCell ⟨b10, 0, none⟩ (.int .i64 (s : Int))).setCell ⟨b10, 1, none⟩ (.map p)) = y := ⟨_, rfl⟩
    rw [hy11]
    have hm11 : Mods [b10] y10 y11 := by rw [← hy11]; exact ((Mods.refl [b10] y10).setCell (p := ⟨b10, 0, none⟩) (by simp) _).setCell (p := ⟨b10, 1, none⟩) (by simp) _
    have hv11 := setOf (setOf (HN10.out) 0 (.int .i64 (s : Int))) 1 (.map p)
    rw [hy11] at hv11
    clear hy11 hc11_0 hf11_0 hc11_1 hf11_1
    have HBE : Hid (Below w2.heap.size w2 y11) := Lib.hid (HBE.out.trans (hm11.below (fun k hk => by have := HG10.out; have e := List.mem_singleton.1 hk; omega) HBE.out.size))
    have hSp := HSS.out _ HBE.out
    clear hHeld
    refine hK.out _ _ hSp (fun hHeld => ?_)
    clear hSp hK K
    try simp only [Act.put, List.setIfInBounds_toArray, List.set_cons_zero, List.set_cons_succ]
    simp only [List.setIfInBounds_toArray, List.set_cons_zero, List.set_cons_succ] at hv11
    have HN10 := Lib.hid hv11
    clear hv11 hm11
    refine wpAnyH_take (i := 12) (v := ?_) rfl (by kernel_rfl) (by kernel_rfl) (by kernel_rfl) (fun _ _ _ h => h) (Or.inl ⟨by rfl, ?_⟩) (by assumption) ?_
    rotate_left
    · (intro w hSw; (try dsimp only at hSw); simp only [List.getElem_toArray, List.getElem_cons_zero, List.getElem_cons_succ]; go_simp; first | done | with_reducible rfl)
    simp only [List.getElem_toArray, List.getElem_cons_zero, List.getElem_cons_succ, Act.put, List.setIfInBounds_toArray, List.set_cons_zero, List.set_cons_succ]
    refine wpAnyH_done (by kernel_rfl) ?_ _
    have HEND := Lib.hid hHeld.2
    have HSE := Lib.hid hHeld.1
    clear hHeld
    clear HSE HSS
    have HB5 := Lib.hid (bthen HB2.out HEND.out)
    have HX5 := Lib.hid ((HEND.out.block w.heap.size (Array.getElem?_eq_some_iff.1 HX2.out).1).trans HX2.out)
    have HD5 := Lib.hid (HD2.out.below HEND.out)
    have hp0 := cellOf HN10.out 0 (v := .int .i64 (s : Int)) rfl
    obtain ⟨c0, c1, c2, c3, c4, c5, c6⟩ := op7 HX5.out
    clear HEND HX2 HD2 HB2 HN10
    by_cases h8 : o.k = 8
    · have g8 : (o.k == 8) = true := by simp [h8]
      have HK := Lib.hid h8
      clear h8
      have HR : Hid (refD (strip l) o = 0) := Lib.hid (by unfold refD; rw [if_neg (by rw [HQ.out]; simp), if_pos HK.out])
      go_wp2_with fail
      go_ret
      exact ⟨by rw [HR.out]; rfl, HB5.out⟩
    have g8 := bneI h8
    rcases HCASE.out with ⟨x, hg, rfl, rfl, rfl⟩ | ⟨hg, rfl, rfl, rfl⟩
    · by_cases h1 : o.k = 1
      · have g1 : (o.k == 1) = true := by simp [h1]
        have HK := Lib.hid h1
        have HR : Hid (refD (strip l) o = 7) := Lib.hid (by unfold refD; rw [if_neg (by rw [HQ.out]; simp), if_neg (by rw [HK.out]; omega), if_pos HK.out, getA_strip, hg]; rfl)
        clear h8 h1
        go_wp2_with fail
        go_ret
        exact ⟨by rw [HR.out]; rfl, HB5.out⟩
      have g1 := bneI h1
      have HG := Lib.hid hg
      clear hg
      have HR0 : Hid (refD (strip l) o = if o.k = 4 then (if (getA o.to (strip l)).isSome then 7 else 0)
    else if o.k = 5 ∨ o.k = 6 ∨ o.k = 9 then (if 4 * (x.1.size : Int) < o.pl + rowC o then 5 else 0)
    else if o.k = 7 then (if (x.1.size : Int) < o.pl + o.count then 5 else 0) else 0) := Lib.hid (by
        unfold refD
        rw [if_neg (by rw [HQ.out]; simp), if_neg h8, if_neg h1, getA_strip, HG.out]
        rfl)
      by_cases h4 : o.k = 4
      · have HPV : Hid (partV o = .iface 72 (.agg #[.int .u64 (o.vol : Int), .int .u64 (o.to : Int)])) := Lib.hid (by unfold partV; rw [if_neg (by omega), if_pos h4])
        have HR1 : Hid (refD (strip l) o = if (getA o.to (strip l)).isSome then 7 else 0) := Lib.hid (by rw [HR0.out, if_pos h4])
        clear h4 h1 h8
        go_wp2_with fail
        refine (CP.out _).mono ?_
        rintro e w6 ⟨rfl, hb6⟩
        rw [HPV.out]
        have HB6 := Lib.hid (bthen HB5.out hb6)
        have HX6 := Lib.hid ((hb6.block w.heap.size (Array.getElem?_eq_some_iff.1 HX5.out).1).trans HX5.out)
        have HD6 := Lib.hid (HD5.out.below hb6)
        have hq0 : w6.cell? ⟨b10, 0, none⟩ = _ := (World.cell?_of_block (hb6.block b10 (World.block_lt_of_cell? y11 _ hp0))).trans hp0
        have hbl : b10 < w6.heap.size := World.block_lt_of_cell? w6 _ hq0
        obtain ⟨d0, d1, d2, d3, d4, d5, d6⟩ := op7 HX6.out
        clear c0 c1 c2 c3 c4 c5 c6 hp0 hb6
        have t1 := as_fork
        obtain ⟨w7, hw7⟩ : ∃ W, w6.alloc (.cells #[.int .u64 (o.vol : Int), .int .u64 (o.to : Int)] 72) = W := ⟨_, rfl⟩
        have HB67 : Hid (Below w6.heap.size w6 w7) := Lib.hid (by rw [← hw7]; exact balloc (Below.refl _ _) _)
        have HX7 : Hid (w7.heap[w6.heap.size]? = some (.cells #[.int .u64 (o.vol : Int), .int .u64 (o.to : Int)] 72 (0, 0))) := Lib.hid (by rw [← hw7]; exact heap_alloc_new w6 _)
        have HD7 := Lib.hid (HD6.out.below HB67.out)
        obtain ⟨s2, p2, b2, hlk, hcase⟩ := HD7.out.looked ok.to
        have HLK2 := Lib.hid hlk
        have HCASE2 := Lib.hid hcase
        clear hlk hcase
        go_wp2_with fail
        (try rw [hw7])
        clear hw7 hq0 d0 d1 d2 d3 d4 d5 d6 t1
        have HSS : Hid (∀ X, Below w7.heap.size w7 X → (X.cell? ⟨B, 0, none⟩ = some (.map (some Ba)) ∧ X.cell? ⟨w6.heap.size, 1, none⟩ = some (.int .u64 (o.to : Int))) ∧ Below w7.heap.size w7 X) := Lib.hid (fun X hb => ⟨⟨(World.cell?_of_block (hb.block _ (HD7.out.lt))).trans (HD7.out.cell), (World.cell?_of_block (hb.block _ ((Array.getElem?_eq_some_iff.1 HX7.out).1))).trans (cellOf HX7.out 1 rfl)⟩, hb⟩)
        refine wp_region_held_drew (S := fun X => (X.cell? ⟨B, 0, none⟩ = some (.map (some Ba)) ∧ X.cell? ⟨w6.heap.size, 1, none⟩ = some (.int .u64 (o.to : Int))) ∧ Below w7.heap.size w7 X) (by kernel_rfl) (HSS.out _ (Below.refl _ _).drew) (fun hHeld => ?_)
        have hbe : Below w7.heap.size w7 w7.drew := (Below.refl _ _).drew
        obtain ⟨wd, hwd⟩ : ∃ y, w7.drew = y := ⟨_, rfl⟩
        rw [hwd] at hHeld hbe ⊢
        have HBE := Lib.hid hbe
        have HS0 : Hid (w7.heap.size ≤ wd.heap.size) := Lib.hid HBE.out.size
        clear hwd hbe
        refine wpAnyH_take (i := 0) (v := ?_) rfl (by kernel_rfl) (by kernel_rfl) (by kernel_rfl) (fun _ _ _ h => h) (Or.inl ⟨by rfl, ?_⟩) (by assumption) ?_
        rotate_left
        · (intro w hSw; (try dsimp only at hSw); simp only [List.getElem_toArray, List.getElem_cons_zero, List.getElem_cons_succ]; go_simp; first | done | with_reducible rfl)
        simp only [List.getElem_toArray, List.getElem_cons_zero, List.getElem_cons_succ, Act.put, List.setIfInBounds_toArray, List.set_cons_zero, List.set_cons_succ]
        refine wpAnyH_take (i := 4) (v := ?_) rfl (by kernel_rfl) (by kernel_rfl) (by kernel_rfl) (fun _ _ _ h => h) (Or.inl ⟨by rfl, ?_⟩) (by assumption) ?_
        rotate_left
        · (intro w hSw; (try dsimp only at hSw); simp only [List.getElem_toArray, List.getElem_cons_zero, List.getElem_cons_succ]; go_simp; first | done | with_reducible rfl)
        simp only [List.getElem_toArray, List.getElem_cons_zero, List.getElem_cons_succ, Act.put, List.setIfInBounds_toArray, List.set_cons_zero, List.set_cons_succ]
        refine wpAnyH_take (i := 1) (v := ?_) rfl (by kernel_rfl) (by kernel_rfl) (by kernel_rfl) (fun _ _ _ h => h) (Or.inl ⟨by rfl, ?_⟩) (by assumption) ?_
        rotate_left
        · (intro w hSw; (try dsimp only at hSw); simp only [List.getElem_toArray, List.getElem_cons_zero, List.getElem_cons_succ]; go_simp; first | done | with_reducible rfl)
        simp only [List.getElem_toArray, List.getElem_cons_zero, List.getElem_cons_succ, Act.put, List.setIfInBounds_toArray, List.set_cons_zero, List.set_cons_succ]
        refine wpAnyH_take (i := 5) (v := ?_) rfl (by kernel_rfl) (by kernel_rfl) (by kernel_rfl) (fun _ _ _ h => h) (Or.inl ⟨by rfl, ?_⟩) (by assumption) ?_
        rotate_left
        · (intro w hSw; (try dsimp only at hSw); simp only [List.getElem_toArray, List.getElem_cons_zero, List.getElem_cons_succ]; go_simp; first | done | with_reducible rfl)
        simp only [List.getElem_toArray, List.getElem_cons_zero, List.getElem_cons_succ, Act.put, List.setIfInBounds_toArray, List.set_cons_zero, List.set_cons_succ]
        refine wpAnyH_take (i := 2) (v := ?_) rfl (by kernel_rfl) (by kernel_rfl) (by kernel_rfl) (fun _ _ _ h => h) (Or.inl ⟨by rfl, ?_⟩) (by assumption) ?_
        rotate_left
        · (intro w hSw; (try dsimp only at hSw); simp only [List.getElem_toArray, List.getElem_cons_zero, List.getElem_cons_succ]; go_simp; first | done | with_reducible rfl)
        simp only [List.getElem_toArray, List.getElem_cons_zero, List.getElem_cons_succ, Act.put, List.setIfInBounds_toArray, List.set_cons_zero, List.set_cons_succ]
        refine wpAnyH_take (i := 3) (v := ?_) rfl (by kernel_rfl) (by kernel_rfl) (by kernel_rfl) (fun _ _ _ h => h) (Or.inl ⟨by rfl, ?_⟩) (by assumption) ?_
        rotate_left
        · (intro w hSw; (try dsimp only at hSw); simp only [List.getElem_toArray, List.getElem_cons_zero, List.getElem_cons_succ]; go_simp; first | done | with_reducible rfl)
        simp only [List.getElem_toArray, List.getElem_cons_zero, List.getElem_cons_succ, Act.put, List.setIfInBounds_toArray, List.set_cons_zero, List.set_cons_succ]
        refine wpAnyH_take (i := 6) (v := .tuple #[.agg #[.int .i64 (s2 : Int), .map p2], .bool b2]) rfl (by kernel_rfl) (by kernel_rfl) (by kernel_rfl) (fun _ _ _ h => h) (Or.inl ⟨by rfl, ?_⟩) (by assumption) ?_
        · (intro w hSw; simp only [List.getElem_toArray, List.getElem_cons_zero, List.getElem_cons_succ]; (have h6 := HLK2.out w hSw.2; go_simp; first | done | with_reducible rfl))
        simp only [List.getElem_toArray, List.getElem_cons_zero, List.getElem_cons_succ, Act.put, List.setIfInBounds_toArray, List.set_cons_zero, List.set_cons_succ]
        refine wpAnyH_take (i := 7) (v := ?_) rfl (by kernel_rfl) (by kernel_rfl) (by kernel_rfl) (fun _ _ _ h => h) (Or.inl ⟨by rfl, ?_⟩) (by assumption) ?_
        rotate_left
        · (intro w hSw; (try dsimp only at hSw); simp only [List.getElem_toArray, List.getElem_cons_zero, List.getElem_cons_succ]; go_simp; first | done | with_reducible rfl)
        simp only [List.getElem_toArray, List.getElem_cons_zero, List.getElem_cons_succ, Act.put, List.setIfInBounds_toArray, List.set_cons_zero, List.set_cons_succ]
        refine wpAnyH_take (i := 8) (v := ?_) rfl (by kernel_rfl) (by kernel_rfl) (by kernel_rfl) (fun _ _ _ h => h) (Or.inl ⟨by rfl, ?_⟩) (by assumption) ?_
        rotate_left
        · (intro w hSw; (try dsimp only at hSw); simp only [List.getElem_toArray, List.getElem_cons_zero, List.getElem_cons_succ]; go_simp; first | done | with_reducible rfl)
        simp only [List.getElem_toArray, List.getElem_cons_zero, List.getElem_cons_succ, Act.put, List.setIfInBounds_toArray, List.set_cons_zero, List.set_cons_succ]
        refine wpAnyH_take (i := 9) (v := ?_) rfl (by kernel_rfl) (by kernel_rfl) (by kernel_rfl) (fun _ _ _ h => h) (Or.inl ⟨by rfl, ?_⟩) (by assumption) ?_
        rotate_left
        · (intro w hSw; (try dsimp only at hSw); simp only [List.getElem_toArray, List.getElem_cons_zero, List.getElem_cons_succ]; go_simp; first | done | with_reducible rfl)
        simp only [List.getElem_toArray, List.getElem_cons_zero, List.getElem_cons_succ, Act.put, List.setIfInBounds_toArray, List.set_cons_zero, List.set_cons_succ]
        refine wpAnyH_ready (rs := [10]) (by kernel_rfl) (by simp) ?_
        refine AllReadyH.cons rfl (fun K hK => ?_) (AllReadyH.nil)
        simp only [List.getElem_toArray, List.getElem_cons_zero, List.getElem_cons_succ]
        go_simp
        obtain ⟨b10, hw10⟩ : ∃ b, wd.heap.size = b := ⟨_, rfl⟩
        obtain ⟨y10, hy10⟩ : ∃ y, wd.alloc (.cells #[.int .i64 0, .map none] 53) = y := ⟨_, rfl⟩
        rw [hy10, hw10]
        have hx10 : Below wd.heap.size wd y10 := by rw [← hy10]; exact balloc (Below.refl _ _) _
        have HN10 : Hid (y10.heap[b10]? = some (.cells #[.int .i64 0, .map none] 53 (0, 0))) := Lib.hid (by rw [← hy10, ← hw10]; exact heap_alloc_new _ _)
        have HG10 : Hid (w7.heap.size ≤ b10) := Lib.hid (by have := HBE.out.size; omega)
        clear hy10 hw10
        have HBE := Lib.hid (bthen HBE.out hx10)
        have hSp := HSS.out _ HBE.out
        clear hHeld
        refine hK.out _ _ hSp (fun hHeld => ?_)
        clear hSp hK K
        try simp only [Act.put, List.setIfInBounds_toArray, List.set_cons_zero, List.set_cons_succ]
        clear hx10
        refine wpAnyH_ready (rs := [11]) (by kernel_rfl) (by simp) ?_
        refine AllReadyH.cons rfl (fun K hK => ?_) (AllReadyH.nil)
        have hc11_0 := cellOf HN10.out 0 rfl
        have hf11_0 := frozenOf HN10.out 0
        have hc11_1 := cellOf HN10.out 1 rfl
        have hf11_1 := frozenOf HN10.out 1
        simp only [List.getElem_toArray, List.getElem_cons_zero, List.getElem_cons_succ]
        go_simp
        obtain ⟨y11, hy11⟩ : ∃ y, ((y10.setCell ⟨b10, 0, none⟩ (.int .i64 (s2 : Int))).setCell ⟨b10, 1, none⟩ (.map p2)) = y := ⟨_, rfl⟩
        rw [hy11]
        have hm11 : Mods [b10] y10 y11 := by rw [← hy11]; exact ((Mods.refl [b10] y10).setCell (p := ⟨b10, 0, none⟩) (by simp) _).setCell (p := ⟨b10, 1, none⟩) (by simp) _
        have hv11 := setOf (setOf (HN10.out) 0 (.int .i64 (s2 : Int))) 1 (.map p2)
        rw [hy11] at hv11
        clear hy11 hc11_0 hf11_0 hc11_1 hf11_1
        have HBE : Hid (Below w7.heap.size w7 y11) := Lib.hid (HBE.out.trans (hm11.below (fun k hk => by have := HG10.out; have e := List.mem_singleton.1 hk; omega) HBE.out.size))
        have hSp := HSS.out _ HBE.out
        clear hHeld
        refine hK.out _ _ hSp (fun hHeld => ?_)
        clear hSp hK K
        try simp only [Act.put, List.setIfInBounds_toArray, List.set_cons_zero, List.set_cons_succ]
        simp only [List.setIfInBounds_toArray, List.set_cons_zero, List.set_cons_succ] at hv11
        have HN10 := Lib.hid hv11
        clear hv11 hm11
        refine wpAnyH_take (i := 12) (v := ?_) rfl (by kernel_rfl) (by kernel_rfl) (by kernel_rfl) (fun _ _ _ h => h) (Or.inl ⟨by rfl, ?_⟩) (by assumption) ?_
        rotate_left
        · (intro w hSw; (try dsimp only at hSw); simp only [List.getElem_toArray, List.getElem_cons_zero, List.getElem_cons_succ]; go_simp; first | done | with_reducible rfl)
        simp only [List.getElem_toArray, List.getElem_cons_zero, List.getElem_cons_succ, Act.put, List.setIfInBounds_toArray, List.set_cons_zero, List.set_cons_succ]
        refine wpAnyH_done (by kernel_rfl) ?_ _
        have HEND := Lib.hid hHeld.2
        have HSE := Lib.hid hHeld.1
        clear hHeld
        have HB8 := Lib.hid (bthen HB6.out (bthen HB67.out HEND.out))
        clear HEND HSE HSS
        rcases HCASE2.out with ⟨x2, hg2, rfl, rfl, rfl⟩ | ⟨hg2, rfl, rfl, rfl⟩
        · have HR : Hid (refD (strip l) o = 7) := Lib.hid (by rw [HR1.out, getA_strip, hg2]; rfl)
          go_wp2_with fail
          go_ret
          exact ⟨by rw [HR.out]; rfl, HB8.out⟩
        · have HR : Hid (refD (strip l) o = 0) := Lib.hid (by rw [HR1.out, getA_strip, hg2]; rfl)
          go_wp2_with fail
          go_ret
          exact ⟨by rw [HR.out]; rfl, HB8.out⟩
      by_cases h7 : o.k = 7
      · have HPV : Hid (partV o = .iface 75 (.agg #[.int .i64 o.pl, .int .i64 o.count])) := Lib.hid (by unfold partV; rw [if_neg (by omega), if_neg h4, if_neg (by omega), if_neg (by omega), if_pos h7])
        have HR1 : Hid (refD (strip l) o = if (x.1.size : Int) < o.pl + o.count then 5 else 0) := Lib.hid (by rw [HR0.out, if_neg h4, if_neg (by omega), if_pos h7])
        have hpl := may_pl HQ.out (by omega)
        have hct := may_count HQ.out (by omega)
        have hsz : x.1.size ≤ 256 := (HD5.out.ok.vol (o.vol, x.1) (by unfold strip mapA; exact List.mem_map.2 ⟨_, getA_some HG.out, rfl⟩)).size
        clear h4 h1 h8 h7
        go_wp2_with fail
        refine (CP.out _).mono ?_
        rintro e w6 ⟨rfl, hb6⟩
        rw [HPV.out]
        have HB6 := Lib.hid (bthen HB5.out hb6)
        have HX6 := Lib.hid ((hb6.block w.heap.size (Array.getElem?_eq_some_iff.1 HX5.out).1).trans HX5.out)
        have HD6 := Lib.hid (HD5.out.below hb6)
        have hq0 : w6.cell? ⟨b10, 0, none⟩ = _ := (World.cell?_of_block (hb6.block b10 (World.block_lt_of_cell? y11 _ hp0))).trans hp0
        have hbl : b10 < w6.heap.size := World.block_lt_of_cell? w6 _ hq0
        obtain ⟨d0, d1, d2, d3, d4, d5, d6⟩ := op7 HX6.out
        clear c0 c1 c2 c3 c4 c5 c6 hp0 hb6
        have t1 := fun (z : Value) (T : TypeId) (w : World) => no_fork (t := 75) (by decide) z T w
        have t2 := fun (z : Value) (T : TypeId) (w : World) => no_row (t := 75) (by decide) z T w
        have t3 := as_space
        generalize o.pl = pl at *
        generalize o.count = ct at *
        generalize x.1.size = sz at *
        by_cases hgt : (sz : Int) < pl + ct
        · have HR : Hid (refD (strip l) o = 5) := Lib.hid (by rw [HR1.out, if_pos hgt])
          go_wp2_with fail
          go_ret
          exact ⟨by rw [HR.out]; rfl, balloc HB6.out _⟩
        · have HR : Hid (refD (strip l) o = 0) := Lib.hid (by rw [HR1.out, if_neg hgt])
          go_wp2_with fail
          go_ret
          exact ⟨by rw [HR.out]; rfl, balloc HB6.out _⟩
      by_cases h5 : o.k = 5 ∨ o.k = 6 ∨ o.k = 9
      · have HPV : Hid (partV o = .iface 74 (.agg #[.int .i64 o.pl, .int .i64 (rowC o)])) := Lib.hid (by
          unfold partV rowC
          rw [if_neg (by omega), if_neg h4]
          by_cases h55 : o.k = 5
          · rw [if_pos h55, if_pos h55]
          · rw [if_neg h55, if_pos (by omega), if_neg h55])
        have HR1 : Hid (refD (strip l) o = if 4 * (x.1.size : Int) < o.pl + rowC o then 5 else 0) := Lib.hid (by rw [HR0.out, if_neg h4, if_pos h5])
        have hpl := may_pl HQ.out (by omega)
        have hct := may_rowC HQ.out (by omega)
        have hsz : x.1.size ≤ 256 := (HD5.out.ok.vol (o.vol, x.1) (by unfold strip mapA; exact List.mem_map.2 ⟨_, getA_some HG.out, rfl⟩)).size
        clear h4 h1 h8 h7 h5
        go_wp2_with fail
        refine (CP.out _).mono ?_
        rintro e w6 ⟨rfl, hb6⟩
        rw [HPV.out]
        have HB6 := Lib.hid (bthen HB5.out hb6)
        have HX6 := Lib.hid ((hb6.block w.heap.size (Array.getElem?_eq_some_iff.1 HX5.out).1).trans HX5.out)
        have HD6 := Lib.hid (HD5.out.below hb6)
        have hq0 : w6.cell? ⟨b10, 0, none⟩ = _ := (World.cell?_of_block (hb6.block b10 (World.block_lt_of_cell? y11 _ hp0))).trans hp0
        have hbl : b10 < w6.heap.size := World.block_lt_of_cell? w6 _ hq0
        obtain ⟨d0, d1, d2, d3, d4, d5, d6⟩ := op7 HX6.out
        clear c0 c1 c2 c3 c4 c5 c6 hp0 hb6
        have t1 := fun (z : Value) (T : TypeId) (w : World) => no_fork (t := 74) (by decide) z T w
        have t2 := as_row
        generalize o.pl = pl at *
        generalize rowC o = ct at *
        generalize x.1.size = sz at *
        by_cases hgt : 4 * (sz : Int) < pl + ct
        · have HR : Hid (refD (strip l) o = 5) := Lib.hid (by rw [HR1.out, if_pos hgt])
          go_wp2_with fail
          go_ret
          exact ⟨by rw [HR.out]; rfl, balloc HB6.out _⟩
        · have HR : Hid (refD (strip l) o = 0) := Lib.hid (by rw [HR1.out, if_neg hgt])
          go_wp2_with fail
          go_ret
          exact ⟨by rw [HR.out]; rfl, balloc HB6.out _⟩
      have HR : Hid (refD (strip l) o = 0) := Lib.hid (by rw [HR0.out, if_neg h4, if_neg h5, if_neg h7])
      by_cases h3 : o.k = 3
      · have HPV : Hid (partV o = .iface 3 (.int .i64 o.size)) := Lib.hid (by unfold partV; rw [if_pos (.inr h3)])
        clear h3 h4 h5 h7 h1 h8
        go_wp2_with fail
        refine (CP.out _).mono ?_
        rintro e w6 ⟨rfl, hb6⟩
        rw [HPV.out]
        have HB6 := Lib.hid (bthen HB5.out hb6)
        have HX6 := Lib.hid ((hb6.block w.heap.size (Array.getElem?_eq_some_iff.1 HX5.out).1).trans HX5.out)
        have HD6 := Lib.hid (HD5.out.below hb6)
        have hq0 : w6.cell? ⟨b10, 0, none⟩ = _ := (World.cell?_of_block (hb6.block b10 (World.block_lt_of_cell? y11 _ hp0))).trans hp0
        have hbl : b10 < w6.heap.size := World.block_lt_of_cell? w6 _ hq0
        obtain ⟨d0, d1, d2, d3, d4, d5, d6⟩ := op7 HX6.out
        clear c0 c1 c2 c3 c4 c5 c6 hp0 hb6
        have t1 := fun (z : Value) (T : TypeId) (w : World) => no_fork (t := 3) (by decide) z T w
        have t2 := fun (z : Value) (T : TypeId) (w : World) => no_row (t := 3) (by decide) z T w
        have t3 := fun (z : Value) (T : TypeId) (w : World) => no_space (t := 3) (by decide) z T w
        go_wp2_with fail
        go_ret
        exact ⟨by rw [HR.out]; rfl, HB6.out⟩
      · have HPV : Hid (partV o = .nilIface) := Lib.hid (by unfold partV; rw [if_neg (by omega), if_neg h4, if_neg (by omega), if_neg (by omega), if_neg h7])
        clear h3 h4 h5 h7 h1 h8
        go_wp2_with fail
        refine (CP.out _).mono ?_
        rintro e w6 ⟨rfl, hb6⟩
        rw [HPV.out]
        have HB6 := Lib.hid (bthen HB5.out hb6)
        have HX6 := Lib.hid ((hb6.block w.heap.size (Array.getElem?_eq_some_iff.1 HX5.out).1).trans HX5.out)
        have HD6 := Lib.hid (HD5.out.below hb6)
        have hq0 : w6.cell? ⟨b10, 0, none⟩ = _ := (World.cell?_of_block (hb6.block b10 (World.block_lt_of_cell? y11 _ hp0))).trans hp0
        have hbl : b10 < w6.heap.size := World.block_lt_of_cell? w6 _ hq0
        obtain ⟨d0, d1, d2, d3, d4, d5, d6⟩ := op7 HX6.out
        clear c0 c1 c2 c3 c4 c5 c6 hp0 hb6
        have t1 := nil_fork
        have t2 := nil_row
        have t3 := nil_space
        go_wp2_with fail
        go_ret
        exact ⟨by rw [HR.out]; rfl, HB6.out⟩
    · have HG := Lib.hid hg
      clear hg
      have HR0 : Hid (refD (strip l) o = if o.k = 1 then 0 else 6) := Lib.hid (by
        unfold refD
        rw [if_neg (by rw [HQ.out]; simp), if_neg h8, getA_strip, HG.out]
        rfl)
      by_cases h1 : o.k = 1
      · have g1 : (o.k == 1) = true := by simp [h1]
        have HR : Hid (refD (strip l) o = 0) := Lib.hid (by rw [HR0.out, if_pos h1])
        have HPV : Hid (partV o = .iface 3 (.int .i64 o.size)) := Lib.hid (by unfold partV; rw [if_pos (.inl h1)])
        clear h1 h8
        go_wp2_with fail
        refine (CP.out _).mono ?_
        rintro e w6 ⟨rfl, hb6⟩
        rw [HPV.out]
        have HB6 := Lib.hid (bthen HB5.out hb6)
        have HX6 := Lib.hid ((hb6.block w.heap.size (Array.getElem?_eq_some_iff.1 HX5.out).1).trans HX5.out)
        have HD6 := Lib.hid (HD5.out.below hb6)
        have hq0 : w6.cell? ⟨b10, 0, none⟩ = _ := (World.cell?_of_block (hb6.block b10 (World.block_lt_of_cell? y11 _ hp0))).trans hp0
        have hbl : b10 < w6.heap.size := World.block_lt_of_cell? w6 _ hq0
        obtain ⟨d0, d1, d2, d3, d4, d5, d6⟩ := op7 HX6.out
        clear c0 c1 c2 c3 c4 c5 c6 hp0 hb6
        have t1 := fun (z : Value) (T : TypeId) (w : World) => no_fork (t := 3) (by decide) z T w
        have t2 := fun (z : Value) (T : TypeId) (w : World) => no_row (t := 3) (by decide) z T w
        have t3 := fun (z : Value) (T : TypeId) (w : World) => no_space (t := 3) (by decide) z T w
        go_wp2_with fail
        go_ret
        exact ⟨by rw [HR.out]; rfl, HB6.out⟩
      · have g1 := bneI h1
        have HR : Hid (refD (strip l) o = 6) := Lib.hid (by rw [HR0.out, if_neg h1])
        clear h1 h8
        go_wp2_with fail
        go_ret
        exact ⟨by rw [HR.out]; rfl, HB5.out⟩
end Go.Proofs.Ythkmihedkddnmaa
