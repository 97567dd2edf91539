import Derived.Test.YtgmahhdnjikdjaaGreatVG18
import Derived.Test.YtgmahhdnjikdjaaGreatVG14
set_option linter.unusedVariables false
set_option linter.unusedSimpArgs false
/- block.May, Find, walked. -/
namespace Go.Proofs.YtgmahhdnjikdjaaGreat
open Go.RowKit Go.Maps Wire
set_option linter.unusedVariables false
set_option linter.unusedSimpArgs false
/-- May a node be? -/
structure Nd.Ok (y : Nd) : Prop where
 k : 1 ≤ y.k ∧ y.k ≤ 3
 n : y.keys.length ≤ 6
 m : y.vals.length = y.keys.length
 up : ∀ (i a b : Nat), y.keys[i]? = some a → y.keys[i + 1]? = some b → a < b
 ku : ∀ x ∈ y.keys, x < 18446744073709551616
 vu : ∀ x ∈ y.vals, x < 18446744073709551616
theorem rd_at {w : World} {ao : Option Addr} {n c : Nat} {xs : List Nat} (h : Rd w 1 (.slice ao n c) n (qV xs)) (h0 : 0 < xs.length) : ∃ b0 off, ao = some ⟨b0, off, none⟩ ∧ b0 < w.heap.size ∧ ∀ (j x : Nat), xs[j]? = some x → w.cell? ⟨b0, off + j, none⟩ = some (.int .u64 (x : Int)) := by
 obtain ⟨ao', c', he, _, _, _, hc⟩ := h
 obtain ⟨rfl, _, _⟩ := Value.slice.inj he
 obtain ⟨b0, off, ha, hl, _⟩ := hc 0 _ (qV_get (List.getElem?_eq_getElem h0))
 refine ⟨b0, off, ha, hl, fun j x hx => ?_⟩
 obtain ⟨b1, o1, ha1, h1, h2⟩ := hc j _ (qV_get hx)
 rw [ha] at ha1
 obtain ⟨rfl, rfl, _⟩ := Addr.mk.inj (Option.some.inj ha1)
 exact h2
theorem rd_len {w : World} {v : Value} {n : Nat} {xs : List Nat} (h : Rd w 1 v n (qV xs)) : xs.length = n := by
 obtain ⟨_, _, _, hl, _⟩ := h
 simpa [qV_len] using hl
set_option maxRecDepth 100000 in
set_option maxHeartbeats 6400000 in
theorem bmay_yes (w : World) (y : Nd) (hy : y.Ok) (v1 v2 : Value) (h1 : Rd w 1 v1 y.keys.length (qV y.keys)) (h2 : Rd w 1 v2 y.vals.length (qV y.vals)) :
  Calls Tryz.prog 124 #[.agg #[.int .i64 y.k, .int .u64 (y.b : Int), v1, v2]] w fun e w' => e = .returned (.bool true) ∧ Below w.heap.size w w' := by
 obtain ⟨k1, k2⟩ := hy.k
 have hn := hy.n
 have hm := hy.m
 have HUP := Lib.hid hy.up
 obtain ⟨a1, c1, rfl, _⟩ := id h1
 obtain ⟨a2, c2, rfl, _⟩ := id h2
 rw [hm] at h2
 obtain ⟨kd, hkd⟩ : ∃ x, y.k = x := ⟨_, rfl⟩
 obtain ⟨bb, hbb⟩ : ∃ x, y.b = x := ⟨_, rfl⟩
 obtain ⟨ks, hks⟩ : ∃ x, y.keys = x := ⟨_, rfl⟩
 rw [hm]
 rw [hkd] at k1 k2
 rw [hks] at hn HUP h1
 rw [hkd, hbb, hks]
 obtain ⟨n, hnn⟩ : ∃ n, ks.length = n := ⟨_, rfl⟩
 rw [hnn] at hn h1
 rw [hnn]
 have HN := Lib.hid hnn
 have HR := Lib.hid h1
 obtain ⟨w1, hw1⟩ : ∃ W, w.alloc (.cells #[.int .i64 kd, .int .u64 (bb : Int), .slice a1 n c1, .slice a2 n c2] 159) = W := ⟨_, rfl⟩
 have hb1 : Below w.heap.size w w1 := by rw [← hw1]; exact balloc (Below.refl _ _) _
 have hx1 : w1.heap[w.heap.size]? = some (.cells #[.int .i64 kd, .int .u64 (bb : Int), .slice a1 n c1, .slice a2 n c2] 159 (0, 0)) := by rw [← hw1]; exact heap_alloc_new _ _
 have HB1 := Lib.hid hb1
 have HX1 := Lib.hid hx1
 have HR1 := Lib.hid (h1.below hb1)
 have d0 := cellOf hx1 0 (v := .int .i64 kd) rfl
 have d2 := cellOf hx1 2 (v := .slice a1 n c1) rfl
 have d3 := cellOf hx1 3 (v := .slice a2 n c2) rfl
 clear hb1 hx1 h1 h2 hm hkd hbb hks hnn hy
 go_enter Tryz.func124, Tryz.ntmps124
 go_wp2_with fail
 (try rw [hw1])
 clear hw1 d0 d2 d3
 go_loopw [3] (fun v wr => ∃ i : Nat, 1 ≤ i ∧ (i ≤ n ∨ i = 1) ∧ v = .int .i64 (i : Int) ∧ Below w1.heap.size w1 wr) (fun v _ => n + 1 - (Go.RowKit.intOf v).toNat)
 case atStart => exact ⟨1, by omega, by omega, rfl, Below.refl _ _⟩
 case round =>
  obtain ⟨i, hi1, hi2, rfl, hbr⟩ := hrel
  have HX := Lib.hid ((hbr.block _ (Array.getElem?_eq_some_iff.1 HX1.out).1).trans HX1.out)
  have HRR := Lib.hid (HR1.out.below hbr)
  have HBR := Lib.hid hbr
  have d2 := cellOf HX.out 2 (v := .slice a1 n c1) rfl
  clear hbr
  by_cases hlt : i < n
  ·obtain ⟨b0, off, rfl, hbl, hcell⟩ := rd_at HRR.out (by rw [HN.out]; omega)
   obtain ⟨x, hx⟩ : ∃ x, ks[i - 1]? = some x := ⟨_, List.getElem?_eq_getElem (by rw [HN.out]; omega)⟩
   obtain ⟨z, hz⟩ : ∃ z, ks[i]? = some z := ⟨_, List.getElem?_eq_getElem (by rw [HN.out]; omega)⟩
   have e1 := hcell _ _ hx
   have e2 := hcell _ _ hz
   have hxz := HUP.out (i - 1) x z hx (by rw [show i - 1 + 1 = i by omega]; exact hz)
   obtain ⟨j, rfl⟩ : ∃ j, i = j + 1 := ⟨i - 1, by omega⟩
   rw [Nat.add_sub_cancel] at e1 hx
   have hc1 : ((j + 1 : Nat) : Int) - 1 = (j : Int) := by omega
   have hj1 : (j : Int) < (n : Int) := by omega
   have hwj : IntKind.i64.wrap (j : Int) = (j : Int) := IntWalk.i64_in _ ⟨by omega, by omega⟩
   have h0j : 0 ≤ (j : Int) + 1 := by omega
   have hdn : decide ((z : Int) ≤ (x : Int)) = false := decide_eq_false (by omega)
   have hdn2 : decide (z ≤ x) = false := decide_eq_false (by omega)
   have HE1 := Lib.hid e1
   have HE2 := Lib.hid e2
   have HBL := Lib.hid hbl
   have HXL : Hid (w.heap.size < wr.heap.size) := Lib.hid (Array.getElem?_eq_some_iff.1 HX.out).1
   clear hcell hx hz hbl e1 e2
   go_wp2_with fail
   clear d2
   have HSS : Hid (∀ X, Below wr.heap.size wr X → (X.cell? ⟨w.heap.size, 2, none⟩ = some (.slice (some ⟨b0, off, none⟩) n c1) ∧ X.cell? ⟨b0, off + j, none⟩ = some (.int .u64 (x : Int)) ∧ X.cell? ⟨b0, off + (j + 1), none⟩ = some (.int .u64 (z : Int))) ∧ Below wr.heap.size wr X) := Lib.hid (fun X hb => ⟨⟨(World.cell?_of_block (hb.block _ (HXL.out))).trans (cellOf HX.out 2 rfl), (World.cell?_of_block (hb.block _ (HBL.out))).trans (HE1.out), (World.cell?_of_block (hb.block _ (HBL.out))).trans (HE2.out)⟩, hb⟩)
   refine wp_region_held_drew (S := fun X => (X.cell? ⟨w.heap.size, 2, none⟩ = some (.slice (some ⟨b0, off, none⟩) n c1) ∧ X.cell? ⟨b0, off + j, none⟩ = some (.int .u64 (x : Int)) ∧ X.cell? ⟨b0, off + (j + 1), none⟩ = some (.int .u64 (z : Int))) ∧ Below wr.heap.size wr X) (by kernel_rfl) (HSS.out _ (Below.refl _ _).drew) (fun hHeld => ?_)
   have hbe : Below wr.heap.size wr wr.drew := (Below.refl _ _).drew
   obtain ⟨wd, hwd⟩ : ∃ y, wr.drew = y := ⟨_, rfl⟩
   rw [hwd] at hHeld hbe ⊢
   have HBE := Lib.hid hbe
   have HS0 : Hid (wr.heap.size ≤ wd.heap.size) := Lib.hid HBE.out.size
   clear hwd hbe
   refine wpAnyH_take (i := 0) (v := ?_) rfl (by kernel_rfl) (by kernel_rfl) (by kernel_rfl) (fun _ _ _ h => h) (Or.inl ⟨by rfl, ?_⟩) (by assumption) ?_
   rotate_left
   ·(intro w hSw; (try dsimp only at hSw); simp only [List.getElem_toArray, List.getElem_cons_zero, List.getElem_cons_succ]; go_simp; first | done | with_reducible rfl)
   simp only [List.getElem_toArray, List.getElem_cons_zero, List.getElem_cons_succ, Act.put, List.setIfInBounds_toArray, List.set_cons_zero, List.set_cons_succ]
   refine wpAnyH_take (i := 2) (v := ?_) rfl (by kernel_rfl) (by kernel_rfl) (by kernel_rfl) (fun _ _ _ h => h) (Or.inl ⟨by rfl, ?_⟩) (by assumption) ?_
   rotate_left
   ·(intro w hSw; (try dsimp only at hSw); simp only [List.getElem_toArray, List.getElem_cons_zero, List.getElem_cons_succ]; go_simp; first | done | with_reducible rfl)
   simp only [List.getElem_toArray, List.getElem_cons_zero, List.getElem_cons_succ, Act.put, List.setIfInBounds_toArray, List.set_cons_zero, List.set_cons_succ]
   refine wpAnyH_take (i := 6) (v := ?_) rfl (by kernel_rfl) (by kernel_rfl) (by kernel_rfl) (fun _ _ _ h => h) (Or.inl ⟨by rfl, ?_⟩) (by assumption) ?_
   rotate_left
   ·(intro w hSw; (try dsimp only at hSw); simp only [List.getElem_toArray, List.getElem_cons_zero, List.getElem_cons_succ]; go_simp; first | done | with_reducible rfl)
   simp only [List.getElem_toArray, List.getElem_cons_zero, List.getElem_cons_succ, Act.put, List.setIfInBounds_toArray, List.set_cons_zero, List.set_cons_succ]
   refine wpAnyH_take (i := 8) (v := ?_) rfl (by kernel_rfl) (by kernel_rfl) (by kernel_rfl) (fun _ _ _ h => h) (Or.inl ⟨by rfl, ?_⟩) (by assumption) ?_
   rotate_left
   ·(intro w hSw; (try dsimp only at hSw); simp only [List.getElem_toArray, List.getElem_cons_zero, List.getElem_cons_succ]; go_simp; first | done | with_reducible rfl)
   simp only [List.getElem_toArray, List.getElem_cons_zero, List.getElem_cons_succ, Act.put, List.setIfInBounds_toArray, List.set_cons_zero, List.set_cons_succ]
   refine wpAnyH_take (i := 1) (v := ?_) rfl (by kernel_rfl) (by kernel_rfl) (by kernel_rfl) (fun _ _ _ h => h) (Or.inl ⟨by rfl, ?_⟩) (by assumption) ?_
   rotate_left
   ·(intro w hSw; (try dsimp only at hSw); simp only [List.getElem_toArray, List.getElem_cons_zero, List.getElem_cons_succ]; go_simp; first | done | with_reducible rfl)
   simp only [List.getElem_toArray, List.getElem_cons_zero, List.getElem_cons_succ, Act.put, List.setIfInBounds_toArray, List.set_cons_zero, List.set_cons_succ]
   refine wpAnyH_take (i := 3) (v := ?_) rfl (by kernel_rfl) (by kernel_rfl) (by kernel_rfl) (fun _ _ _ h => h) (Or.inl ⟨by rfl, ?_⟩) (by assumption) ?_
   rotate_left
   ·(intro w hSw; (try dsimp only at hSw); simp only [List.getElem_toArray, List.getElem_cons_zero, List.getElem_cons_succ]; go_simp; first | done | with_reducible rfl)
   simp only [List.getElem_toArray, List.getElem_cons_zero, List.getElem_cons_succ, Act.put, List.setIfInBounds_toArray, List.set_cons_zero, List.set_cons_succ]
   refine wpAnyH_take (i := 7) (v := ?_) rfl (by kernel_rfl) (by kernel_rfl) (by kernel_rfl) (fun _ _ _ h => h) (Or.inl ⟨by rfl, ?_⟩) (by assumption) ?_
   rotate_left
   ·(intro w hSw; (try dsimp only at hSw); simp only [List.getElem_toArray, List.getElem_cons_zero, List.getElem_cons_succ]; go_simp; first | done | with_reducible rfl)
   simp only [List.getElem_toArray, List.getElem_cons_zero, List.getElem_cons_succ, Act.put, List.setIfInBounds_toArray, List.set_cons_zero, List.set_cons_succ]
   refine wpAnyH_take (i := 4) (v := ?_) rfl (by kernel_rfl) (by kernel_rfl) (by kernel_rfl) (fun _ _ _ h => h) (Or.inl ⟨by rfl, ?_⟩) (by assumption) ?_
   rotate_left
   ·(intro w hSw; (try dsimp only at hSw); simp only [List.getElem_toArray, List.getElem_cons_zero, List.getElem_cons_succ]; go_simp; first | done | with_reducible rfl)
   simp only [List.getElem_toArray, List.getElem_cons_zero, List.getElem_cons_succ, Act.put, List.setIfInBounds_toArray, List.set_cons_zero, List.set_cons_succ]
   refine wpAnyH_take (i := 9) (v := ?_) rfl (by kernel_rfl) (by kernel_rfl) (by kernel_rfl) (fun _ _ _ h => h) (Or.inl ⟨by rfl, ?_⟩) (by assumption) ?_
   rotate_left
   ·(intro w hSw; (try dsimp only at hSw); simp only [List.getElem_toArray, List.getElem_cons_zero, List.getElem_cons_succ]; go_simp; first | done | with_reducible rfl)
   simp only [List.getElem_toArray, List.getElem_cons_zero, List.getElem_cons_succ, Act.put, List.setIfInBounds_toArray, List.set_cons_zero, List.set_cons_succ]
   refine wpAnyH_take (i := 5) (v := ?_) rfl (by kernel_rfl) (by kernel_rfl) (by kernel_rfl) (fun _ _ _ h => h) (Or.inl ⟨by rfl, ?_⟩) (by assumption) ?_
   rotate_left
   ·(intro w hSw; (try dsimp only at hSw); simp only [List.getElem_toArray, List.getElem_cons_zero, List.getElem_cons_succ]; go_simp; first | done | with_reducible rfl)
   simp only [List.getElem_toArray, List.getElem_cons_zero, List.getElem_cons_succ, Act.put, List.setIfInBounds_toArray, List.set_cons_zero, List.set_cons_succ]
   refine wpAnyH_take (i := 10) (v := ?_) rfl (by kernel_rfl) (by kernel_rfl) (by kernel_rfl) (fun _ _ _ h => h) (Or.inl ⟨by rfl, ?_⟩) (by assumption) ?_
   rotate_left
   ·(intro w hSw; (try dsimp only at hSw); simp only [List.getElem_toArray, List.getElem_cons_zero, List.getElem_cons_succ]; go_simp; first | done | with_reducible rfl)
   simp only [List.getElem_toArray, List.getElem_cons_zero, List.getElem_cons_succ, Act.put, List.setIfInBounds_toArray, List.set_cons_zero, List.set_cons_succ]
   refine wpAnyH_take (i := 11) (v := ?_) rfl (by kernel_rfl) (by kernel_rfl) (by kernel_rfl) (fun _ _ _ h => h) (Or.inl ⟨by rfl, ?_⟩) (by assumption) ?_
   rotate_left
   ·(intro w hSw; (try dsimp only at hSw); simp only [List.getElem_toArray, List.getElem_cons_zero, List.getElem_cons_succ]; go_simp; first | done | with_reducible rfl)
   simp only [List.getElem_toArray, List.getElem_cons_zero, List.getElem_cons_succ, Act.put, List.setIfInBounds_toArray, List.set_cons_zero, List.set_cons_succ]
   refine wpAnyH_done (by kernel_rfl) ?_ _
   have HEND := Lib.hid hHeld.2
   have HSE := Lib.hid hHeld.1
   clear hHeld
   clear HSS HSE HEND
   go_wp2_with fail
   go_roundw
   case rel => exact ⟨j + 1 + 1, by omega, by omega, by go_num, bthn HBR.out HBE.out⟩
   case measure => simp [Go.RowKit.intOf]; omega
  ·go_wp2_with fail
   go_ret
   exact ⟨rfl, bthn HB1.out HBR.out⟩
/-- A key's place. -/
def findI (ks : List Nat) (x : Nat) : Nat := (ks.takeWhile (· < x)).length
/-- Keys that rise: those ahead of a place are below, the others are not. -/
def Rises (ks : List Nat) : Prop := ∀ (i j a b : Nat), i < j → ks[i]? = some a → ks[j]? = some b → a < b
theorem findI_of {ks : List Nat} {x i : Nat} (hi : i ≤ ks.length) (h1 : ∀ (j a : Nat), j < i → ks[j]? = some a → a < x) (h2 : ∀ a, ks[i]? = some a → ¬ a < x) : findI ks x = i := by
 induction ks generalizing i with
 | nil => simp at hi; subst hi; rfl
 | cons k ks ih =>
  unfold findI at ih ⊢
  cases i with
  | zero =>
   have := h2 k rfl
   simp [List.takeWhile_cons, this]
  | succ i =>
   have hk := h1 0 k (by omega) rfl
   have h3 := ih (i := i) (by simpa using hi) (fun j a hj ha => h1 (j + 1) a (by omega) (by simpa using ha)) (fun a ha => h2 a (by simpa using ha))
   simp [List.takeWhile_cons, hk, h3]
set_option maxRecDepth 100000 in
set_option maxHeartbeats 1600000 in
theorem nan64b (w : World) (a : Int) : Calls Tryz.prog 188 #[.int .u64 a] w fun e w' => e = .returned (.bool false) ∧ w = w' := by
 go_enter Tryz.func188, Tryz.ntmps188
 go_wp2_with fail
 go_ret
 exact ⟨rfl, rfl⟩
set_option maxRecDepth 100000 in
set_option maxHeartbeats 1600000 in
theorem snan64 (w : World) (a : Int) : Calls Tryz.prog 160 #[.int .u64 a] w fun e w' => e = .returned (.bool false) ∧ w = w' := by
 go_enter Tryz.func160, Tryz.ntmps160
 go_wp2_with fail
 go_ret
 exact ⟨rfl, rfl⟩
set_option maxRecDepth 100000 in
set_option maxHeartbeats 1600000 in
theorem less64 (w : World) (a b : Nat) : Calls Tryz.prog 159 #[.int .u64 (a : Int), .int .u64 (b : Int)] w fun e w' => e = .returned (.bool (decide (a < b))) ∧ w = w' := by
 have C1 := nan64b w a
 go_enter Tryz.func159, Tryz.ntmps159
 go_wp2_with fail
 refine C1.mono ?_
 rintro e w2 ⟨rfl, rfl⟩
 clear C1
 go_wp2_with fail
 go_ret
 exact ⟨by simp, rfl⟩
set_option maxRecDepth 100000 in
set_option maxHeartbeats 6400000 in
theorem bs_at (w : World) (v : Value) (n : Nat) (ks : List Nat) (hr : Rd w 1 v n (qV ks)) (hn : n ≤ 1000) (hs : Rises ks) (x : Nat) :
  Calls Tryz.prog 123 #[v, .int .u64 (x : Int)] w fun e w' => e = .returned (.tuple #[.int .i64 (findI ks x : Int), .bool (decide (ks[findI ks x]? = some x))]) ∧ w = w' := by
 have hl := rd_len hr
 obtain ⟨ao, c, rfl, _⟩ := id hr
 have HR := Lib.hid hr
 have HS := Lib.hid hs
 have HL := Lib.hid hl
 clear hr hs hl
 go_enter Tryz.func123, Tryz.ntmps123
 go_wp2_with fail
 go_loopw [7, 8] (fun u v wr => ∃ i j : Nat, i ≤ j ∧ j ≤ n ∧ u = .int .i64 (i : Int) ∧ v = .int .i64 (j : Int) ∧ (∀ (t a : Nat), t < i → ks[t]? = some a → a < x) ∧ (∀ (t a : Nat), j ≤ t → ks[t]? = some a → ¬ a < x) ∧ w = wr) (fun u v _ => (Go.RowKit.intOf v).toNat - (Go.RowKit.intOf u).toNat)
 case atStart => exact ⟨0, n, by omega, by omega, rfl, rfl, fun t a ht => by omega, fun t a ht ha => by have := (List.getElem?_eq_some_iff.1 ha).1; have := HL.out; omega, rfl⟩
 case round =>
  obtain ⟨i, j, hij, hjn, rfl, rfl, h1, h2, rfl⟩ := hrel
  have H1 := Lib.hid h1
  have H2 := Lib.hid h2
  clear h1 h2
  by_cases hlt : i < j
  ·obtain ⟨m, hm⟩ : ∃ m, (i + j) / 2 = m := ⟨_, rfl⟩
   have hmi : i ≤ m ∧ m < j := by omega
   obtain ⟨z, hz⟩ : ∃ z, ks[m]? = some z := ⟨_, List.getElem?_eq_getElem (by rw [HL.out]; omega)⟩
   obtain ⟨b0, off, rfl, hbl, hcell⟩ := rd_at HR.out (by rw [HL.out]; omega)
   have e1 := hcell m z hz
   have hme : ((i : Int) + (j : Int)) / 2 = (m : Int) := by omega
   have CL := less64 w z x
   have HZ := Lib.hid hz
   have hmn : (m : Int) < (n : Int) := by omega
   clear hcell hz hbl hm
   go_wp2_with fail
   refine CL.mono ?_
   rintro e w2 ⟨rfl, rfl⟩
   clear CL
   by_cases hzx : z < x
   ·go_wp2_with fail
    go_roundw
    case rel => exact ⟨m + 1, j, by omega, by omega, by go_num, rfl, fun t a ht ha => by
      rcases Nat.lt_or_ge t m with h | h
      ·exact Nat.lt_trans (HS.out t m a z h ha HZ.out) hzx
      ·obtain rfl : t = m := by omega
       rw [HZ.out] at ha
       cases ha
       exact hzx, H2.out, trivial⟩
    case measure => simp [Go.RowKit.intOf]; omega
   ·go_wp2_with fail
    go_roundw
    case rel => exact ⟨i, m, by omega, by omega, rfl, rfl, H1.out, fun t a ht ha => by
      rcases Nat.lt_or_ge m t with h | h
      ·have := HS.out m t z a h HZ.out ha
       omega
      ·obtain rfl : t = m := by omega
       rw [HZ.out] at ha
       cases ha
       exact hzx, trivial⟩
    case measure => simp [Go.RowKit.intOf]; omega
  ·obtain rfl : i = j := by omega
   have HF : Hid (findI ks x = i) := Lib.hid (findI_of (by rw [HL.out]; exact hjn) H1.out (fun a ha => H2.out i a (Nat.le_refl _) ha))
   rcases Nat.lt_or_ge i n with hin | hin
   ·obtain ⟨z, hz⟩ : ∃ z, ks[i]? = some z := ⟨_, List.getElem?_eq_getElem (by rw [HL.out]; omega)⟩
    obtain ⟨b0, off, rfl, hbl, hcell⟩ := rd_at HR.out (by rw [HL.out]; omega)
    have e1 := hcell i z hz
    have HZ := Lib.hid hz
    by_cases hzx : z = x
    ·subst hzx
     clear hcell hz hbl
     go_wp2_with fail
     go_ret2
     exact ⟨by rw [HF.out, HZ.out]; simp, rfl⟩
    ·have CN := snan64 w z
     have hzx2 : ¬ ((z : Int) = (x : Int)) := by omega
     clear hcell hz hbl
     go_wp2_with fail
     refine CN.mono ?_
     rintro e w2 ⟨rfl, rfl⟩
     clear CN
     go_wp2_with fail
     go_ret2
     exact ⟨by rw [HF.out, HZ.out]; simp [hzx, hzx2], rfl⟩
   ·go_wp2_with fail
    go_ret2
    exact ⟨by rw [HF.out, List.getElem?_eq_none (by rw [HL.out]; omega)]; simp, rfl⟩
theorem rises_up {ks : List Nat} (h : ∀ (i a b : Nat), ks[i]? = some a → ks[i + 1]? = some b → a < b) : Rises ks := by
 intro i j a b hij ha hb
 obtain ⟨d, rfl⟩ : ∃ d, j = i + 1 + d := ⟨j - i - 1, by omega⟩
 clear hij
 induction d generalizing b with
 | zero => exact h i a b ha hb
 | succ d ih =>
  have hl := (List.getElem?_eq_some_iff.1 hb).1
  obtain ⟨c, hc⟩ : ∃ c, ks[i + 1 + d]? = some c := ⟨_, List.getElem?_eq_getElem (by omega)⟩
  exact Nat.lt_trans (ih c hc) (h (i + 1 + d) c b hc hb)
set_option maxRecDepth 100000 in
set_option maxHeartbeats 6400000 in
theorem find_at (w : World) (y : Nd) (v1 v2 : Value) (hn : y.keys.length ≤ 1000) (hs : Rises y.keys) (h1 : Rd w 1 v1 y.keys.length (qV y.keys)) (x : Nat) :
  Calls Tryz.prog 75 #[.agg #[.int .i64 y.k, .int .u64 (y.b : Int), v1, v2], .int .u64 (x : Int)] w fun e w' => e = .returned (.tuple #[.int .i64 (findI y.keys x : Int), .bool (decide (y.keys[findI y.keys x]? = some x))]) ∧ Below w.heap.size w w' := by
 obtain ⟨a1, c1, rfl, _⟩ := id h1
 obtain ⟨kd, hkd⟩ : ∃ x, y.k = x := ⟨_, rfl⟩
 obtain ⟨bb, hbb⟩ : ∃ x, y.b = x := ⟨_, rfl⟩
 obtain ⟨ks, hks⟩ : ∃ x, y.keys = x := ⟨_, rfl⟩
 rw [hks] at hn hs h1
 rw [hkd, hbb, hks]
 obtain ⟨n, hnn⟩ : ∃ n, ks.length = n := ⟨_, rfl⟩
 rw [hnn] at hn h1
 rw [hnn]
 obtain ⟨w1, hw1⟩ : ∃ W, w.alloc (.cells #[.int .i64 kd, .int .u64 (bb : Int), .slice a1 n c1, v2] 159) = W := ⟨_, rfl⟩
 have hb1 : Below w.heap.size w w1 := by rw [← hw1]; exact balloc (Below.refl _ _) _
 have hx1 : w1.heap[w.heap.size]? = some (.cells #[.int .i64 kd, .int .u64 (bb : Int), .slice a1 n c1, v2] 159 (0, 0)) := by rw [← hw1]; exact heap_alloc_new _ _
 have HB1 := Lib.hid hb1
 have d2 := cellOf hx1 2 (v := .slice a1 n c1) rfl
 have CB := bs_at w1 (.slice a1 n c1) n ks (h1.below hb1) hn hs x
 clear hb1 hx1 h1 hs hnn hkd hbb hks hn
 go_enter Tryz.func75, Tryz.ntmps75
 go_wp2_with fail
 (try rw [hw1])
 go_wp2_with fail
 refine CB.mono ?_
 rintro e w2 ⟨rfl, rfl⟩
 clear CB hw1 d2
 go_wp2_with fail
 go_ret2
 exact ⟨rfl, HB1.out⟩
end Go.Proofs.YtgmahhdnjikdjaaGreat
/- A store in memory with its fresh nodes; ready, is, Node of a fresh block, walked. -/
namespace Go.Proofs.YtgmahhdnjikdjaaGreat
open Go.RowKit Go.Maps Wire
set_option linter.unusedVariables false
set_option linter.unusedSimpArgs false
/-- A node's blocks. -/
def obN (x : NdV) : List Nat := ob (slO x.g1 x.n1 x.c1) ++ ob (slO x.g2 x.n2 x.c2)
/-- A store's own blocks. -/
def stF (S mf md : Nat) (Fm Fd : List Nat) : List Nat := S :: mf :: md :: (Fm ++ Fd)
/-- A store in memory, with its fresh nodes. -/
structure StF (w : World) (S B pm pd mf md : Nat) (s : Su) (A D : M) (Fm Fd : List Nat) (l : List (Nat × (NdV × Nd))) : Prop where
 st : StB w S B pm pd mf md s A D Fm Fd false
 map : MapL w Tryz.prog 22 RNd .u32 (fun p : NdV × Nd => ndD p.1) mf l
 nd : ∀ p ∈ l, NdAt w 0 p.2.1 p.2.2
 sep : ∀ p ∈ l, ∀ j ∈ obN p.2.1, j ∉ stF S mf md Fm Fd
 mdl : md < w.heap.size
 nS : S ∉ mf :: md :: (Fm ++ Fd)
 nm : mf ∉ md :: (Fm ++ Fd)
 dj : ∀ k ∈ Fd, k ∉ Fm
theorem NdAt.at_ {w w' : World} {base : Nat} {x : NdV} {y : Nd} (h : NdAt w base x y) (hb : ∀ j ∈ obN x, w'.heap[j]? = w.heap[j]?) : NdAt w' base x y :=
 ⟨h.k, h.b, h.n1, h.n2, ownsRow_at h.r1 (fun j hj => hb j (List.mem_append_left _ hj)), ownsRow_at h.r2 (fun j hj => hb j (List.mem_append_right _ hj)), h.dj⟩
theorem NdAt.lt {w : World} {base : Nat} {x : NdV} {y : Nd} (h : NdAt w base x y) : ∀ j ∈ obN x, j < w.heap.size := fun j hj => by
 rcases List.mem_append.1 hj with h1 | h1
 ·exact ownsRow_lt h.r1 j h1
 ·exact ownsRow_lt h.r2 j h1
section
variable {w w' : World} {S B pm pd mf md : Nat} {s : Su} {A D : M} {Fm Fd : List Nat} {l : List (Nat × (NdV × Nd))}
theorem StF.below (h : StF w S B pm pd mf md s A D Fm Fd l) (hb : Below w.heap.size w w') : StF w' S B pm pd mf md s A D Fm Fd l :=
 ⟨h.st.below hb, h.map.below hb, fun p hp => (h.nd p hp).at_ (fun j hj => hb.block j ((h.nd p hp).lt j hj)), h.sep, Nat.lt_of_lt_of_le h.mdl hb.size, h.nS, h.nm, h.dj⟩
theorem StF.lt (h : StF w S B pm pd mf md s A D Fm Fd l) : ∀ j ∈ stF S mf md Fm Fd, j < w.heap.size := fun j hj => by
 rcases List.mem_cons.1 hj with rfl | hj
 ·exact (Array.getElem?_eq_some_iff.1 h.st.box).1
 ·rcases List.mem_cons.1 hj with rfl | hj
  ·exact h.map.lt
  ·rcases List.mem_cons.1 hj with rfl | hj
   ·exact h.mdl
   ·rcases List.mem_append.1 hj with hj | hj
    ·exact h.st.ma.lt _ hj
    ·exact h.st.da.lt _ hj
theorem undU32 : Tryz.prog.underlying 22 = some (.int .u32) := by kernel_rfl
theorem undFr : Tryz.prog.underlying 140 = some (.map 22 159) := by kernel_rfl
def ndO : NdV := ⟨0, 0, none, 0, 0, none, 0, 0⟩
theorem zeroNd (w : World) : (zeroValue 159).run Tryz.prog w = .ok (ndA ndO) w := by kernel_rfl
theorem wf32 {n : Nat} (h : n < 4294967296) : (Lit.int .u32 (n : Int)).wf = true := by
 have e1 : IntKind.u32.min = 0 := rfl
 have e2 : IntKind.u32.max = 4294967295 := rfl
 simp [Lit.wf, e1, e2]
 omega
/-- A fresh node, looked up. -/
theorem StF.look (h : StF w S B pm pd mf md s A D Fm Fd l) {n : Nat} (hn : n < 4294967296) {x : NdV × Nd} (hg : getA n l = some x) :
  (Instr.lookup 140 (.map (some mf)) (.int .u32 (n : Int)) true).run Tryz.prog w = .ok (.tuple #[ndA x.1, .bool true]) w ∧
  (Instr.lookup 140 (.map (some mf)) (.int .u32 (n : Int)) false).run Tryz.prog w = .ok (ndA x.1) w := by
 obtain ⟨v, ps, h1, h2⟩ := h.map.lookOk undU32 undFr (zeroNd w) (RNd_mk ndO) (wf32 hn)
 obtain ⟨v', ps', h3, h4⟩ := h.map.look undU32 undFr (zeroNd w) (RNd_mk ndO) (wf32 hn)
 rw [hg] at h1 h2 h4
 obtain ⟨rfl, _⟩ := RNd_inv h2
 obtain ⟨rfl, _⟩ := RNd_inv h4
 exact ⟨h1, h3⟩
end
set_option maxRecDepth 100000 in
set_option maxHeartbeats 3200000 in
theorem sready_at {w : World} {S B pm pd mf md : Nat} {s : Su} {A D : M} {Fm Fd : List Nat} (h : StB w S B pm pd mf md s A D Fm Fd false) : Calls Tryz.prog 81 #[.pointer (some ⟨S, 0, none⟩)] w fun e w' => e = .returned (.int .i64 0) ∧ w = w' := by
 have c0 := cellOf h.box 0 (v := .pointer (some ⟨B, 0, none⟩)) rfl
 have c1 := cellOf h.box 24 (v := .bool false) rfl
 clear h
 go_enter Tryz.func81, Tryz.ntmps81
 go_wp2_with fail
 go_ret
 exact ⟨rfl, rfl⟩
set_option maxRecDepth 100000 in
set_option maxHeartbeats 3200000 in
theorem sis_at {w : World} {S B pm pd mf md : Nat} {s : Su} {A D : M} {Fm Fd : List Nat} (h : StB w S B pm pd mf md s A D Fm Fd false) (n : Nat) (h0 : n ≠ 0) (hn : n < A.now.length) (hc : ctN A.now n ≠ 0) : Calls Tryz.prog 82 #[.pointer (some ⟨S, 0, none⟩), .int .u32 (n : Int)] w fun e w' => e = .returned (.int .i64 0) ∧ w = w' := by
 have CR := sready_at h
 have CC := count_in h.ma h.mok n hn
 have c1 := cellOf h.box 2 (v := .int .i64 s.mt) rfl
 have c2 := cellOf h.box 20 (v := .pointer (some ⟨pm, 0, none⟩)) rfl
 have hmt := h.ml
 have hm9 := h.mok.max
 obtain ⟨mt, hm⟩ : ∃ x, s.mt = x := ⟨_, rfl⟩
 rw [hm] at c1 hmt
 obtain ⟨c, hcc⟩ : ∃ x, ctN A.now n = x := ⟨_, rfl⟩
 rw [hcc] at CC hc
 have hn0 : ((n : Int) == 0) = false := by simp; omega
 have hn1 : decide (mt ≤ (n : Int)) = false := by simp; omega
 have hc0 : ((c : Int) == 0) = false := by simp; omega
 have hn4 : (n : Int) < 4294967296 := by omega
 unfold pt at CC
 clear h hm hcc hmt
 go_enter Tryz.func82, Tryz.ntmps82
 go_wp2_with fail
 refine CR.mono ?_
 rintro e w2 ⟨rfl, rfl⟩
 clear CR
 go_wp2_with fail
 refine CC.mono ?_
 rintro e w2 ⟨rfl, rfl⟩
 clear CC
 go_wp2_with fail
 go_ret
 exact ⟨rfl, rfl⟩
end Go.Proofs.YtgmahhdnjikdjaaGreat
/- store.Node of a fresh block, walked. -/
namespace Go.Proofs.YtgmahhdnjikdjaaGreat
open Go.RowKit Go.Maps Wire
set_option linter.unusedVariables false
set_option linter.unusedSimpArgs false
theorem ndA_eq (x : NdV) : ∃ a1 a2, ndA x = .agg #[.int .i64 x.k, .int .u64 (x.b : Int), .slice a1 x.n1 x.c1, .slice a2 x.n2 x.c2] ∧ slO x.g1 x.n1 x.c1 = .slice a1 x.n1 x.c1 ∧ slO x.g2 x.n2 x.c2 = .slice a2 x.n2 x.c2 := ⟨_, _, rfl, rfl, rfl⟩
theorem copy_of (w : World) (x : NdV) (y : Nd) (h : NdAt w 0 x y) (hk : y.keys.length ≤ 1000000) (hv : y.vals.length ≤ 1000000) : Calls Tryz.prog 122 #[ndA x] w (CopyP w y) := by
 have C := bcopy_at w y (slO x.g1 x.n1 x.c1) (slO x.g2 x.n2 x.c2) (Rd.of_own h.r1) (Rd.of_own h.r2) hk hv
 rw [← h.k, ← h.b] at C
 exact C
theorem NdAt.ge {w : World} {base : Nat} {x : NdV} {y : Nd} (h : NdAt w base x y) : ∀ j ∈ obN x, base ≤ j := fun j hj => by
 rcases List.mem_append.1 hj with h1 | h1
 ·exact ownsRow_ge h.r1 j h1
 ·exact ownsRow_ge h.r2 j h1
theorem NdAt.base {w : World} {b b' : Nat} {x : NdV} {y : Nd} (h : NdAt w b x y) (hb : b' ≤ b) : NdAt w b' x y := ⟨h.k, h.b, h.n1, h.n2, ownsRow_base h.r1 hb, ownsRow_base h.r2 hb, h.dj⟩
/-- What Node leaves. -/
def NodeP (w : World) (y : Nd) (e : Ending) (w' : World) : Prop := ∃ x, e = .returned (.tuple #[ndA x, .int .i64 0]) ∧ NdAt w' w.heap.size x y ∧ Below w.heap.size w w'
set_option maxRecDepth 100000 in
set_option maxHeartbeats 6400000 in
theorem snode_in {w : World} {S B pm pd mf md : Nat} {s : Su} {A D : M} {Fm Fd : List Nat} {l : List (Nat × (NdV × Nd))} (h : StF w S B pm pd mf md s A D Fm Fd l) (n : Nat) (h0 : n ≠ 0) (hn : n < A.now.length) (hc : ctN A.now n ≠ 0) (x : NdV) (y : Nd) (hg : getA n l = some (x, y)) (hy : y.keys.length ≤ 1000) (hv : y.vals.length ≤ 1000) :
  Calls Tryz.prog 74 #[.pointer (some ⟨S, 0, none⟩), .int .u32 (n : Int)] w (NodeP w y) := by
 have hm9 := h.st.mok.max
 obtain ⟨w1, hw1⟩ : ∃ W, w.alloc (.cells #[.int .i64 0, .int .u64 0, .slice none 0 0, .slice none 0 0] 159) = W := ⟨_, rfl⟩
 have hb1 : Below w.heap.size w w1 := by rw [← hw1]; exact balloc (Below.refl _ _) _
 have hx1 : w1.heap[w.heap.size]? = some (.cells #[.int .i64 0, .int .u64 0, .slice none 0 0, .slice none 0 0] 159 (0, 0)) := by rw [← hw1]; exact heap_alloc_new _ _
 have h1 := h.below hb1
 have CI := sis_at h1.st n h0 hn hc
 have hl := (h1.look (by omega) hg).1
 have c22 := cellOf h1.st.box 22 (v := .map (some mf)) rfl
 obtain ⟨a1, a2, e1, e2, e3⟩ := ndA_eq x
 obtain ⟨w2, hw2⟩ : ∃ W, w1.alloc (.cells #[.int .i64 x.k, .int .u64 (x.b : Int), .slice a1 x.n1 x.c1, .slice a2 x.n2 x.c2] 159) = W := ⟨_, rfl⟩
 have CC : Hid (∀ X, Below w1.heap.size w1 X → Calls Tryz.prog 122 #[.agg #[.int .i64 x.k, .int .u64 (x.b : Int), .slice a1 x.n1 x.c1, .slice a2 x.n2 x.c2]] X (CopyP X y)) := Lib.hid (fun X hX => by
  rw [← e1]
  exact copy_of X x y ((h1.below hX).nd (n, (x, y)) (getA_some hg)) (by omega) (by omega))
 rw [e1] at hl
 obtain ⟨kk, hkk⟩ : ∃ z, x.k = z := ⟨_, rfl⟩
 obtain ⟨bb, hbb⟩ : ∃ z, x.b = z := ⟨_, rfl⟩
 obtain ⟨n1, hn1⟩ : ∃ z, x.n1 = z := ⟨_, rfl⟩
 obtain ⟨c1, hc1⟩ : ∃ z, x.c1 = z := ⟨_, rfl⟩
 obtain ⟨n2, hn2⟩ : ∃ z, x.n2 = z := ⟨_, rfl⟩
 obtain ⟨c2, hc2⟩ : ∃ z, x.c2 = z := ⟨_, rfl⟩
 rw [hkk, hbb, hn1, hc1, hn2, hc2] at hl CC hw2
 have HB1 := Lib.hid hb1
 have HX1 := Lib.hid hx1
 clear h h1 hg e1 e2 e3 hkk hbb hn1 hc1 hn2 hc2 hb1 hx1 hc hw2
 go_enter Tryz.func74, Tryz.ntmps74
 go_wp2_with fail
 (try rw [hw1])
 refine CI.mono ?_
 rintro e w2 ⟨rfl, rfl⟩
 clear CI
 go_wp2_with fail
 refine (CC.out _ (balloc (Below.refl _ _) _)).mono ?_
 rintro e w3 ⟨x', rfl, hnd, hb⟩
 have HB3 : Hid (Below w1.heap.size w1 w3) := Lib.hid (bthn (balloc (Below.refl _ _) _) hb)
 have HX3 := Lib.hid ((HB3.out.block _ (Array.getElem?_eq_some_iff.1 HX1.out).1).trans HX1.out)
 have HN3 : Hid (NdAt w3 w1.heap.size x' y) := Lib.hid ⟨hnd.k, hnd.b, hnd.n1, hnd.n2, ownsRow_base hnd.r1 (by simp), ownsRow_base hnd.r2 (by simp), hnd.dj⟩
 obtain ⟨NL, hNL⟩ : ∃ L, ndL x' = L := ⟨_, rfl⟩
 have HN1 : Hid (NL.toArray.all (·.oneCell') = true) := Lib.hid (by rw [← hNL]; exact Array.all_eq_true_iff_forall_mem.2 (fun v hv => ndL_one x' v (by simpa using hv)))
 have HNI : Hid ((Tryz.prog.info? 159).map (·.size) = some NL.length) := Lib.hid (by rw [← hNL]; exact infoNd)
 have HNS : Hid ((Tryz.prog.info? 159).map (·.size) = some NL.toArray.size) := Lib.hid (by rw [← hNL]; exact infoNd)
 have HNE := Lib.hid hNL
 have hth : w3.there w.heap.size 0 NL.toArray.size := by rw [← hNL]; exact thereOf HX3.out (by simp [ndL])
 have HTH := Lib.hid hth
 unfold ndA
 rw [hNL]
 clear hNL hth hnd hb CC hl c22
 dsimp only
 repeat (first
  | (refine wpList_store_mid rfl 159 _ _ rfl w.heap.size 0 NL.toArray rfl rfl HTH.out HNS.out HN1.out ?_; refine Hid.out ?_)
  | go_step)
 refine Lib.hid ?_
 go_wp2_with fail
 have hw1l : w.heap.size < w1.heap.size := (Array.getElem?_eq_some_iff.1 HX1.out).1
 have hms : Mods [w.heap.size] w3 (w3.setCells w.heap.size 0 NL) := mods_sets (List.mem_singleton.2 rfl) _ _ (Mods.refl _ _)
 refine bodyPost_ret (v := .tuple #[.agg NL.toArray, .int .i64 0]) (res_nd rfl _ _ w.heap.size NL _ rfl rfl (World.rangeAt_setCells_same _ _ _ _ (by have h := HTH.out; simpa using h)) HNI.out) rfl ⟨x', by unfold ndA; rw [HNE.out], ?_, ?_⟩
 ·have hn : NdAt (w3.setCells w.heap.size 0 NL) w1.heap.size x' y := HN3.out.at_ (fun j hj => hms.block j (HN3.out.lt j hj) (fun hh => by have := HN3.out.ge j hj; have := List.mem_singleton.1 hh; omega))
  exact ⟨hn.k, hn.b, hn.n1, hn.n2, ownsRow_base hn.r1 HB1.out.size, ownsRow_base hn.r2 HB1.out.size, hn.dj⟩
 ·exact belowSets (Nat.le_refl _) _ _ _ (bthn HB1.out HB3.out)
end Go.Proofs.YtgmahhdnjikdjaaGreat
