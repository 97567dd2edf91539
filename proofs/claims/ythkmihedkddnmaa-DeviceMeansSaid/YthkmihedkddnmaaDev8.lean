/- Devices: drop, walked. -/
import Derived.Deep.RegionHeld3
import Derived.Test.YthkmihedkddnmaaDev5
import Derived.Test.YthkmihedkddnmaaDev7
namespace Go.Proofs.Ythkmihedkddnmaa
open Go.RowKit Go.Maps Wire Cmd
set_option linter.unusedVariables false
set_option linter.unusedSimpArgs false

/-- An answer without data. -/
def ansE (c d : Int) : Value := .agg #[.int .i64 c, .int .i64 d, .slice none 0 0]
theorem map_ne_cells {w : World} {a b : Nat} {es : Array MapEntry} {clock : Nat} {cs : Array Value} {t : TypeId} {f : Nat × Nat} (h1 : w.heap[a]? = some (.map es clock)) (h2 : w.heap[b]? = some (.cells cs t f)) : a ≠ b := by
  rintro rfl
  rw [h1] at h2
  cases h2
theorem DevAt.delAt {n0 : Nat} {w w' : World} {B Ba : Nat} {l : List (Nat × (Vl × Nat))} (h : DevAt n0 w B Ba l) {n : Nat} (hm : MapL w' Try.prog 24 RVol .u64 volF Ba (delA n l)) (hd : Mods [Ba] w w') : DevAt n0 w' B Ba (delA n l) := by
  obtain ⟨es, clock, hes⟩ := h.all.isMap
  have hsub : ∀ p ∈ delA n l, p ∈ l := fun p hp => (List.mem_filter.1 hp).1
  refine ⟨(hd.block _ h.lt (fun hh => map_ne_cells hes h.box (Eq.symm (by simpa using hh)))).trans h.box, hm, fun p hp => (h.vol p (hsub p hp)).mods hd (fun hh => h.ne p (hsub p hp) (by simpa using hh)), ?_, ⟨h.ge.1, h.ge.2.1, fun p hp => h.ge.2.2 p (hsub p hp)⟩, fun p hp => h.ne p (hsub p hp), fun p hp q hq => h.apart p (hsub p hp) q (hsub q hq)⟩
  have : strip (delA n l) = delA n (strip l) := (delA_map _ _ _).symm
  rw [this]
  exact delA_dev h.ok n
/-- An answer that lies in a box comes out of it. -/
theorem resAns {fn : Func} {p : Tmp} (h : fn.results = #[.cell p 35]) (tmps : Array Value) (y : World) (g : Nat) (a b c : Value) (hp : tmps.getD p undef = .pointer (some ⟨g, 0, none⟩)) (hb : y.heap[g]? = some (.cells #[a, b, c] 35 (0, 0))) :
    (results fn tmps).run Try.prog y = .ok (.agg #[a, b, c]) y := by
  have hi : (Try.prog.info? 35).map (·.size) = some 3 := by kernel_rfl
  exact results_cell_mid h tmps y g 0 [a, b, c] _ hp (fun j v hv => by
    rw [Nat.zero_add]
    exact cellOf hb j (by simpa using hv)) Try.underlying35 rfl hi
theorem set3 {w : World} {g : Nat} {a b c x y z : Value} {t : TypeId} (h : w.heap[g]? = some (.cells #[a, b, c] t (0, 0))) :
    (((w.setCell ⟨g, 0, none⟩ x).setCell ⟨g, 1, none⟩ y).setCell ⟨g, 2, none⟩ z).heap[g]? = some (.cells #[x, y, z] t (0, 0)) ∧ Mods [g] w (((w.setCell ⟨g, 0, none⟩ x).setCell ⟨g, 1, none⟩ y).setCell ⟨g, 2, none⟩ z) :=
  ⟨setOf (setOf (setOf h 0 x) 1 y) 2 z, (((Mods.refl _ w).setCell (p := ⟨g, 0, none⟩) (by simp) _).setCell (p := ⟨g, 1, none⟩) (by simp) _).setCell (p := ⟨g, 2, none⟩) (by simp) _⟩
set_option maxRecDepth 100000 in
set_option maxHeartbeats 1600000 in
theorem ddrop_at (n0 : Nat) (w : World) (B Ba : Nat) (l : List (Nat × (Vl × Nat))) (h : DevAt n0 w B Ba l) (o : Op0) (ao : Option Addr) (n cap : Nat) (b : Int) (hv : o.vol < 18446744073709551616) :
    Calls Try.prog 24 #[.pointer (some ⟨B, 0, none⟩), .agg (oC o (.slice ao n cap)), .int .i64 b] w fun e w' => e = .returned (ansE 0 0) ∧ DevAt n0 w' B Ba (delA o.vol l) ∧ Mods [Ba] w w' := by
  have HH := Lib.hid h
  clear h
  unfold oC
  obtain ⟨w1, hw1⟩ : ∃ W, w.alloc (.cells #[.int .i64 o.k, .int .u64 (o.vol : Int), .int .u64 (o.to : Int), .int .i64 o.size, .int .i64 o.pl, .int .i64 o.count, .slice ao n cap] 27) = W := ⟨_, rfl⟩
  go_enter Try.func24, Try.ntmps24
  go_wp2_with fail
  obtain ⟨w2, hw2⟩ : ∃ W, w1.alloc (.cells #[.int .i64 0, .int .i64 0, .slice none 0 0] 35) = W := ⟨_, rfl⟩
  have hb1 : Below w.heap.size w w1 := by rw [← hw1]; exact balloc (Below.refl _ _) _
  have hb2 : Below w1.heap.size w1 w2 := by rw [← hw2]; exact balloc (Below.refl _ _) _
  have hs1 : w1.heap.size = w.heap.size + 1 := by rw [← hw1]; simp
  have hbx1 : w1.heap[w.heap.size]? = some (.cells #[.int .i64 o.k, .int .u64 (o.vol : Int), .int .u64 (o.to : Int), .int .i64 o.size, .int .i64 o.pl, .int .i64 o.count, .slice ao n cap] 27 (0, 0)) := by rw [← hw1]; exact heap_alloc_new w _
  have hbx2 := (hb2.block w.heap.size (by omega)).trans hbx1
  have hbxa : w2.heap[w1.heap.size]? = some (.cells #[.int .i64 0, .int .i64 0, .slice none 0 0] 35 (0, 0)) := by rw [← hw2]; exact heap_alloc_new w1 _
  have HD2 := Lib.hid (HH.out.below (bthen hb1 hb2))
  have HB2 := Lib.hid (bthen hb1 hb2)
  have c1 : w2.cell? ⟨w.heap.size, 1, none⟩ = some (.int .u64 (o.vol : Int)) := cellOf hbx2 1 rfl
  have HXA := Lib.hid hbxa
  have c0 := HD2.out.cell
  rw [hw2]
  obtain ⟨w3, hdel, hml, hmod⟩ := (HD2.out.below (Below.refl _ _).drew).all.del undU64 undAll (wfU hv) 0
  clear hw1 hw2 hb1 hb2 hbx1 hbx2 hbxa
  refine wp_region_held_drew (S := fun X => X.cell? ⟨B, 0, none⟩ = some (.map (some Ba)) ∧ X.cell? ⟨w.heap.size, 1, none⟩ = some (.int .u64 (o.vol : Int)) ∧ Mods [Ba] w2 X) (by kernel_rfl) ⟨c0, c1, (Mods.refl _ _).drew⟩ (fun hHeld => ?_)
  refine wpAnyH_take (i := 0) (v := ?_) rfl (by kernel_rfl) (by kernel_rfl) (by kernel_rfl) (fun _ _ _ h => h) (Or.inl ⟨by rfl, ?_⟩) (by assumption) ?_
  rotate_left
  · (intro w hSw; (try dsimp only at hSw); simp only [List.getElem_toArray, List.getElem_cons_zero, List.getElem_cons_succ]; go_simp; first | done | with_reducible rfl)
  simp only [List.getElem_toArray, List.getElem_cons_zero, List.getElem_cons_succ, Act.put, List.setIfInBounds_toArray, List.set_cons_zero, List.set_cons_succ]
  refine wpAnyH_take (i := 1) (v := ?_) rfl (by kernel_rfl) (by kernel_rfl) (by kernel_rfl) (fun _ _ _ h => h) (Or.inl ⟨by rfl, ?_⟩) (by assumption) ?_
  rotate_left
  · (intro w hSw; (try dsimp only at hSw); simp only [List.getElem_toArray, List.getElem_cons_zero, List.getElem_cons_succ]; go_simp; first | done | with_reducible rfl)
  simp only [List.getElem_toArray, List.getElem_cons_zero, List.getElem_cons_succ, Act.put, List.setIfInBounds_toArray, List.set_cons_zero, List.set_cons_succ]
  refine wpAnyH_take (i := 2) (v := ?_) rfl (by kernel_rfl) (by kernel_rfl) (by kernel_rfl) (fun _ _ _ h => h) (Or.inl ⟨by rfl, ?_⟩) (by assumption) ?_
  rotate_left
  · (intro w hSw; (try dsimp only at hSw); simp only [List.getElem_toArray, List.getElem_cons_zero, List.getElem_cons_succ]; go_simp; first | done | with_reducible rfl)
  simp only [List.getElem_toArray, List.getElem_cons_zero, List.getElem_cons_succ, Act.put, List.setIfInBounds_toArray, List.set_cons_zero, List.set_cons_succ]
  refine wpAnyH_take (i := 3) (v := ?_) rfl (by kernel_rfl) (by kernel_rfl) (by kernel_rfl) (fun _ _ _ h => h) (Or.inl ⟨by rfl, ?_⟩) (by assumption) ?_
  rotate_left
  · (intro w hSw; (try dsimp only at hSw); simp only [List.getElem_toArray, List.getElem_cons_zero, List.getElem_cons_succ]; go_simp; first | done | with_reducible rfl)
  simp only [List.getElem_toArray, List.getElem_cons_zero, List.getElem_cons_succ, Act.put, List.setIfInBounds_toArray, List.set_cons_zero, List.set_cons_succ]
  refine wpAnyH_take (i := 4) (v := ?_) rfl (by kernel_rfl) (by kernel_rfl) (by kernel_rfl) (fun _ _ _ h => h) (Or.inl ⟨by rfl, ?_⟩) (by assumption) ?_
  rotate_left
  · (intro w hSw; (try dsimp only at hSw); simp only [List.getElem_toArray, List.getElem_cons_zero, List.getElem_cons_succ]; go_simp; first | done | with_reducible rfl)
  simp only [List.getElem_toArray, List.getElem_cons_zero, List.getElem_cons_succ, Act.put, List.setIfInBounds_toArray, List.set_cons_zero, List.set_cons_succ]
  refine wpAnyH_take (i := 5) (v := ?_) rfl (by kernel_rfl) (by kernel_rfl) (by kernel_rfl) (fun _ _ _ h => h) (Or.inl ⟨by rfl, ?_⟩) (by assumption) ?_
  rotate_left
  · (intro w hSw; (try dsimp only at hSw); simp only [List.getElem_toArray, List.getElem_cons_zero, List.getElem_cons_succ]; go_simp; first | done | with_reducible rfl)
  simp only [List.getElem_toArray, List.getElem_cons_zero, List.getElem_cons_succ, Act.put, List.setIfInBounds_toArray, List.set_cons_zero, List.set_cons_succ]
  have hm3 : Mods [Ba] w2 w3 := ((Mods.refl _ w2).drew).trans hmod (fun i hi => .inl hi)
  have hne : B ≠ Ba := by
    obtain ⟨es, clock, hes⟩ := HD2.out.all.isMap
    exact fun e => map_ne_cells hes HD2.out.box e.symm
  have hnx : w.heap.size ≠ Ba := by
    have := HH.out.all.lt
    omega
  have d0 : w3.cell? ⟨B, 0, none⟩ = some (.map (some Ba)) := (World.cell?_of_block (hm3.block B HD2.out.lt (by simpa using hne))).trans c0
  have d1 : w3.cell? ⟨w.heap.size, 1, none⟩ = some (.int .u64 (o.vol : Int)) := (World.cell?_of_block (hm3.block w.heap.size (by have := HB2.out.size; have := (Array.getElem?_eq_some_iff.1 HXA.out).1; omega) (by simpa using hnx))).trans c1
  have HM3 := Lib.hid hm3
  have HML := Lib.hid hml
  have HMD := Lib.hid hmod
  clear hm3 hml hmod
  refine wpAnyH_ready (rs := [6]) (by kernel_rfl) (by simp) ?_
  refine AllReadyH.cons rfl (fun K hK => ?_) AllReadyH.nil
  simp only [List.getElem_toArray, List.getElem_cons_zero, List.getElem_cons_succ]
  go_simp
  refine hK.out _ _ ?_ (fun hHeld => ?_)
  · exact ⟨d0, d1, HM3.out⟩
  clear hK K
  try simp only [Act.put, List.setIfInBounds_toArray, List.set_cons_zero, List.set_cons_succ]
  refine wpAnyH_done (by kernel_rfl) ?_ _
  have hxa := HXA.out
  rw [hs1] at hxa
  have hna : w.heap.size + 1 ≠ Ba := by
    have := HH.out.all.lt
    omega
  have hx3 : w3.heap[w.heap.size + 1]? = some (.cells #[.int .i64 0, .int .i64 0, .slice none 0 0] 35 (0, 0)) := (HM3.out.block (w.heap.size + 1) (Array.getElem?_eq_some_iff.1 hxa).1 (by simpa using hna)).trans hxa
  have HX3 := Lib.hid hx3
  have e0 := cellOf hx3 0 (v := .int .i64 0) rfl
  have e1 := cellOf hx3 1 (v := .int .i64 0) rfl
  have e2 := cellOf hx3 2 (v := .slice none 0 0) rfl
  have f0 := frozenOf hx3 0
  have f1 := frozenOf hx3 1
  have f2 := frozenOf hx3 2
  clear hxa hx3 hHeld d0 d1 c0 c1 hdel
  go_wp2_with fail
  obtain ⟨hx4, hm4⟩ := set3 (x := .int .i64 0) (y := .int .i64 0) (z := .slice none 0 0) HX3.out
  have HD3 := Lib.hid ((HD2.out.below (Below.refl _ _).drew).delAt HML.out HMD.out)
  obtain ⟨es3, ck3, hes3⟩ := HD3.out.all.isMap
  refine bodyPost_ret (v := ansE 0 0) (resAns rfl _ _ _ _ _ _ rfl hx4) rfl ⟨rfl, HD3.out.kept hm4 (fun hh => ?_) (fun k hk hh => ?_), ?_⟩
  · have : B = w.heap.size + 1 := by simpa using hh
    have := HH.out.lt
    omega
  · have e : k = w.heap.size + 1 := by simpa using hh
    subst e
    rcases List.mem_cons.1 hk with e2 | hk2
    · exact hna e2
    · obtain ⟨p, hp, he⟩ := List.mem_map.1 hk2
      have := (HH.out.vol p (List.mem_filter.1 hp).1).lt
      omega
  · exact ((Mods.of_below HB2.out).trans HM3.out (fun i hi => .inl hi)).trans hm4 (fun i hi => .inr (by
      have : i = w.heap.size + 1 := by simpa using hi
      omega))
end Go.Proofs.Ythkmihedkddnmaa
