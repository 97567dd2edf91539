import Derived.Test.YtgmahhdnjikdjaaGreatVG3
set_option linter.unusedVariables false
set_option linter.unusedSimpArgs false
/- Disks: Write, New, walked. -/
namespace Go.Proofs.YtgmahhdnjikdjaaGreat
open Go.RowKit Wire
set_option linter.unusedVariables false
set_option linter.unusedSimpArgs false
theorem fold_setE (o : Nat) : ∀ (Y : List Value) (k : Nat) (A X B : List Value), A.length = o + k → X.length = Y.length → (Y.zipIdx k).foldl (fun cs x => cs.setIfInBounds (o + x.snd) x.fst) (A ++ (X ++ B)).toArray = (A ++ (Y ++ B)).toArray
 | [], k, A, X, B, hA, hX => by
  have : X = [] := List.length_eq_zero_iff.1 hX
  subst this
  rfl
 | y :: Y, k, A, X, B, hA, hX => by
  cases X with
  | nil => simp at hX
  | cons x X =>
   rw [List.zipIdx_cons, List.foldl_cons]
   have e : ((A ++ ((x :: X) ++ B)).toArray).setIfInBounds (o + k) y = ((A ++ [y]) ++ (X ++ B)).toArray := by
    apply Array.toList_inj.1
    rw [Array.toList_setIfInBounds, ← hA]
    simp
   dsimp only
   rw [e, fold_setE o Y (k + 1) (A ++ [y]) X B (by rw [List.length_append, hA]; rfl) (by simpa using hX)]
   simp
theorem infoEnt : (Tryz.prog.info? 229).map (fun i => (i.zero, i.size)) = some (some (.agg Tryz.zeroCells229), 65) := by kernel_rfl
theorem infoEnt4 : (Tryz.prog.info? 229).map (fun i => (i.zero, i.size, i.bytes)) = some (some (.agg Tryz.zeroCells229), 65, 72) := by kernel_rfl
theorem zEnt : (Value.agg Tryz.zeroCells229).cells.size = 65 := by kernel_rfl
theorem entC_len {p : Nat × List UInt8} (h : p.2.length = 64) : (entC p).length = 65 := by simp [entC, bV_len, h]
theorem entC_one (p : Nat × List UInt8) : ∀ u ∈ entC p, u.oneCell' = true := by
 intro u hu
 rcases List.mem_cons.1 hu with rfl | hu
 ·rfl
 ·exact bV_one p.2 u hu
theorem ent_zero (y : Nat) : Tryz.zeroCells229.setIfInBounds 0 (.int .i64 (y : Int)) = (Value.int .i64 (y : Int) :: bV (List.replicate 64 0)).toArray := by kernel_rfl
theorem ent_arr (y : Nat) (s : List UInt8) (h : s.length = 64) : List.foldl (fun cs x => cs.setIfInBounds (1 + x.snd) x.fst) (Tryz.zeroCells229.setIfInBounds 0 (.int .i64 (y : Int))) (bV s).zipIdx = (entC (y, s)).toArray := by
 rw [ent_zero]
 have h1 := fold_setE 1 (bV s) 0 [.int .i64 (y : Int)] (bV (List.replicate 64 0)) [] rfl (by rw [bV_len, bV_len, h, List.length_replicate])
 rw [List.append_nil, List.append_nil] at h1
 exact h1
theorem wp_mk1 {P : Program} {o : Oper} {a : Act} {K : Act → World → Prop} {Q : Exit → Act → World → Prop} {w : World} (x : Operand) (t e : TypeId) (n : Nat) (z : Value) (L : List Value)
  (ho : o.op = .buildSlice t 1 #[(0, x)]) (hx : a.eval x = .agg L.toArray) (ht : P.underlying t = some (.slice e)) (hi : (P.info? e).map (fun i => (i.zero, i.size)) = some (some z, n)) (hz : z.cells.size = n) (hL : L.length = n) (hn : 0 < n) (hn2 : n ≤ 1000)
  (h : ∀ W, W = w.alloc (.cells L.toArray e) → K (a.put o.dst (.slice (some ⟨w.heap.size, 0, none⟩) 1 1)) W) : o.wp P a w K Q := by
 have hrun := run_buildSlice_one (P := P) w t e n z L ht hi hz hL hn hn2
 unfold Oper.wp execOp
 simp only [ho, List.map_toArray, List.map_cons, List.map_nil, hx, Sem.run_bind, hrun, Result.andThen_ok, Sem.run_pure]
 exact h _ rfl
theorem rdCells {X : World} {g n size : Nat} {cs : Array Value} {t : TypeId} (h : X.heap[g]? = some (.cells cs t (0, 0))) (hn : cs.size = n * size) (h1 : n ≤ 1000000) : Rd X size (.slice (some ⟨g, 0, none⟩) n n) n cs.toList :=
 Rd.of_own (base := 0) (e := t) ⟨by simpa using hn, .inr ⟨g, n, cs, rfl, Nat.zero_le _, h, Nat.le_refl _, by unfold maxLen; omega, hn, List.take_of_length_le (by simp [hn])⟩⟩
/-- A sector is written. -/
def Dk.wr (d : Dk) (i : Nat) (s : List UInt8) : Dk := { d with img := d.img.set i s, jr := d.jr ++ [(i, d.img.getD i [])] }
theorem jrC_snoc (l : List (Nat × List UInt8)) (p : Nat × List UInt8) : jrC (l ++ [p]) = jrC l ++ entC p := by unfold jrC; rw [List.flatMap_append]; simp
theorem heap_sets (g o : Nat) (vs : List Value) (w : World) {k : Nat} (hk : k < w.heap.size) (hne : k ≠ g) : (w.setCells g o vs).heap[k]? = w.heap[k]? :=
 (mods_sets (List.mem_singleton.2 rfl) vs o (Mods.refl [g] w)).block k hk (fun h => hne (List.mem_singleton.1 h))
/-- The image has another sector. -/
theorem DkAt.image {n0 : Nat} {w : World} {B gi n ci : Nat} {jv : Value} {d : Dk} (h : DkAt n0 w B (.slice (some ⟨gi, 0, none⟩) n ci) jv d) {i : Nat} {s : List UInt8} (hi : i < d.img.length) (hs : s.length = 64) : DkAt n0 (w.setCells gi (i * 64) (bV s)) B (.slice (some ⟨gi, 0, none⟩) n ci) jv { d with img := d.img.set i s } := by
 have hn : n = d.img.length := by
  obtain ⟨a, c, e⟩ := rowSl h.img
  exact (Value.slice.inj e).2.1
 subst hn
 have hg : gi ∈ ob (.slice (some ⟨gi, 0, none⟩) d.img.length ci) := by simp [ob_some]
 obtain ⟨g2, c2, cur, e, _, _, _, _, hgh, _⟩ := rowSome h.img (by omega)
 obtain ⟨e1, _, _⟩ := Value.slice.inj e
 obtain ⟨rfl, _, _⟩ := Addr.mk.inj (Option.some.inj e1)
 refine ⟨(heap_sets _ _ _ w h.lt (fun e => ?_)).trans h.box, ?_, ownsRow_at h.jrn (fun k hk => heap_sets _ _ _ w (ownsRow_lt h.jrn k hk) (fun e => ?_)), fun q hq => ?_, h.ents, h.ge⟩
 ·rw [← e, h.box] at hgh
  exact absurd (Obj.cells.inj (Option.some.inj hgh)).2.1 (by decide)
 ·have h1 := ownsRow_sets (bV s) (i * 64) h.img
  rw [secsC_set h.secs hi hs] at h1
  have e2 : (d.img.set i s).length = d.img.length := List.length_set
  show (w.setCells _ _ _).ownsRow _ _ _ _ (d.img.set i s).length (secsC (d.img.set i s))
  rw [e2]
  exact h1
 ·exact ob_tag h.jrn hgh (by decide) (by rw [← e]; exact hk)
 ·rcases List.mem_or_eq_of_mem_set hq with hq | rfl
  ·exact h.secs q hq
  ·exact hs
theorem dw_chg {w w2 w15 w16 X : World} {B gi n m m2 ci cj c15 o : Nat} {aj a15 : Option Addr} {vs : List Value} {u : Value} (hM : Mods [B] w w2) (hC : Chg (ob (.slice aj m cj)) w2 w15 (ob (.slice a15 m2 c15))) (hB : B < w.heap.size) (he : w15.setCell ⟨B, 1, none⟩ u = w16) (hX : Below w16.heap.size w16 X) :
  Chg (dF B (.slice (some ⟨gi, 0, none⟩) n ci) (.slice aj m cj)) w (X.setCells gi o vs) (dF B (.slice (some ⟨gi, 0, none⟩) n ci) (.slice a15 m2 c15)) := by
 have hB2 : B ∈ dF B (.slice (some ⟨gi, 0, none⟩) n ci) (.slice aj m cj) := List.mem_cons_self ..
 have hg : gi ∈ dF B (.slice (some ⟨gi, 0, none⟩) n ci) (.slice aj m cj) := List.mem_cons_of_mem _ (List.mem_append_left _ (by simp [ob_some]))
 have h1 : Mods (dF B (.slice (some ⟨gi, 0, none⟩) n ci) (.slice aj m cj)) w w15 := (hM.mono (fun k hk => by rw [List.mem_singleton.1 hk]; exact hB2)).trans hC.1 (fun k hk => .inl (List.mem_cons_of_mem _ (List.mem_append_right _ hk)))
 subst he
 refine ⟨mods_sets hg _ _ ((h1.setCell (p := ⟨B, 1, none⟩) hB2 _).thenBelow hX), fun k hk => ?_⟩
 rcases List.mem_cons.1 hk with rfl | hk
 ·exact .inl hB2
 ·rcases List.mem_append.1 hk with hk | hk
  ·exact .inl (List.mem_cons_of_mem _ (List.mem_append_left _ hk))
  ·rcases hC.2 k hk with h | h
   ·exact .inl (List.mem_cons_of_mem _ (List.mem_append_right _ h))
   ·exact .inr (Nat.le_trans hM.size h)
set_option maxRecDepth 100000 in
set_option maxHeartbeats 6400000 in
theorem dwrite_at (n0 : Nat) (w : World) (B : Nat) (iv jv : Value) (d : Dk) (h : DkAt n0 w B iv jv d) (hn0 : n0 ≤ w.heap.size) (hl : d.left < 0) (hd : d.dead = false) (i : Nat) (s : List UInt8) (hs : s.length = 64) (hi : i < d.img.length) (hn : d.img.length ≤ 1000000) (hj : d.jr.length ≤ 1000000) : Calls Tryz.prog 69 #[.pointer (some ⟨B, 0, none⟩), .int .i64 (i : Int), .agg (bV s).toArray] w fun e w' => e = .returned (.int .i64 0) ∧ ∃ jv', DkAt n0 w' B iv jv' (d.wr i s) ∧ Chg (dF B iv jv) w w' (dF B iv jv') := by
 obtain ⟨old, ho⟩ : ∃ x, d.img[i]? = some x := ⟨_, List.getElem?_eq_getElem hi⟩
 have HOL : Hid (old.length = 64) := Lib.hid (h.secs old (List.mem_of_getElem? ho))
 have HOG : Hid (d.img.getD i [] = old) := Lib.hid (by rw [List.getD_eq_getElem?_getD, ho]; rfl)
 obtain ⟨gi, ci, cur, hv, hgb, hgl, hc1, hc2, hgh, _⟩ := rowSome h.img (by omega)
 subst hv
 obtain ⟨aj, cj, hv⟩ := rowSl h.jrn
 subst hv
 obtain ⟨w1, hw1⟩ : ∃ W, w.alloc (.cells (bV s).toArray 152) = W := ⟨_, rfl⟩
 have hb1 : Below w.heap.size w w1 := by rw [← hw1]; exact balloc (Below.refl _ _) _
 have hx1 : w1.heap[w.heap.size]? = some (.cells (bV s).toArray 152 (0, 0)) := by rw [← hw1]; exact heap_alloc_new _ _
 have hd1 := h.below hb1
 have CH := dhas_at n0 w1 B _ _ d hd1 (i : Int)
 have CT := dstep_at n0 w1 B _ _ d hd1 hl hd
 have HD2 := Lib.hid (hd1.stepped hd)
 have HM2 : Hid (Mods [B] w (w1.setCell ⟨B, 3, none⟩ (.bool false))) := Lib.hid ((Mods.of_below hb1).setCell (p := ⟨B, 3, none⟩) (List.mem_singleton.2 rfl) _)
 have HBN : Hid (B ≠ w.heap.size ∧ B < w.heap.size ∧ gi < w.heap.size) := Lib.hid ⟨by have := h.lt; omega, h.lt, hgl⟩
 have HX2 : Hid ((w1.setCell ⟨B, 3, none⟩ (.bool false)).heap[w.heap.size]? = some (.cells (bV s).toArray 152 (0, 0))) := Lib.hid (by
  rw [Below.heap_setCell w1 ⟨B, 3, none⟩ _ _ (fun e => HBN.out.1 (show w.heap.size = B from e).symm)]; exact hx1)
 have HGI : Hid (gi ∉ (B :: ob (.slice aj d.jr.length cj))) := Lib.hid (fun hh => by
  rcases List.mem_cons.1 hh with e | hh
  ·rw [e, h.box] at hgh; exact absurd (Obj.cells.inj (Option.some.inj hgh)).2.1 (by decide)
  ·exact ob_tag h.jrn hgh (by decide) hh)
 obtain ⟨n, hnn⟩ : ∃ n, d.img.length = n := ⟨_, rfl⟩
 obtain ⟨m, hmm⟩ : ∃ m, d.jr.length = m := ⟨_, rfl⟩
 have HNN := Lib.hid hnn
 have HMM := Lib.hid hmm
 rw [hnn] at CH hi hn hc1
 rw [hmm] at hj
 unfold hasE at CH
 rw [if_neg (by omega), if_neg (by omega)] at CH
 have HNB := Lib.hid hn0
 have HSL := Lib.hid hs
 have HHH := Lib.hid h
 have HSP := Lib.hid ho
 rw [hnn, hmm] at HD2
 clear h ho hgb hgl hgh hb1 hx1 hd1 hnn hmm hs hl hd
 go_enter Tryz.func69, Tryz.ntmps69
 go_wp2_with fail
 (try rw [hw1])
 clear hw1
 refine CH.mono ?_
 rintro e w2 ⟨rfl, rfl⟩
 clear CH
 go_wp2_with fail
 refine CT.mono ?_
 rintro e w2 ⟨rfl, rfl⟩
 clear CT
 obtain ⟨w2, hw2⟩ : ∃ W, w1.setCell ⟨B, 3, none⟩ (.bool false) = W := ⟨_, rfl⟩
 rw [hw2] at HD2 HM2 HX2 ⊢
 have HRA : Hid (w2.rangeAt gi (i * 64) (bV old)) := Lib.hid (by
  have h1 := HD2.out.img
  rw [secs_split HSP.out, HNN.out] at h1
  have h2 := row_part h1
  rwa [secsC_take_len HD2.out.secs (by rw [HNN.out]; omega)] at h2)
 have HG2 : Hid (gi < w2.heap.size ∧ B < w2.heap.size ∧ w.heap.size ≤ w2.heap.size) := Lib.hid ⟨Nat.lt_of_lt_of_le HBN.out.2.2 HM2.out.size, HD2.out.lt, HM2.out.size⟩
 have HJR : Hid (w2.ownsRow n0 229 65 (.slice aj m cj) m (jrC d.jr)) := Lib.hid (by have h1 := HD2.out.jrn; rw [HMM.out] at h1; exact h1)
 have C0 : Hid (w2.cell? ⟨B, 0, none⟩ = some (.slice (some ⟨gi, 0, none⟩) n ci)) := Lib.hid (cellOf HD2.out.box 0 rfl)
 have C1 : Hid (w2.cell? ⟨B, 1, none⟩ = some (.slice aj m cj)) := Lib.hid (cellOf HD2.out.box 1 rfl)
 have HGJ : Hid (gi ∉ (B :: ob (.slice aj m cj))) := Lib.hid (by have h1 := HGI.out; rw [HMM.out] at h1; exact h1)
 clear hw2
 go_wp2_with fail
 have HSS : Hid (∀ X, Mods (B :: ob (.slice aj m cj)) w2 X → (X.rangeAt gi (i * 64) (bV old)) ∧ Mods (B :: ob (.slice aj m cj)) w2 X) := Lib.hid (fun X hb => ⟨(fun j u hj => (World.cell?_of_block (a := ⟨gi, i * 64 + j, none⟩) (hb.block gi HG2.out.1 HGJ.out)).trans (HRA.out j u hj)), hb⟩)
 refine wp_region_held_drew (S := fun X => (X.rangeAt gi (i * 64) (bV old)) ∧ Mods (B :: ob (.slice aj m cj)) w2 X) (by kernel_rfl) (HSS.out _ (Mods.of_below (Below.refl _ _).drew)) (fun hHeld => ?_)
 have hbe : Below w2.heap.size w2 w2.drew := (Below.refl _ _).drew
 obtain ⟨wd, hwd⟩ : ∃ y, w2.drew = y := ⟨_, rfl⟩
 rw [hwd] at hHeld hbe ⊢
 have HBE := Lib.hid hbe
 have HS0 : Hid (w2.heap.size ≤ wd.heap.size) := Lib.hid HBE.out.size
 clear hwd hbe
 refine wpAnyH_take (i := 0) (v := ?_) rfl (by kernel_rfl) (by kernel_rfl) (by kernel_rfl) (fun _ _ _ h => h) (Or.inl ⟨by rfl, ?_⟩) (by assumption) ?_
 rotate_left
 ·(intro w hSw; (try dsimp only at hSw); simp only [List.getElem_toArray, List.getElem_cons_zero, List.getElem_cons_succ]; go_simp; first | done | with_reducible rfl)
 simp only [List.getElem_toArray, List.getElem_cons_zero, List.getElem_cons_succ, Act.put, List.setIfInBounds_toArray, List.set_cons_zero, List.set_cons_succ]
 refine wpAnyH_take (i := 1) (v := ?_) rfl (by kernel_rfl) (by kernel_rfl) (by kernel_rfl) (fun _ _ _ h => h) (Or.inl ⟨by rfl, ?_⟩) (by assumption) ?_
 rotate_left
 ·(intro w hSw; (try dsimp only at hSw); simp only [List.getElem_toArray, List.getElem_cons_zero, List.getElem_cons_succ]; go_simp; first | done | with_reducible rfl)
 simp only [List.getElem_toArray, List.getElem_cons_zero, List.getElem_cons_succ, Act.put, List.setIfInBounds_toArray, List.set_cons_zero, List.set_cons_succ]
 refine wpAnyH_take (i := 5) (v := ?_) rfl (by kernel_rfl) (by kernel_rfl) (by kernel_rfl) (fun _ _ _ h => h) (Or.inl ⟨by rfl, ?_⟩) (by assumption) ?_
 rotate_left
 ·(intro w hSw; (try dsimp only at hSw); simp only [List.getElem_toArray, List.getElem_cons_zero, List.getElem_cons_succ]; go_simp; first | done | with_reducible rfl)
 simp only [List.getElem_toArray, List.getElem_cons_zero, List.getElem_cons_succ, Act.put, List.setIfInBounds_toArray, List.set_cons_zero, List.set_cons_succ]
 refine wpAnyH_take (i := 6) (v := ?_) rfl (by kernel_rfl) (by kernel_rfl) (by kernel_rfl) (fun _ _ _ h => h) (Or.inl ⟨by rfl, ?_⟩) (by assumption) ?_
 rotate_left
 ·(intro w hSw; (try dsimp only at hSw); simp only [List.getElem_toArray, List.getElem_cons_zero, List.getElem_cons_succ]; go_simp; first | done | with_reducible rfl)
 simp only [List.getElem_toArray, List.getElem_cons_zero, List.getElem_cons_succ, Act.put, List.setIfInBounds_toArray, List.set_cons_zero, List.set_cons_succ]
 refine wpAnyH_take (i := 10) (v := ?_) rfl (by kernel_rfl) (by kernel_rfl) (by kernel_rfl) (fun _ _ _ h => h) (Or.inl ⟨by rfl, ?_⟩) (by assumption) ?_
 rotate_left
 ·(intro w hSw; (try dsimp only at hSw); simp only [List.getElem_toArray, List.getElem_cons_zero, List.getElem_cons_succ]; go_simp; first | done | with_reducible rfl)
 simp only [List.getElem_toArray, List.getElem_cons_zero, List.getElem_cons_succ, Act.put, List.setIfInBounds_toArray, List.set_cons_zero, List.set_cons_succ]
 refine wpAnyH_take (i := 2) (v := ?_) rfl (by kernel_rfl) (by kernel_rfl) (by kernel_rfl) (fun _ _ _ h => h) (Or.inl ⟨by rfl, ?_⟩) (by assumption) ?_
 rotate_left
 ·(intro w hSw; (try dsimp only at hSw); simp only [List.getElem_toArray, List.getElem_cons_zero, List.getElem_cons_succ]; go_simp; first | done | with_reducible rfl)
 simp only [List.getElem_toArray, List.getElem_cons_zero, List.getElem_cons_succ, Act.put, List.setIfInBounds_toArray, List.set_cons_zero, List.set_cons_succ]
 refine wpAnyH_take (i := 7) (v := ?_) rfl (by kernel_rfl) (by kernel_rfl) (by kernel_rfl) (fun _ _ _ h => h) (Or.inl ⟨by rfl, ?_⟩) (by assumption) ?_
 rotate_left
 ·(intro w hSw; (try dsimp only at hSw); simp only [List.getElem_toArray, List.getElem_cons_zero, List.getElem_cons_succ]; go_simp; first | done | with_reducible rfl)
 simp only [List.getElem_toArray, List.getElem_cons_zero, List.getElem_cons_succ, Act.put, List.setIfInBounds_toArray, List.set_cons_zero, List.set_cons_succ]
 refine wpAnyH_take (i := 3) (v := ?_) rfl (by kernel_rfl) (by kernel_rfl) (by kernel_rfl) (fun _ _ _ h => h) (Or.inl ⟨by rfl, ?_⟩) (by assumption) ?_
 rotate_left
 ·(intro w hSw; (try dsimp only at hSw); simp only [List.getElem_toArray, List.getElem_cons_zero, List.getElem_cons_succ]; go_simp; first | done | with_reducible rfl)
 simp only [List.getElem_toArray, List.getElem_cons_zero, List.getElem_cons_succ, Act.put, List.setIfInBounds_toArray, List.set_cons_zero, List.set_cons_succ]
 refine wpAnyH_take (i := 8) (v := ?_) rfl (by kernel_rfl) (by kernel_rfl) (by kernel_rfl) (fun _ _ _ h => h) (Or.inl ⟨by rfl, ?_⟩) (by assumption) ?_
 rotate_left
 ·(intro w hSw; (try dsimp only at hSw); simp only [List.getElem_toArray, List.getElem_cons_zero, List.getElem_cons_succ]; go_simp; first | done | with_reducible rfl)
 simp only [List.getElem_toArray, List.getElem_cons_zero, List.getElem_cons_succ, Act.put, List.setIfInBounds_toArray, List.set_cons_zero, List.set_cons_succ]
 refine wpAnyH_ready (rs := [4, 9]) (by kernel_rfl) (by simp) ?_
 refine AllReadyH.cons rfl (fun K hK => ?_) (AllReadyH.cons rfl (fun K hK => ?_) (AllReadyH.nil))
 ·skip
  have hrd := (show wd.cell? ⟨B, 1, none⟩ = some (.slice aj m cj) from (HBE.out.cell (p := ⟨B, 1, none⟩) HG2.out.2.1).trans C1.out)
  simp only [List.getElem_toArray, List.getElem_cons_zero, List.getElem_cons_succ]
  go_simp
  clear hrd
  refine hK.out _ _ ?_ (fun hHeld => ?_)
  ·exact (by first | exact HSS.out _ (Mods.of_below HBE.out) | exact HSS.out _ HMD.out)
  clear hK K
  try simp only [Act.put, List.setIfInBounds_toArray, List.set_cons_zero, List.set_cons_succ]
  refine wpAnyH_ready (rs := [9]) (by kernel_rfl) (by simp) ?_
  refine AllReadyH.cons rfl (fun K hK => ?_) (AllReadyH.nil)
  have hrd := (show wd.cell? ⟨B, 0, none⟩ = some (.slice (some ⟨gi, 0, none⟩) n ci) from (HBE.out.cell (p := ⟨B, 0, none⟩) HG2.out.2.1).trans C0.out)
  simp only [List.getElem_toArray, List.getElem_cons_zero, List.getElem_cons_succ]
  go_simp
  clear hrd
  refine hK.out _ _ ?_ (fun hHeld => ?_)
  ·exact (by first | exact HSS.out _ (Mods.of_below HBE.out) | exact HSS.out _ HMD.out)
  clear hK K
  try simp only [Act.put, List.setIfInBounds_toArray, List.set_cons_zero, List.set_cons_succ]
  refine wpAnyH_take (i := 11) (v := ?_) rfl (by kernel_rfl) (by kernel_rfl) (by kernel_rfl) (fun _ _ _ h => h) (Or.inl ⟨by rfl, ?_⟩) (by assumption) ?_
  rotate_left
  ·(intro w hSw; (try dsimp only at hSw); simp only [List.getElem_toArray, List.getElem_cons_zero, List.getElem_cons_succ]; go_simp; first | done | with_reducible rfl)
  simp only [List.getElem_toArray, List.getElem_cons_zero, List.getElem_cons_succ, Act.put, List.setIfInBounds_toArray, List.set_cons_zero, List.set_cons_succ]
  refine wpAnyH_take (i := 12) (v := _) rfl (by kernel_rfl) (by kernel_rfl) (by kernel_rfl) (fun _ _ _ h => h) (yieldsIf_load_mid (by rfl) 152 _ rfl (gi) (i * 64) rfl (bV old) _ (fun w hSw => hSw.1) (Tryz.underlying152) rfl (infoS HOL.out)) (by assumption) ?_
  simp only [List.getElem_toArray, List.getElem_cons_zero, List.getElem_cons_succ, Act.put, List.setIfInBounds_toArray, List.set_cons_zero, List.set_cons_succ]
  refine wpAnyH_take (i := 13) (v := .agg (entC (i, old)).toArray) rfl (by kernel_rfl) (by kernel_rfl) (by kernel_rfl) (fun _ _ _ h => h) (Or.inl ⟨by rfl, ?_⟩) (by assumption) ?_
  ·(intro w hSw; simp only [List.getElem_toArray, List.getElem_cons_zero, List.getElem_cons_succ]; (have hl : (bV old).length = 64 := (by rw [bV_len, HOL.out]); have hz := ent_arr i old HOL.out; go_simp))
  simp only [List.getElem_toArray, List.getElem_cons_zero, List.getElem_cons_succ, Act.put, List.setIfInBounds_toArray, List.set_cons_zero, List.set_cons_succ]
  refine wpAnyH_ready (rs := [14]) (by kernel_rfl) (by simp) ?_
  refine AllReadyH.cons rfl (fun K hK => ?_) (AllReadyH.nil)
  simp only [List.getElem_toArray, List.getElem_cons_zero, List.getElem_cons_succ]
  rw [if_pos (by rfl)]
  refine wp_mk1 _ 65 229 65 _ (entC (i, old)) rfl rfl Tryz.underlying65 infoEnt zEnt (entC_len HOL.out) (by omega) (by omega) ?_
  intro W14 hW14
  refine hK.out _ _ ?_ (fun hHeld => ?_)
  ·exact HSS.out _ (Mods.of_below (bthn HBE.out (by rw [hW14]; exact balloc (Below.refl _ _) _)))
  clear hK K
  try simp only [Act.put, List.setIfInBounds_toArray, List.set_cons_zero, List.set_cons_succ]
  obtain ⟨b14, hb14⟩ : ∃ b, wd.heap.size = b := ⟨_, rfl⟩
  have HN14 : Hid (W14.heap[b14]? = some (.cells (entC (i, old)).toArray 229 (0, 0))) := Lib.hid (by rw [hW14, ← hb14]; exact heap_alloc_new _ _)
  have HBE := Lib.hid (bthn HBE.out (show Below wd.heap.size wd W14 by rw [hW14]; exact balloc (Below.refl _ _) _))
  rw [hb14]
  clear hb14 hW14
  refine wpAnyH_ready (rs := [15]) (by kernel_rfl) (by simp) ?_
  refine AllReadyH.cons rfl (fun K hK => ?_) (AllReadyH.nil)
  simp only [List.getElem_toArray, List.getElem_cons_zero, List.getElem_cons_succ]
  rw [if_pos (by rfl)]
  refine wp_apps _ _ 65 rfl n0 229 _ 65 72 Tryz.underlying65 infoEnt4 zEnt (by decide) (by decide) (.slice aj m cj) m _ (by rfl) (ownsRow_below HJR.out HBE.out) _ 1 _ (by rfl) (rdCells HN14.out (by rw [List.size_toArray, entC_len HOL.out]) (by omega)) (fun u hu => entC_one (i, old) u (by simpa using hu)) (by omega) (Nat.le_trans HNB.out (Nat.le_trans HG2.out.2.2 HBE.out.size)) ?_
  intro v15 w15 ho15 hb15 hg15 hs15 hn15
  refine hK.out _ _ ?_ (fun hHeld => ?_)
  ·exact HSS.out _ ((Mods.of_below HBE.out).trans (Chg.of_grown hg15 hs15).1 (fun i hi => .inl (List.mem_cons_of_mem _ hi)))
  clear hK K
  try simp only [Act.put, List.setIfInBounds_toArray, List.set_cons_zero, List.set_cons_succ]
  have HM15 : Hid (Mods (ob (.slice aj m cj)) w2 w15) := Lib.hid ((Mods.of_below HBE.out).trans (Chg.of_grown hg15 hs15).1 (fun i hi => .inl hi))
  have HC15 : Hid (Chg (ob (.slice aj m cj)) w2 w15 (ob v15)) := Lib.hid ((Chg.of_below HBE.out).trans (Chg.of_grown hg15 hs15))
  obtain ⟨a15, c15, hv15⟩ := rowSl ho15
  subst hv15
  have HO15 := Lib.hid ho15
  clear ho15 hb15 hg15 hs15 hn15
  refine wpAnyH_take (i := 16) (v := ?_) rfl (by kernel_rfl) (by kernel_rfl) (by kernel_rfl) (fun _ _ _ h => h) (Or.inl ⟨by rfl, ?_⟩) (by assumption) ?_
  rotate_left
  ·(intro w hSw; (try dsimp only at hSw); simp only [List.getElem_toArray, List.getElem_cons_zero, List.getElem_cons_succ]; go_simp; first | done | with_reducible rfl)
  simp only [List.getElem_toArray, List.getElem_cons_zero, List.getElem_cons_succ, Act.put, List.setIfInBounds_toArray, List.set_cons_zero, List.set_cons_succ]
  refine wpAnyH_take (i := 17) (v := ?_) rfl (by kernel_rfl) (by kernel_rfl) (by kernel_rfl) (fun _ _ _ h => h) (Or.inl ⟨by rfl, ?_⟩) (by assumption) ?_
  rotate_left
  ·(intro w hSw; (try dsimp only at hSw); simp only [List.getElem_toArray, List.getElem_cons_zero, List.getElem_cons_succ]; go_simp; first | done | with_reducible rfl)
  simp only [List.getElem_toArray, List.getElem_cons_zero, List.getElem_cons_succ, Act.put, List.setIfInBounds_toArray, List.set_cons_zero, List.set_cons_succ]
  refine wpAnyH_ready (rs := [18]) (by kernel_rfl) (by simp) ?_
  refine AllReadyH.cons rfl (fun K hK => ?_) (AllReadyH.nil)
  have HX15 : Hid (w15.heap[B]? = some (.cells #[.slice (some ⟨gi, 0, none⟩) n ci, .slice aj m cj, .int .i64 d.left, .bool d.dead] 67 (0, 0))) := Lib.hid ((HM15.out.block B HG2.out.2.1 (ob_tag HJR.out HD2.out.box (by decide))).trans HD2.out.box)
  have hc15 := cellOf HX15.out 1 (v := .slice aj m cj) rfl
  have hf15 := frozenOf HX15.out 1
  simp only [List.getElem_toArray, List.getElem_cons_zero, List.getElem_cons_succ]
  go_simp
  refine hK.out _ _ ?_ (fun hHeld => ?_)
  ·exact HSS.out _ ((HM15.out.mono (fun i hi => List.mem_cons_of_mem _ hi)).setCell (p := ⟨B, 1, none⟩) (List.mem_cons_self ..) _)
  clear hK K
  try simp only [Act.put, List.setIfInBounds_toArray, List.set_cons_zero, List.set_cons_succ]
  refine wpAnyH_done (by kernel_rfl) ?_ _
  have HEND := Lib.hid hHeld.2
  have HSE := Lib.hid hHeld.1
  clear hHeld
  clear HSE HSS HEND
  have HIR : Hid (w15.ownsRow n0 152 64 (.slice (some ⟨gi, 0, none⟩) n ci) d.img.length (secsC d.img)) := Lib.hid (ownsRow_at HD2.out.img (fun k hk => HM15.out.block k (ownsRow_lt HD2.out.img k hk) (fun h => by
   rw [ob_some] at hk
   rw [List.mem_singleton.1 hk] at h
   exact HGJ.out (List.mem_cons_of_mem _ h))))
  obtain ⟨w16, hw16⟩ : ∃ W, w15.setCell ⟨B, 1, none⟩ (.slice a15 (m + 1) c15) = W := ⟨_, rfl⟩
  have HD16 : Hid (DkAt n0 w16 B (.slice (some ⟨gi, 0, none⟩) n ci) (.slice a15 (m + 1) c15) { d with jr := d.jr ++ [(i, old)] }) := Lib.hid (by
   rw [← hw16]
   refine DkAt.journ HX15.out HIR.out ?_ HD2.out.secs (fun p hp => ?_) HD2.out.ge
   ·rw [jrC_snoc, List.length_append, HMM.out]
    exact HO15.out
   ·rcases List.mem_append.1 hp with hp | hp
    ·exact HD2.out.ents p hp
    ·rw [List.mem_singleton.1 hp]; exact HOL.out)
  have HWE := Lib.hid hw16
  have HS16 : Hid (w2.heap.size ≤ w16.heap.size) := Lib.hid (by rw [← hw16]; simpa [World.setCell] using HM15.out.size)
  have HX16 : Hid (w16.heap[w.heap.size]? = some (.cells (bV s).toArray 152 (0, 0))) := Lib.hid (by
   rw [← hw16, Below.heap_setCell w15 ⟨B, 1, none⟩ _ _ (fun e => HBN.out.1 (show w.heap.size = B from e).symm)]
   refine (HM15.out.block _ (Array.getElem?_eq_some_iff.1 HX2.out).1 (fun hk => ?_)).trans HX2.out
   exact ob_tag HJR.out HX2.out (by decide) hk)
  rw [hw16]
  have HR16 : Hid (w16.rangeAt w.heap.size 0 (bV s)) := Lib.hid (rangeOf HX16.out)
  have HL16 : Hid (w.heap.size < w16.heap.size ∧ B < w16.heap.size ∧ B ≠ gi ∧ w.heap.size ≠ gi) := Lib.hid ⟨(Array.getElem?_eq_some_iff.1 HX16.out).1, HD16.out.lt, fun e => HGJ.out (by rw [e]; exact List.mem_cons_self ..), by have := HBN.out.2.2; omega⟩
  have HTH : Hid (∀ X, Below w16.heap.size w16 X → X.there gi (i * 64) (bV s).toArray.size) := Lib.hid (fun X hX => by
   have h1 := (HD16.out.below hX).img
   rw [show ({ d with jr := d.jr ++ [(i, old)] } : Dk).img = d.img from rfl, HNN.out] at h1
   refine row_there h1 ?_
   rw [secsC_len HD2.out.secs, HNN.out, List.size_toArray, bV_len, HSL.out]
   omega)
  have C16 : Hid (w16.cell? ⟨B, 0, none⟩ = some (.slice (some ⟨gi, 0, none⟩) n ci)) := Lib.hid (cellOf HD16.out.box 0 rfl)
  have hsb : (bV s).toArray.size = 64 := by rw [List.size_toArray, bV_len, HSL.out]
  clear hw16 hc15 hf15 HBE
  go_wp2_with fail
  have HSS : Hid (∀ X, Mods [gi] w16 X → (X.cell? ⟨B, 0, none⟩ = some (.slice (some ⟨gi, 0, none⟩) n ci) ∧ X.rangeAt w.heap.size 0 (bV s)) ∧ Mods [gi] w16 X) := Lib.hid (fun X hb => ⟨⟨(World.cell?_of_block (hb.block _ (HL16.out.2.1) ((fun h => HL16.out.2.2.1 (List.mem_singleton.1 h))))).trans (C16.out), (fun j u hj => (World.cell?_of_block (a := ⟨w.heap.size, 0 + j, none⟩) (hb.block w.heap.size HL16.out.1 (fun h => HL16.out.2.2.2 (List.mem_singleton.1 h)))).trans (HR16.out j u hj))⟩, hb⟩)
  refine wp_region_held_drew (S := fun X => (X.cell? ⟨B, 0, none⟩ = some (.slice (some ⟨gi, 0, none⟩) n ci) ∧ X.rangeAt w.heap.size 0 (bV s)) ∧ Mods [gi] w16 X) (by kernel_rfl) (HSS.out _ (Mods.of_below (Below.refl _ _).drew)) (fun hHeld => ?_)
  have hbe : Below w16.heap.size w16 w16.drew := (Below.refl _ _).drew
  obtain ⟨wd, hwd⟩ : ∃ y, w16.drew = y := ⟨_, rfl⟩
  rw [hwd] at hHeld hbe ⊢
  have HBE := Lib.hid hbe
  have HS0 : Hid (w16.heap.size ≤ wd.heap.size) := Lib.hid HBE.out.size
  clear hwd hbe
  refine wpAnyH_take (i := 0) (v := ?_) rfl (by kernel_rfl) (by kernel_rfl) (by kernel_rfl) (fun _ _ _ h => h) (Or.inl ⟨by rfl, ?_⟩) (by assumption) ?_
  rotate_left
  ·(intro w hSw; (try dsimp only at hSw); simp only [List.getElem_toArray, List.getElem_cons_zero, List.getElem_cons_succ]; go_simp; first | done | with_reducible rfl)
  simp only [List.getElem_toArray, List.getElem_cons_zero, List.getElem_cons_succ, Act.put, List.setIfInBounds_toArray, List.set_cons_zero, List.set_cons_succ]
  refine wpAnyH_take (i := 4) (v := ?_) rfl (by kernel_rfl) (by kernel_rfl) (by kernel_rfl) (fun _ _ _ h => h) (Or.inl ⟨by rfl, ?_⟩) (by assumption) ?_
  rotate_left
  ·(intro w hSw; (try dsimp only at hSw); simp only [List.getElem_toArray, List.getElem_cons_zero, List.getElem_cons_succ]; go_simp; first | done | with_reducible rfl)
  simp only [List.getElem_toArray, List.getElem_cons_zero, List.getElem_cons_succ, Act.put, List.setIfInBounds_toArray, List.set_cons_zero, List.set_cons_succ]
  refine wpAnyH_take (i := 5) (v := _) rfl (by kernel_rfl) (by kernel_rfl) (by kernel_rfl) (fun _ _ _ h => h) (yieldsIf_load_mid (by rfl) 152 _ rfl (w.heap.size) (0) rfl (bV s) _ (fun w hSw => hSw.1.2) (Tryz.underlying152) rfl (infoS HSL.out)) (by assumption) ?_
  simp only [List.getElem_toArray, List.getElem_cons_zero, List.getElem_cons_succ, Act.put, List.setIfInBounds_toArray, List.set_cons_zero, List.set_cons_succ]
  refine wpAnyH_take (i := 1) (v := ?_) rfl (by kernel_rfl) (by kernel_rfl) (by kernel_rfl) (fun _ _ _ h => h) (Or.inl ⟨by rfl, ?_⟩) (by assumption) ?_
  rotate_left
  ·(intro w hSw; (try dsimp only at hSw); simp only [List.getElem_toArray, List.getElem_cons_zero, List.getElem_cons_succ]; go_simp; first | done | with_reducible rfl)
  simp only [List.getElem_toArray, List.getElem_cons_zero, List.getElem_cons_succ, Act.put, List.setIfInBounds_toArray, List.set_cons_zero, List.set_cons_succ]
  refine wpAnyH_take (i := 2) (v := ?_) rfl (by kernel_rfl) (by kernel_rfl) (by kernel_rfl) (fun _ _ _ h => h) (Or.inl ⟨by rfl, ?_⟩) (by assumption) ?_
  rotate_left
  ·(intro w hSw; (try dsimp only at hSw); simp only [List.getElem_toArray, List.getElem_cons_zero, List.getElem_cons_succ]; go_simp; first | done | with_reducible rfl)
  simp only [List.getElem_toArray, List.getElem_cons_zero, List.getElem_cons_succ, Act.put, List.setIfInBounds_toArray, List.set_cons_zero, List.set_cons_succ]
  refine wpAnyH_take (i := 3) (v := ?_) rfl (by kernel_rfl) (by kernel_rfl) (by kernel_rfl) (fun _ _ _ h => h) (Or.inl ⟨by rfl, ?_⟩) (by assumption) ?_
  rotate_left
  ·(intro w hSw; (try dsimp only at hSw); simp only [List.getElem_toArray, List.getElem_cons_zero, List.getElem_cons_succ]; go_simp; first | done | with_reducible rfl)
  simp only [List.getElem_toArray, List.getElem_cons_zero, List.getElem_cons_succ, Act.put, List.setIfInBounds_toArray, List.set_cons_zero, List.set_cons_succ]
  refine wpAnyH_take (i := 6) (v := ?_) rfl (by kernel_rfl) (by kernel_rfl) (by kernel_rfl) (fun _ _ _ h => h) (Or.inl ⟨by rfl, ?_⟩) (by assumption) ?_
  rotate_left
  ·(intro w hSw; (try dsimp only at hSw); simp only [List.getElem_toArray, List.getElem_cons_zero, List.getElem_cons_succ]; go_simp; first | done | with_reducible rfl)
  simp only [List.getElem_toArray, List.getElem_cons_zero, List.getElem_cons_succ, Act.put, List.setIfInBounds_toArray, List.set_cons_zero, List.set_cons_succ]
  refine wpAnyH_ready (rs := [7]) (by kernel_rfl) (by simp) ?_
  refine AllReadyH.cons rfl (fun K hK => ?_) (AllReadyH.nil)
  simp only [List.getElem_toArray, List.getElem_cons_zero, List.getElem_cons_succ]
  rw [if_pos (by rfl)]
  refine wp_store_mid 152 _ _ rfl gi (i * 64) (bV s).toArray (by rfl) (by rfl) (HTH.out _ HBE.out) (by rw [hsb]; exact infoSec) (Array.all_eq_true_iff_forall_mem.2 (fun v hv => bV_one s v (by simpa using hv))) ?_
  refine hK.out _ _ ?_ (fun hHeld => ?_)
  ·exact HSS.out _ (mods_sets (List.mem_singleton.2 rfl) _ _ (Mods.of_below HBE.out))
  clear hK K
  try simp only [Act.put, List.setIfInBounds_toArray, List.set_cons_zero, List.set_cons_succ]
  skip
  refine wpAnyH_done (by kernel_rfl) ?_ _
  have HEND := Lib.hid hHeld.2
  have HSE := Lib.hid hHeld.1
  clear hHeld
  clear HSE HSS HEND
  have HFN := Lib.hid ((HD16.out.below HBE.out).image (i := i) (s := s) (by show i < d.img.length; rw [HNN.out]; exact hi) HSL.out)
  have HCF := Lib.hid (dw_chg (n := d.img.length) (gi := gi) (ci := ci) (o := i * 64) (vs := bV s) (u := .slice a15 (m + 1) c15) HM2.out HC15.out HBN.out.2.1 HWE.out HBE.out)
  go_wp2_with fail
  go_ret
  refine ⟨rfl, .slice a15 (m + 1) c15, ?_, ?_⟩
  ·have h1 := HFN.out
   rw [← HNN.out] at h1
   unfold Dk.wr
   rw [HOG.out]
   exact h1
  ·have h1 := HCF.out
   rw [HMM.out]
   exact h1
 ·skip
  have hrd := (show wd.cell? ⟨B, 0, none⟩ = some (.slice (some ⟨gi, 0, none⟩) n ci) from (HBE.out.cell (p := ⟨B, 0, none⟩) HG2.out.2.1).trans C0.out)
  simp only [List.getElem_toArray, List.getElem_cons_zero, List.getElem_cons_succ]
  go_simp
  clear hrd
  refine hK.out _ _ ?_ (fun hHeld => ?_)
  ·exact (by first | exact HSS.out _ (Mods.of_below HBE.out) | exact HSS.out _ HMD.out)
  clear hK K
  try simp only [Act.put, List.setIfInBounds_toArray, List.set_cons_zero, List.set_cons_succ]
  refine wpAnyH_take (i := 11) (v := ?_) rfl (by kernel_rfl) (by kernel_rfl) (by kernel_rfl) (fun _ _ _ h => h) (Or.inl ⟨by rfl, ?_⟩) (by assumption) ?_
  rotate_left
  ·(intro w hSw; (try dsimp only at hSw); simp only [List.getElem_toArray, List.getElem_cons_zero, List.getElem_cons_succ]; go_simp; first | done | with_reducible rfl)
  simp only [List.getElem_toArray, List.getElem_cons_zero, List.getElem_cons_succ, Act.put, List.setIfInBounds_toArray, List.set_cons_zero, List.set_cons_succ]
  refine wpAnyH_take (i := 12) (v := _) rfl (by kernel_rfl) (by kernel_rfl) (by kernel_rfl) (fun _ _ _ h => h) (yieldsIf_load_mid (by rfl) 152 _ rfl (gi) (i * 64) rfl (bV old) _ (fun w hSw => hSw.1) (Tryz.underlying152) rfl (infoS HOL.out)) (by assumption) ?_
  simp only [List.getElem_toArray, List.getElem_cons_zero, List.getElem_cons_succ, Act.put, List.setIfInBounds_toArray, List.set_cons_zero, List.set_cons_succ]
  refine wpAnyH_take (i := 13) (v := .agg (entC (i, old)).toArray) rfl (by kernel_rfl) (by kernel_rfl) (by kernel_rfl) (fun _ _ _ h => h) (Or.inl ⟨by rfl, ?_⟩) (by assumption) ?_
  ·(intro w hSw; simp only [List.getElem_toArray, List.getElem_cons_zero, List.getElem_cons_succ]; (have hl : (bV old).length = 64 := (by rw [bV_len, HOL.out]); have hz := ent_arr i old HOL.out; go_simp))
  simp only [List.getElem_toArray, List.getElem_cons_zero, List.getElem_cons_succ, Act.put, List.setIfInBounds_toArray, List.set_cons_zero, List.set_cons_succ]
  refine wpAnyH_ready (rs := [4, 14]) (by kernel_rfl) (by simp) ?_
  refine AllReadyH.cons rfl (fun K hK => ?_) (AllReadyH.cons rfl (fun K hK => ?_) (AllReadyH.nil))
  ·skip
   have hrd := (show wd.cell? ⟨B, 1, none⟩ = some (.slice aj m cj) from (HBE.out.cell (p := ⟨B, 1, none⟩) HG2.out.2.1).trans C1.out)
   simp only [List.getElem_toArray, List.getElem_cons_zero, List.getElem_cons_succ]
   go_simp
   clear hrd
   refine hK.out _ _ ?_ (fun hHeld => ?_)
   ·exact (by first | exact HSS.out _ (Mods.of_below HBE.out) | exact HSS.out _ HMD.out)
   clear hK K
   try simp only [Act.put, List.setIfInBounds_toArray, List.set_cons_zero, List.set_cons_succ]
   refine wpAnyH_ready (rs := [14]) (by kernel_rfl) (by simp) ?_
   refine AllReadyH.cons rfl (fun K hK => ?_) (AllReadyH.nil)
   simp only [List.getElem_toArray, List.getElem_cons_zero, List.getElem_cons_succ]
   rw [if_pos (by rfl)]
   refine wp_mk1 _ 65 229 65 _ (entC (i, old)) rfl rfl Tryz.underlying65 infoEnt zEnt (entC_len HOL.out) (by omega) (by omega) ?_
   intro W14 hW14
   refine hK.out _ _ ?_ (fun hHeld => ?_)
   ·exact HSS.out _ (Mods.of_below (bthn HBE.out (by rw [hW14]; exact balloc (Below.refl _ _) _)))
   clear hK K
   try simp only [Act.put, List.setIfInBounds_toArray, List.set_cons_zero, List.set_cons_succ]
   obtain ⟨b14, hb14⟩ : ∃ b, wd.heap.size = b := ⟨_, rfl⟩
   have HN14 : Hid (W14.heap[b14]? = some (.cells (entC (i, old)).toArray 229 (0, 0))) := Lib.hid (by rw [hW14, ← hb14]; exact heap_alloc_new _ _)
   have HBE := Lib.hid (bthn HBE.out (show Below wd.heap.size wd W14 by rw [hW14]; exact balloc (Below.refl _ _) _))
   rw [hb14]
   clear hb14 hW14
   refine wpAnyH_ready (rs := [15]) (by kernel_rfl) (by simp) ?_
   refine AllReadyH.cons rfl (fun K hK => ?_) (AllReadyH.nil)
   simp only [List.getElem_toArray, List.getElem_cons_zero, List.getElem_cons_succ]
   rw [if_pos (by rfl)]
   refine wp_apps _ _ 65 rfl n0 229 _ 65 72 Tryz.underlying65 infoEnt4 zEnt (by decide) (by decide) (.slice aj m cj) m _ (by rfl) (ownsRow_below HJR.out HBE.out) _ 1 _ (by rfl) (rdCells HN14.out (by rw [List.size_toArray, entC_len HOL.out]) (by omega)) (fun u hu => entC_one (i, old) u (by simpa using hu)) (by omega) (Nat.le_trans HNB.out (Nat.le_trans HG2.out.2.2 HBE.out.size)) ?_
   intro v15 w15 ho15 hb15 hg15 hs15 hn15
   refine hK.out _ _ ?_ (fun hHeld => ?_)
   ·exact HSS.out _ ((Mods.of_below HBE.out).trans (Chg.of_grown hg15 hs15).1 (fun i hi => .inl (List.mem_cons_of_mem _ hi)))
   clear hK K
   try simp only [Act.put, List.setIfInBounds_toArray, List.set_cons_zero, List.set_cons_succ]
   have HM15 : Hid (Mods (ob (.slice aj m cj)) w2 w15) := Lib.hid ((Mods.of_below HBE.out).trans (Chg.of_grown hg15 hs15).1 (fun i hi => .inl hi))
   have HC15 : Hid (Chg (ob (.slice aj m cj)) w2 w15 (ob v15)) := Lib.hid ((Chg.of_below HBE.out).trans (Chg.of_grown hg15 hs15))
   obtain ⟨a15, c15, hv15⟩ := rowSl ho15
   subst hv15
   have HO15 := Lib.hid ho15
   clear ho15 hb15 hg15 hs15 hn15
   refine wpAnyH_take (i := 16) (v := ?_) rfl (by kernel_rfl) (by kernel_rfl) (by kernel_rfl) (fun _ _ _ h => h) (Or.inl ⟨by rfl, ?_⟩) (by assumption) ?_
   rotate_left
   ·(intro w hSw; (try dsimp only at hSw); simp only [List.getElem_toArray, List.getElem_cons_zero, List.getElem_cons_succ]; go_simp; first | done | with_reducible rfl)
   simp only [List.getElem_toArray, List.getElem_cons_zero, List.getElem_cons_succ, Act.put, List.setIfInBounds_toArray, List.set_cons_zero, List.set_cons_succ]
   refine wpAnyH_take (i := 17) (v := ?_) rfl (by kernel_rfl) (by kernel_rfl) (by kernel_rfl) (fun _ _ _ h => h) (Or.inl ⟨by rfl, ?_⟩) (by assumption) ?_
   rotate_left
   ·(intro w hSw; (try dsimp only at hSw); simp only [List.getElem_toArray, List.getElem_cons_zero, List.getElem_cons_succ]; go_simp; first | done | with_reducible rfl)
   simp only [List.getElem_toArray, List.getElem_cons_zero, List.getElem_cons_succ, Act.put, List.setIfInBounds_toArray, List.set_cons_zero, List.set_cons_succ]
   refine wpAnyH_ready (rs := [18]) (by kernel_rfl) (by simp) ?_
   refine AllReadyH.cons rfl (fun K hK => ?_) (AllReadyH.nil)
   have HX15 : Hid (w15.heap[B]? = some (.cells #[.slice (some ⟨gi, 0, none⟩) n ci, .slice aj m cj, .int .i64 d.left, .bool d.dead] 67 (0, 0))) := Lib.hid ((HM15.out.block B HG2.out.2.1 (ob_tag HJR.out HD2.out.box (by decide))).trans HD2.out.box)
   have hc15 := cellOf HX15.out 1 (v := .slice aj m cj) rfl
   have hf15 := frozenOf HX15.out 1
   simp only [List.getElem_toArray, List.getElem_cons_zero, List.getElem_cons_succ]
   go_simp
   refine hK.out _ _ ?_ (fun hHeld => ?_)
   ·exact HSS.out _ ((HM15.out.mono (fun i hi => List.mem_cons_of_mem _ hi)).setCell (p := ⟨B, 1, none⟩) (List.mem_cons_self ..) _)
   clear hK K
   try simp only [Act.put, List.setIfInBounds_toArray, List.set_cons_zero, List.set_cons_succ]
   refine wpAnyH_done (by kernel_rfl) ?_ _
   have HEND := Lib.hid hHeld.2
   have HSE := Lib.hid hHeld.1
   clear hHeld
   clear HSE HSS HEND
   have HIR : Hid (w15.ownsRow n0 152 64 (.slice (some ⟨gi, 0, none⟩) n ci) d.img.length (secsC d.img)) := Lib.hid (ownsRow_at HD2.out.img (fun k hk => HM15.out.block k (ownsRow_lt HD2.out.img k hk) (fun h => by
    rw [ob_some] at hk
    rw [List.mem_singleton.1 hk] at h
    exact HGJ.out (List.mem_cons_of_mem _ h))))
   obtain ⟨w16, hw16⟩ : ∃ W, w15.setCell ⟨B, 1, none⟩ (.slice a15 (m + 1) c15) = W := ⟨_, rfl⟩
   have HD16 : Hid (DkAt n0 w16 B (.slice (some ⟨gi, 0, none⟩) n ci) (.slice a15 (m + 1) c15) { d with jr := d.jr ++ [(i, old)] }) := Lib.hid (by
    rw [← hw16]
    refine DkAt.journ HX15.out HIR.out ?_ HD2.out.secs (fun p hp => ?_) HD2.out.ge
    ·rw [jrC_snoc, List.length_append, HMM.out]
     exact HO15.out
    ·rcases List.mem_append.1 hp with hp | hp
     ·exact HD2.out.ents p hp
     ·rw [List.mem_singleton.1 hp]; exact HOL.out)
   have HWE := Lib.hid hw16
   have HS16 : Hid (w2.heap.size ≤ w16.heap.size) := Lib.hid (by rw [← hw16]; simpa [World.setCell] using HM15.out.size)
   have HX16 : Hid (w16.heap[w.heap.size]? = some (.cells (bV s).toArray 152 (0, 0))) := Lib.hid (by
    rw [← hw16, Below.heap_setCell w15 ⟨B, 1, none⟩ _ _ (fun e => HBN.out.1 (show w.heap.size = B from e).symm)]
    refine (HM15.out.block _ (Array.getElem?_eq_some_iff.1 HX2.out).1 (fun hk => ?_)).trans HX2.out
    exact ob_tag HJR.out HX2.out (by decide) hk)
   rw [hw16]
   have HR16 : Hid (w16.rangeAt w.heap.size 0 (bV s)) := Lib.hid (rangeOf HX16.out)
   have HL16 : Hid (w.heap.size < w16.heap.size ∧ B < w16.heap.size ∧ B ≠ gi ∧ w.heap.size ≠ gi) := Lib.hid ⟨(Array.getElem?_eq_some_iff.1 HX16.out).1, HD16.out.lt, fun e => HGJ.out (by rw [e]; exact List.mem_cons_self ..), by have := HBN.out.2.2; omega⟩
   have HTH : Hid (∀ X, Below w16.heap.size w16 X → X.there gi (i * 64) (bV s).toArray.size) := Lib.hid (fun X hX => by
    have h1 := (HD16.out.below hX).img
    rw [show ({ d with jr := d.jr ++ [(i, old)] } : Dk).img = d.img from rfl, HNN.out] at h1
    refine row_there h1 ?_
    rw [secsC_len HD2.out.secs, HNN.out, List.size_toArray, bV_len, HSL.out]
    omega)
   have C16 : Hid (w16.cell? ⟨B, 0, none⟩ = some (.slice (some ⟨gi, 0, none⟩) n ci)) := Lib.hid (cellOf HD16.out.box 0 rfl)
   have hsb : (bV s).toArray.size = 64 := by rw [List.size_toArray, bV_len, HSL.out]
   clear hw16 hc15 hf15 HBE
   go_wp2_with fail
   have HSS : Hid (∀ X, Mods [gi] w16 X → (X.cell? ⟨B, 0, none⟩ = some (.slice (some ⟨gi, 0, none⟩) n ci) ∧ X.rangeAt w.heap.size 0 (bV s)) ∧ Mods [gi] w16 X) := Lib.hid (fun X hb => ⟨⟨(World.cell?_of_block (hb.block _ (HL16.out.2.1) ((fun h => HL16.out.2.2.1 (List.mem_singleton.1 h))))).trans (C16.out), (fun j u hj => (World.cell?_of_block (a := ⟨w.heap.size, 0 + j, none⟩) (hb.block w.heap.size HL16.out.1 (fun h => HL16.out.2.2.2 (List.mem_singleton.1 h)))).trans (HR16.out j u hj))⟩, hb⟩)
   refine wp_region_held_drew (S := fun X => (X.cell? ⟨B, 0, none⟩ = some (.slice (some ⟨gi, 0, none⟩) n ci) ∧ X.rangeAt w.heap.size 0 (bV s)) ∧ Mods [gi] w16 X) (by kernel_rfl) (HSS.out _ (Mods.of_below (Below.refl _ _).drew)) (fun hHeld => ?_)
   have hbe : Below w16.heap.size w16 w16.drew := (Below.refl _ _).drew
   obtain ⟨wd, hwd⟩ : ∃ y, w16.drew = y := ⟨_, rfl⟩
   rw [hwd] at hHeld hbe ⊢
   have HBE := Lib.hid hbe
   have HS0 : Hid (w16.heap.size ≤ wd.heap.size) := Lib.hid HBE.out.size
   clear hwd hbe
   refine wpAnyH_take (i := 0) (v := ?_) rfl (by kernel_rfl) (by kernel_rfl) (by kernel_rfl) (fun _ _ _ h => h) (Or.inl ⟨by rfl, ?_⟩) (by assumption) ?_
   rotate_left
   ·(intro w hSw; (try dsimp only at hSw); simp only [List.getElem_toArray, List.getElem_cons_zero, List.getElem_cons_succ]; go_simp; first | done | with_reducible rfl)
   simp only [List.getElem_toArray, List.getElem_cons_zero, List.getElem_cons_succ, Act.put, List.setIfInBounds_toArray, List.set_cons_zero, List.set_cons_succ]
   refine wpAnyH_take (i := 4) (v := ?_) rfl (by kernel_rfl) (by kernel_rfl) (by kernel_rfl) (fun _ _ _ h => h) (Or.inl ⟨by rfl, ?_⟩) (by assumption) ?_
   rotate_left
   ·(intro w hSw; (try dsimp only at hSw); simp only [List.getElem_toArray, List.getElem_cons_zero, List.getElem_cons_succ]; go_simp; first | done | with_reducible rfl)
   simp only [List.getElem_toArray, List.getElem_cons_zero, List.getElem_cons_succ, Act.put, List.setIfInBounds_toArray, List.set_cons_zero, List.set_cons_succ]
   refine wpAnyH_take (i := 5) (v := _) rfl (by kernel_rfl) (by kernel_rfl) (by kernel_rfl) (fun _ _ _ h => h) (yieldsIf_load_mid (by rfl) 152 _ rfl (w.heap.size) (0) rfl (bV s) _ (fun w hSw => hSw.1.2) (Tryz.underlying152) rfl (infoS HSL.out)) (by assumption) ?_
   simp only [List.getElem_toArray, List.getElem_cons_zero, List.getElem_cons_succ, Act.put, List.setIfInBounds_toArray, List.set_cons_zero, List.set_cons_succ]
   refine wpAnyH_take (i := 1) (v := ?_) rfl (by kernel_rfl) (by kernel_rfl) (by kernel_rfl) (fun _ _ _ h => h) (Or.inl ⟨by rfl, ?_⟩) (by assumption) ?_
   rotate_left
   ·(intro w hSw; (try dsimp only at hSw); simp only [List.getElem_toArray, List.getElem_cons_zero, List.getElem_cons_succ]; go_simp; first | done | with_reducible rfl)
   simp only [List.getElem_toArray, List.getElem_cons_zero, List.getElem_cons_succ, Act.put, List.setIfInBounds_toArray, List.set_cons_zero, List.set_cons_succ]
   refine wpAnyH_take (i := 2) (v := ?_) rfl (by kernel_rfl) (by kernel_rfl) (by kernel_rfl) (fun _ _ _ h => h) (Or.inl ⟨by rfl, ?_⟩) (by assumption) ?_
   rotate_left
   ·(intro w hSw; (try dsimp only at hSw); simp only [List.getElem_toArray, List.getElem_cons_zero, List.getElem_cons_succ]; go_simp; first | done | with_reducible rfl)
   simp only [List.getElem_toArray, List.getElem_cons_zero, List.getElem_cons_succ, Act.put, List.setIfInBounds_toArray, List.set_cons_zero, List.set_cons_succ]
   refine wpAnyH_take (i := 3) (v := ?_) rfl (by kernel_rfl) (by kernel_rfl) (by kernel_rfl) (fun _ _ _ h => h) (Or.inl ⟨by rfl, ?_⟩) (by assumption) ?_
   rotate_left
   ·(intro w hSw; (try dsimp only at hSw); simp only [List.getElem_toArray, List.getElem_cons_zero, List.getElem_cons_succ]; go_simp; first | done | with_reducible rfl)
   simp only [List.getElem_toArray, List.getElem_cons_zero, List.getElem_cons_succ, Act.put, List.setIfInBounds_toArray, List.set_cons_zero, List.set_cons_succ]
   refine wpAnyH_take (i := 6) (v := ?_) rfl (by kernel_rfl) (by kernel_rfl) (by kernel_rfl) (fun _ _ _ h => h) (Or.inl ⟨by rfl, ?_⟩) (by assumption) ?_
   rotate_left
   ·(intro w hSw; (try dsimp only at hSw); simp only [List.getElem_toArray, List.getElem_cons_zero, List.getElem_cons_succ]; go_simp; first | done | with_reducible rfl)
   simp only [List.getElem_toArray, List.getElem_cons_zero, List.getElem_cons_succ, Act.put, List.setIfInBounds_toArray, List.set_cons_zero, List.set_cons_succ]
   refine wpAnyH_ready (rs := [7]) (by kernel_rfl) (by simp) ?_
   refine AllReadyH.cons rfl (fun K hK => ?_) (AllReadyH.nil)
   simp only [List.getElem_toArray, List.getElem_cons_zero, List.getElem_cons_succ]
   rw [if_pos (by rfl)]
   refine wp_store_mid 152 _ _ rfl gi (i * 64) (bV s).toArray (by rfl) (by rfl) (HTH.out _ HBE.out) (by rw [hsb]; exact infoSec) (Array.all_eq_true_iff_forall_mem.2 (fun v hv => bV_one s v (by simpa using hv))) ?_
   refine hK.out _ _ ?_ (fun hHeld => ?_)
   ·exact HSS.out _ (mods_sets (List.mem_singleton.2 rfl) _ _ (Mods.of_below HBE.out))
   clear hK K
   try simp only [Act.put, List.setIfInBounds_toArray, List.set_cons_zero, List.set_cons_succ]
   skip
   refine wpAnyH_done (by kernel_rfl) ?_ _
   have HEND := Lib.hid hHeld.2
   have HSE := Lib.hid hHeld.1
   clear hHeld
   clear HSE HSS HEND
   have HFN := Lib.hid ((HD16.out.below HBE.out).image (i := i) (s := s) (by show i < d.img.length; rw [HNN.out]; exact hi) HSL.out)
   have HCF := Lib.hid (dw_chg (n := d.img.length) (gi := gi) (ci := ci) (o := i * 64) (vs := bV s) (u := .slice a15 (m + 1) c15) HM2.out HC15.out HBN.out.2.1 HWE.out HBE.out)
   go_wp2_with fail
   go_ret
   refine ⟨rfl, .slice a15 (m + 1) c15, ?_, ?_⟩
   ·have h1 := HFN.out
    rw [← HNN.out] at h1
    unfold Dk.wr
    rw [HOG.out]
    exact h1
   ·have h1 := HCF.out
    rw [HMM.out]
    exact h1
  ·skip
   simp only [List.getElem_toArray, List.getElem_cons_zero, List.getElem_cons_succ]
   rw [if_pos (by rfl)]
   refine wp_mk1 _ 65 229 65 _ (entC (i, old)) rfl rfl Tryz.underlying65 infoEnt zEnt (entC_len HOL.out) (by omega) (by omega) ?_
   intro W14 hW14
   refine hK.out _ _ ?_ (fun hHeld => ?_)
   ·exact HSS.out _ (Mods.of_below (bthn HBE.out (by rw [hW14]; exact balloc (Below.refl _ _) _)))
   clear hK K
   try simp only [Act.put, List.setIfInBounds_toArray, List.set_cons_zero, List.set_cons_succ]
   obtain ⟨b14, hb14⟩ : ∃ b, wd.heap.size = b := ⟨_, rfl⟩
   have HN14 : Hid (W14.heap[b14]? = some (.cells (entC (i, old)).toArray 229 (0, 0))) := Lib.hid (by rw [hW14, ← hb14]; exact heap_alloc_new _ _)
   have HBE := Lib.hid (bthn HBE.out (show Below wd.heap.size wd W14 by rw [hW14]; exact balloc (Below.refl _ _) _))
   rw [hb14]
   clear hb14 hW14
   refine wpAnyH_ready (rs := [4]) (by kernel_rfl) (by simp) ?_
   refine AllReadyH.cons rfl (fun K hK => ?_) (AllReadyH.nil)
   have hrd := (show W14.cell? ⟨B, 1, none⟩ = some (.slice aj m cj) from (HBE.out.cell (p := ⟨B, 1, none⟩) HG2.out.2.1).trans C1.out)
   simp only [List.getElem_toArray, List.getElem_cons_zero, List.getElem_cons_succ]
   go_simp
   clear hrd
   refine hK.out _ _ ?_ (fun hHeld => ?_)
   ·exact (by first | exact HSS.out _ (Mods.of_below HBE.out) | exact HSS.out _ HMD.out)
   clear hK K
   try simp only [Act.put, List.setIfInBounds_toArray, List.set_cons_zero, List.set_cons_succ]
   refine wpAnyH_ready (rs := [15]) (by kernel_rfl) (by simp) ?_
   refine AllReadyH.cons rfl (fun K hK => ?_) (AllReadyH.nil)
   simp only [List.getElem_toArray, List.getElem_cons_zero, List.getElem_cons_succ]
   rw [if_pos (by rfl)]
   refine wp_apps _ _ 65 rfl n0 229 _ 65 72 Tryz.underlying65 infoEnt4 zEnt (by decide) (by decide) (.slice aj m cj) m _ (by rfl) (ownsRow_below HJR.out HBE.out) _ 1 _ (by rfl) (rdCells HN14.out (by rw [List.size_toArray, entC_len HOL.out]) (by omega)) (fun u hu => entC_one (i, old) u (by simpa using hu)) (by omega) (Nat.le_trans HNB.out (Nat.le_trans HG2.out.2.2 HBE.out.size)) ?_
   intro v15 w15 ho15 hb15 hg15 hs15 hn15
   refine hK.out _ _ ?_ (fun hHeld => ?_)
   ·exact HSS.out _ ((Mods.of_below HBE.out).trans (Chg.of_grown hg15 hs15).1 (fun i hi => .inl (List.mem_cons_of_mem _ hi)))
   clear hK K
   try simp only [Act.put, List.setIfInBounds_toArray, List.set_cons_zero, List.set_cons_succ]
   have HM15 : Hid (Mods (ob (.slice aj m cj)) w2 w15) := Lib.hid ((Mods.of_below HBE.out).trans (Chg.of_grown hg15 hs15).1 (fun i hi => .inl hi))
   have HC15 : Hid (Chg (ob (.slice aj m cj)) w2 w15 (ob v15)) := Lib.hid ((Chg.of_below HBE.out).trans (Chg.of_grown hg15 hs15))
   obtain ⟨a15, c15, hv15⟩ := rowSl ho15
   subst hv15
   have HO15 := Lib.hid ho15
   clear ho15 hb15 hg15 hs15 hn15
   refine wpAnyH_take (i := 16) (v := ?_) rfl (by kernel_rfl) (by kernel_rfl) (by kernel_rfl) (fun _ _ _ h => h) (Or.inl ⟨by rfl, ?_⟩) (by assumption) ?_
   rotate_left
   ·(intro w hSw; (try dsimp only at hSw); simp only [List.getElem_toArray, List.getElem_cons_zero, List.getElem_cons_succ]; go_simp; first | done | with_reducible rfl)
   simp only [List.getElem_toArray, List.getElem_cons_zero, List.getElem_cons_succ, Act.put, List.setIfInBounds_toArray, List.set_cons_zero, List.set_cons_succ]
   refine wpAnyH_take (i := 17) (v := ?_) rfl (by kernel_rfl) (by kernel_rfl) (by kernel_rfl) (fun _ _ _ h => h) (Or.inl ⟨by rfl, ?_⟩) (by assumption) ?_
   rotate_left
   ·(intro w hSw; (try dsimp only at hSw); simp only [List.getElem_toArray, List.getElem_cons_zero, List.getElem_cons_succ]; go_simp; first | done | with_reducible rfl)
   simp only [List.getElem_toArray, List.getElem_cons_zero, List.getElem_cons_succ, Act.put, List.setIfInBounds_toArray, List.set_cons_zero, List.set_cons_succ]
   refine wpAnyH_ready (rs := [18]) (by kernel_rfl) (by simp) ?_
   refine AllReadyH.cons rfl (fun K hK => ?_) (AllReadyH.nil)
   have HX15 : Hid (w15.heap[B]? = some (.cells #[.slice (some ⟨gi, 0, none⟩) n ci, .slice aj m cj, .int .i64 d.left, .bool d.dead] 67 (0, 0))) := Lib.hid ((HM15.out.block B HG2.out.2.1 (ob_tag HJR.out HD2.out.box (by decide))).trans HD2.out.box)
   have hc15 := cellOf HX15.out 1 (v := .slice aj m cj) rfl
   have hf15 := frozenOf HX15.out 1
   simp only [List.getElem_toArray, List.getElem_cons_zero, List.getElem_cons_succ]
   go_simp
   refine hK.out _ _ ?_ (fun hHeld => ?_)
   ·exact HSS.out _ ((HM15.out.mono (fun i hi => List.mem_cons_of_mem _ hi)).setCell (p := ⟨B, 1, none⟩) (List.mem_cons_self ..) _)
   clear hK K
   try simp only [Act.put, List.setIfInBounds_toArray, List.set_cons_zero, List.set_cons_succ]
   refine wpAnyH_done (by kernel_rfl) ?_ _
   have HEND := Lib.hid hHeld.2
   have HSE := Lib.hid hHeld.1
   clear hHeld
   clear HSE HSS HEND
   have HIR : Hid (w15.ownsRow n0 152 64 (.slice (some ⟨gi, 0, none⟩) n ci) d.img.length (secsC d.img)) := Lib.hid (ownsRow_at HD2.out.img (fun k hk => HM15.out.block k (ownsRow_lt HD2.out.img k hk) (fun h => by
    rw [ob_some] at hk
    rw [List.mem_singleton.1 hk] at h
    exact HGJ.out (List.mem_cons_of_mem _ h))))
   obtain ⟨w16, hw16⟩ : ∃ W, w15.setCell ⟨B, 1, none⟩ (.slice a15 (m + 1) c15) = W := ⟨_, rfl⟩
   have HD16 : Hid (DkAt n0 w16 B (.slice (some ⟨gi, 0, none⟩) n ci) (.slice a15 (m + 1) c15) { d with jr := d.jr ++ [(i, old)] }) := Lib.hid (by
    rw [← hw16]
    refine DkAt.journ HX15.out HIR.out ?_ HD2.out.secs (fun p hp => ?_) HD2.out.ge
    ·rw [jrC_snoc, List.length_append, HMM.out]
     exact HO15.out
    ·rcases List.mem_append.1 hp with hp | hp
     ·exact HD2.out.ents p hp
     ·rw [List.mem_singleton.1 hp]; exact HOL.out)
   have HWE := Lib.hid hw16
   have HS16 : Hid (w2.heap.size ≤ w16.heap.size) := Lib.hid (by rw [← hw16]; simpa [World.setCell] using HM15.out.size)
   have HX16 : Hid (w16.heap[w.heap.size]? = some (.cells (bV s).toArray 152 (0, 0))) := Lib.hid (by
    rw [← hw16, Below.heap_setCell w15 ⟨B, 1, none⟩ _ _ (fun e => HBN.out.1 (show w.heap.size = B from e).symm)]
    refine (HM15.out.block _ (Array.getElem?_eq_some_iff.1 HX2.out).1 (fun hk => ?_)).trans HX2.out
    exact ob_tag HJR.out HX2.out (by decide) hk)
   rw [hw16]
   have HR16 : Hid (w16.rangeAt w.heap.size 0 (bV s)) := Lib.hid (rangeOf HX16.out)
   have HL16 : Hid (w.heap.size < w16.heap.size ∧ B < w16.heap.size ∧ B ≠ gi ∧ w.heap.size ≠ gi) := Lib.hid ⟨(Array.getElem?_eq_some_iff.1 HX16.out).1, HD16.out.lt, fun e => HGJ.out (by rw [e]; exact List.mem_cons_self ..), by have := HBN.out.2.2; omega⟩
   have HTH : Hid (∀ X, Below w16.heap.size w16 X → X.there gi (i * 64) (bV s).toArray.size) := Lib.hid (fun X hX => by
    have h1 := (HD16.out.below hX).img
    rw [show ({ d with jr := d.jr ++ [(i, old)] } : Dk).img = d.img from rfl, HNN.out] at h1
    refine row_there h1 ?_
    rw [secsC_len HD2.out.secs, HNN.out, List.size_toArray, bV_len, HSL.out]
    omega)
   have C16 : Hid (w16.cell? ⟨B, 0, none⟩ = some (.slice (some ⟨gi, 0, none⟩) n ci)) := Lib.hid (cellOf HD16.out.box 0 rfl)
   have hsb : (bV s).toArray.size = 64 := by rw [List.size_toArray, bV_len, HSL.out]
   clear hw16 hc15 hf15 HBE
   go_wp2_with fail
   have HSS : Hid (∀ X, Mods [gi] w16 X → (X.cell? ⟨B, 0, none⟩ = some (.slice (some ⟨gi, 0, none⟩) n ci) ∧ X.rangeAt w.heap.size 0 (bV s)) ∧ Mods [gi] w16 X) := Lib.hid (fun X hb => ⟨⟨(World.cell?_of_block (hb.block _ (HL16.out.2.1) ((fun h => HL16.out.2.2.1 (List.mem_singleton.1 h))))).trans (C16.out), (fun j u hj => (World.cell?_of_block (a := ⟨w.heap.size, 0 + j, none⟩) (hb.block w.heap.size HL16.out.1 (fun h => HL16.out.2.2.2 (List.mem_singleton.1 h)))).trans (HR16.out j u hj))⟩, hb⟩)
   refine wp_region_held_drew (S := fun X => (X.cell? ⟨B, 0, none⟩ = some (.slice (some ⟨gi, 0, none⟩) n ci) ∧ X.rangeAt w.heap.size 0 (bV s)) ∧ Mods [gi] w16 X) (by kernel_rfl) (HSS.out _ (Mods.of_below (Below.refl _ _).drew)) (fun hHeld => ?_)
   have hbe : Below w16.heap.size w16 w16.drew := (Below.refl _ _).drew
   obtain ⟨wd, hwd⟩ : ∃ y, w16.drew = y := ⟨_, rfl⟩
   rw [hwd] at hHeld hbe ⊢
   have HBE := Lib.hid hbe
   have HS0 : Hid (w16.heap.size ≤ wd.heap.size) := Lib.hid HBE.out.size
   clear hwd hbe
   refine wpAnyH_take (i := 0) (v := ?_) rfl (by kernel_rfl) (by kernel_rfl) (by kernel_rfl) (fun _ _ _ h => h) (Or.inl ⟨by rfl, ?_⟩) (by assumption) ?_
   rotate_left
   ·(intro w hSw; (try dsimp only at hSw); simp only [List.getElem_toArray, List.getElem_cons_zero, List.getElem_cons_succ]; go_simp; first | done | with_reducible rfl)
   simp only [List.getElem_toArray, List.getElem_cons_zero, List.getElem_cons_succ, Act.put, List.setIfInBounds_toArray, List.set_cons_zero, List.set_cons_succ]
   refine wpAnyH_take (i := 4) (v := ?_) rfl (by kernel_rfl) (by kernel_rfl) (by kernel_rfl) (fun _ _ _ h => h) (Or.inl ⟨by rfl, ?_⟩) (by assumption) ?_
   rotate_left
   ·(intro w hSw; (try dsimp only at hSw); simp only [List.getElem_toArray, List.getElem_cons_zero, List.getElem_cons_succ]; go_simp; first | done | with_reducible rfl)
   simp only [List.getElem_toArray, List.getElem_cons_zero, List.getElem_cons_succ, Act.put, List.setIfInBounds_toArray, List.set_cons_zero, List.set_cons_succ]
   refine wpAnyH_take (i := 5) (v := _) rfl (by kernel_rfl) (by kernel_rfl) (by kernel_rfl) (fun _ _ _ h => h) (yieldsIf_load_mid (by rfl) 152 _ rfl (w.heap.size) (0) rfl (bV s) _ (fun w hSw => hSw.1.2) (Tryz.underlying152) rfl (infoS HSL.out)) (by assumption) ?_
   simp only [List.getElem_toArray, List.getElem_cons_zero, List.getElem_cons_succ, Act.put, List.setIfInBounds_toArray, List.set_cons_zero, List.set_cons_succ]
   refine wpAnyH_take (i := 1) (v := ?_) rfl (by kernel_rfl) (by kernel_rfl) (by kernel_rfl) (fun _ _ _ h => h) (Or.inl ⟨by rfl, ?_⟩) (by assumption) ?_
   rotate_left
   ·(intro w hSw; (try dsimp only at hSw); simp only [List.getElem_toArray, List.getElem_cons_zero, List.getElem_cons_succ]; go_simp; first | done | with_reducible rfl)
   simp only [List.getElem_toArray, List.getElem_cons_zero, List.getElem_cons_succ, Act.put, List.setIfInBounds_toArray, List.set_cons_zero, List.set_cons_succ]
   refine wpAnyH_take (i := 2) (v := ?_) rfl (by kernel_rfl) (by kernel_rfl) (by kernel_rfl) (fun _ _ _ h => h) (Or.inl ⟨by rfl, ?_⟩) (by assumption) ?_
   rotate_left
   ·(intro w hSw; (try dsimp only at hSw); simp only [List.getElem_toArray, List.getElem_cons_zero, List.getElem_cons_succ]; go_simp; first | done | with_reducible rfl)
   simp only [List.getElem_toArray, List.getElem_cons_zero, List.getElem_cons_succ, Act.put, List.setIfInBounds_toArray, List.set_cons_zero, List.set_cons_succ]
   refine wpAnyH_take (i := 3) (v := ?_) rfl (by kernel_rfl) (by kernel_rfl) (by kernel_rfl) (fun _ _ _ h => h) (Or.inl ⟨by rfl, ?_⟩) (by assumption) ?_
   rotate_left
   ·(intro w hSw; (try dsimp only at hSw); simp only [List.getElem_toArray, List.getElem_cons_zero, List.getElem_cons_succ]; go_simp; first | done | with_reducible rfl)
   simp only [List.getElem_toArray, List.getElem_cons_zero, List.getElem_cons_succ, Act.put, List.setIfInBounds_toArray, List.set_cons_zero, List.set_cons_succ]
   refine wpAnyH_take (i := 6) (v := ?_) rfl (by kernel_rfl) (by kernel_rfl) (by kernel_rfl) (fun _ _ _ h => h) (Or.inl ⟨by rfl, ?_⟩) (by assumption) ?_
   rotate_left
   ·(intro w hSw; (try dsimp only at hSw); simp only [List.getElem_toArray, List.getElem_cons_zero, List.getElem_cons_succ]; go_simp; first | done | with_reducible rfl)
   simp only [List.getElem_toArray, List.getElem_cons_zero, List.getElem_cons_succ, Act.put, List.setIfInBounds_toArray, List.set_cons_zero, List.set_cons_succ]
   refine wpAnyH_ready (rs := [7]) (by kernel_rfl) (by simp) ?_
   refine AllReadyH.cons rfl (fun K hK => ?_) (AllReadyH.nil)
   simp only [List.getElem_toArray, List.getElem_cons_zero, List.getElem_cons_succ]
   rw [if_pos (by rfl)]
   refine wp_store_mid 152 _ _ rfl gi (i * 64) (bV s).toArray (by rfl) (by rfl) (HTH.out _ HBE.out) (by rw [hsb]; exact infoSec) (Array.all_eq_true_iff_forall_mem.2 (fun v hv => bV_one s v (by simpa using hv))) ?_
   refine hK.out _ _ ?_ (fun hHeld => ?_)
   ·exact HSS.out _ (mods_sets (List.mem_singleton.2 rfl) _ _ (Mods.of_below HBE.out))
   clear hK K
   try simp only [Act.put, List.setIfInBounds_toArray, List.set_cons_zero, List.set_cons_succ]
   skip
   refine wpAnyH_done (by kernel_rfl) ?_ _
   have HEND := Lib.hid hHeld.2
   have HSE := Lib.hid hHeld.1
   clear hHeld
   clear HSE HSS HEND
   have HFN := Lib.hid ((HD16.out.below HBE.out).image (i := i) (s := s) (by show i < d.img.length; rw [HNN.out]; exact hi) HSL.out)
   have HCF := Lib.hid (dw_chg (n := d.img.length) (gi := gi) (ci := ci) (o := i * 64) (vs := bV s) (u := .slice a15 (m + 1) c15) HM2.out HC15.out HBN.out.2.1 HWE.out HBE.out)
   go_wp2_with fail
   go_ret
   refine ⟨rfl, .slice a15 (m + 1) c15, ?_, ?_⟩
   ·have h1 := HFN.out
    rw [← HNN.out] at h1
    unfold Dk.wr
    rw [HOG.out]
    exact h1
   ·have h1 := HCF.out
    rw [HMM.out]
    exact h1
end Go.Proofs.YtgmahhdnjikdjaaGreat
