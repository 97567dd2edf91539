import Derived.Test.YtcdobdjemlaaaaaGreatNG22
set_option linter.unusedVariables false
set_option linter.unusedSimpArgs false
/- btree.drop of a leaf, walked. -/
namespace Go.Proofs.YtcdobdjemlaaaaaGreat
open Go.RowKit Go.Maps Wire
set_option linter.unusedVariables false
set_option linter.unusedSimpArgs false
/-- A leaf without its i-th key. -/
def Nd.cut (y : Nd) (i : Nat) : Nd := { y with keys := y.keys.eraseIdx i, vals := y.vals.eraseIdx i }
theorem Nd.Ok.cut {y : Nd} (h : y.Ok) (hr : Rises y.keys) (i : Nat) : (y.cut i).Ok := by
 refine ⟨h.k, Nat.le_trans (List.eraseIdx_sublist _ _).length_le h.n, ?_, ?_, fun x hx => h.ku x ((List.eraseIdx_sublist _ _).subset hx), fun x hx => h.vu x ((List.eraseIdx_sublist _ _).subset hx)⟩
 ·show (y.vals.eraseIdx i).length = (y.keys.eraseIdx i).length
  rw [List.length_eraseIdx, List.length_eraseIdx, h.m]
 ·intro p a b ha hb
  have ha : (y.keys.eraseIdx i)[p]? = some a := ha
  have hb : (y.keys.eraseIdx i)[p + 1]? = some b := hb
  rw [List.getElem?_eraseIdx] at ha hb
  split at ha <;> split at hb
  ·exact hr _ _ a b (by omega) ha hb
  ·exact hr _ _ a b (by omega) ha hb
  ·omega
  ·exact hr _ _ a b (by omega) ha hb
theorem ret_ctt {fn : Func} {p q r : Tmp} {t1 : TypeId} (h : fn.results = #[.cell p t1, .tmp q, .tmp r]) (tmps : Array Value) (P : Program) (w : World) : (results fn tmps).run P w = ((asAddr (tmps.getD p undef)).run P w).andThen fun a w₁ => ((loadVar t1 a).run P w₁).andThen fun v w₂ => .ok (.tuple #[v, tmps.getD q undef, tmps.getD r undef]) w₂ := by
 simp only [results, h]
 simp [Sem.run_bind, Result.andThen]
theorem infoCh : (Tryz.prog.info? 136).map (·.size) = some 6 := by kernel_rfl
/-- What drop leaves. -/
def DropP (w : World) (S B pm pd mf md : Nat) (s : Su) (A D : M) (Fm Fd : List Nat) (l : List (Nat × (NdV × Nd))) (i : Nat) (y : Nd) (j v : Nat) (e : Ending) (w' : World) : Prop :=
 ∃ x, e = .returned (.tuple #[.agg #[.int .u32 (i : Int), .int .u32 0, .int .u64 ((y.cut j).keys.getD 0 0 : Nat), .int .u64 0, .int .u64 (v : Int), .bool true], .int .i64 ((y.keys.length - 1 : Nat) : Int), .int .i64 0]) ∧ StF w' S B pm pd mf md s A D Fm Fd (putA i (x, y.cut j) l) ∧ Mods [mf] w w' ∧ ∀ k ∈ obN x, w.heap.size ≤ k
theorem row_slx {w : World} {base n : Nat} {e : TypeId} {v : Value} {xs : List Value} (h : w.ownsRow base e 1 v n xs) : ∃ a c, v = .slice a n c := by
 obtain ⟨g, c, rfl⟩ := row_slO h
 exact ⟨_, _, rfl⟩
set_option maxRecDepth 100000 in
set_option maxHeartbeats 6400000 in
theorem tdrop_leaf {w : World} {S B pm pd mf md : Nat} {s : Su} {A D : M} {Fm Fd : List Nat} {l : List (Nat × (NdV × Nd))} (h : StF w S B pm pd mf md s A D Fm Fd l) (i : Nat) (h0 : i ≠ 0) (hi9 : i < A.now.length) (hc : ctN A.now i = 1) (x : NdV) (y : Nd) (hg : getA i l = some (x, y)) (hy : y.Ok) (hk : y.k ≠ 1) (hlen : l.length ≤ 10000) (key v : Nat) (hf : y.keys[findI y.keys key]? = some key) (hv : y.vals[findI y.keys key]? = some v) :
  Calls Tryz.prog 89 #[.pointer (some ⟨S, 0, none⟩), .int .u32 (i : Int), .int .u64 (key : Int), .int .i64 0] w (DropP w S B pm pd mf md s A D Fm Fd l i y (findI y.keys key) v) := by
 have hyn := hy.n
 have hym := hy.m
 have hm9 := h.st.mok.max
 obtain ⟨w1, hw1⟩ : ∃ W, w.alloc (.cells #[.int .u32 0, .int .u32 0, .int .u64 0, .int .u64 0, .int .u64 0, .bool false] 136) = W := ⟨_, rfl⟩
 have hb1 : Below w.heap.size w w1 := by rw [← hw1]; exact balloc (Below.refl _ _) _
 have hx1 : w1.heap[w.heap.size]? = some (.cells #[.int .u32 0, .int .u32 0, .int .u64 0, .int .u64 0, .int .u64 0, .bool false] 136 (0, 0)) := by rw [← hw1]; exact heap_alloc_new _ _
 have h1 := h.below hb1
 have CS := sshad_in h1 i h0 hi9 hc x y hg (by omega) (by omega)
 have hk1 : (y.k == 1) = false := by simp; exact hk
 have HB1 := Lib.hid hb1
 have HX1 := Lib.hid hx1
 have H1 := Lib.hid h1
 have HH := Lib.hid h
 have HY := Lib.hid hy
 have HG := Lib.hid hg
 have HF := Lib.hid hf
 have HV := Lib.hid hv
 have HYM := Lib.hid hym
 have HPR := Lib.hid (And.intro h0 (And.intro hi9 (And.intro hc hlen)))
 clear h h1 hy hg hf hv hym hb1 hx1 hi9 hc hlen hk
 go_enter Tryz.func89, Tryz.ntmps89
 go_wp2_with fail
 (try rw [hw1])
 clear hw1
 refine CS.mono ?_
 rintro e w2 ⟨x1, rfl, hnd, hb2⟩
 have HB2 := Lib.hid hb2
 have HN2 := Lib.hid hnd
 have HX2 := Lib.hid ((hb2.block _ (Array.getElem?_eq_some_iff.1 HX1.out).1).trans HX1.out)
 obtain ⟨a1, a2, e1, e2, e3⟩ := ndA_eq x1
 rw [e1]
 have HE := Lib.hid (And.intro e2 e3)
 have HKB : Hid (x1.k = y.k ∧ x1.b = y.b ∧ x1.n1 = y.keys.length ∧ x1.n2 = y.vals.length) := Lib.hid ⟨hnd.k, hnd.b, hnd.n1, hnd.n2⟩
 obtain ⟨kd, hkd⟩ : ∃ z, x1.k = z := ⟨_, rfl⟩
 obtain ⟨bb, hbb⟩ : ∃ z, x1.b = z := ⟨_, rfl⟩
 obtain ⟨n1, hn1⟩ : ∃ z, x1.n1 = z := ⟨_, rfl⟩
 obtain ⟨n2, hn2⟩ : ∃ z, x1.n2 = z := ⟨_, rfl⟩
 obtain ⟨c1, hc1⟩ : ∃ z, x1.c1 = z := ⟨_, rfl⟩
 obtain ⟨c2, hc2⟩ : ∃ z, x1.c2 = z := ⟨_, rfl⟩
 rw [hkd, hbb, hn1, hn2, hc1, hc2]
 rw [hkd, hbb, hn1, hn2] at HKB
 rw [← HKB.out.1] at hk1
 have HEQ := Lib.hid (And.intro hn1 (And.intro hc1 (And.intro hn2 hc2)))
 obtain ⟨w3, hw3⟩ : ∃ W, w2.alloc (.cells #[.int .i64 kd, .int .u64 (bb : Int), .slice a1 n1 c1, .slice a2 n2 c2] 40) = W := ⟨_, rfl⟩
 have hb3 : Below w2.heap.size w2 w3 := by rw [← hw3]; exact balloc (Below.refl _ _) _
 have hx3 : w3.heap[w2.heap.size]? = some (.cells #[.int .i64 kd, .int .u64 (bb : Int), .slice a1 n1 c1, .slice a2 n2 c2] 40 (0, 0)) := by rw [← hw3]; exact heap_alloc_new _ _
 have HX3 := Lib.hid hx3
 have HB3 := Lib.hid hb3
 have HC3 := Lib.hid ((hb3.block _ (Array.getElem?_eq_some_iff.1 HX2.out).1).trans HX2.out)
 have HN3 := Lib.hid (hnd.below hb3)
 clear CS hnd hb2 e1 e2 e3 hkd hbb hn1 hn2 hc1 hc2 hb3 hx3
 dsimp only
 go_upto_region 4 with fail
 clear hw3
 obtain ⟨q, hq⟩ : ∃ q, w2.heap.size = q := ⟨_, rfl⟩
 rw [hq] at HX3 ⊢
 have HQ : Hid (w.heap.size < q) := Lib.hid (by rw [← hq]; exact (Array.getElem?_eq_some_iff.1 HX2.out).1)
 have t0 := cellOf HC3.out 0 (v := .int .u32 0) rfl
 have f0 := frozenOf HC3.out 0
 clear hq
 go_upto_region 9 with fail
 clear t0 f0
 obtain ⟨w4, hw4⟩ : ∃ W, w3.setCell ⟨w.heap.size, 0, none⟩ (.int .u32 (i : Int)) = W := ⟨_, rfl⟩
 rw [hw4]
 have hc4 : w4.heap[w.heap.size]? = some (.cells #[.int .u32 (i : Int), .int .u32 0, .int .u64 0, .int .u64 0, .int .u64 0, .bool false] 136 (0, 0)) := by rw [← hw4]; exact setOf HC3.out 0 _
 have HM4 : Hid (Mods [w.heap.size] w3 w4) := Lib.hid (by rw [← hw4]; exact (Mods.refl _ _).setCell (p := ⟨w.heap.size, 0, none⟩) (List.mem_singleton.2 rfl) _)
 have HC4 := Lib.hid hc4
 have HX4 := Lib.hid ((HM4.out.block _ (Array.getElem?_eq_some_iff.1 HX3.out).1 (fun hh => by have := HQ.out; have := List.mem_singleton.1 hh; omega)).trans HX3.out)
 have HN4 : Hid (NdAt w4 w1.heap.size x1 y) := Lib.hid (HN3.out.at_ (fun j hj => HM4.out.block j (HN3.out.lt j hj) (fun hh => by have := HN3.out.ge j hj; have := (Array.getElem?_eq_some_iff.1 HX1.out).1; have := List.mem_singleton.1 hh; omega)))
 have d0 := cellOf HX4.out 0 (v := .int .i64 kd) rfl
 have d1 := cellOf HX4.out 1 (v := .int .u64 (bb : Int)) rfl
 have d2 := cellOf HX4.out 2 (v := .slice a1 n1 c1) rfl
 have d3 := cellOf HX4.out 3 (v := .slice a2 n2 c2) rfl
 have HR1 : Hid (Rd w4 1 (.slice a1 n1 c1) n1 (qV y.keys)) := Lib.hid (by
  have := Rd.of_own HN4.out.r1
  rw [HE.out.1, HEQ.out.1, HEQ.out.2.1] at this
  rw [← HKB.out.2.2.1] at this
  exact this)
 have HR2 : Hid (Rd w4 1 (.slice a2 n2 c2) n2 (qV y.vals)) := Lib.hid (by
  have := Rd.of_own HN4.out.r2
  rw [HE.out.2, HEQ.out.2.2.1, HEQ.out.2.2.2] at this
  rw [← HKB.out.2.2.2] at this
  exact this)
 have CF := find_at w4 y (.slice a1 n1 c1) (.slice a2 n2 c2) (by omega) (rises_up HY.out.up) (by rw [← HKB.out.2.2.1]; exact HR1.out) key
 rw [← HKB.out.1, ← HKB.out.2.1, decide_eq_true HF.out] at CF
 clear hw4 hc4
 go_wp2_with fail
 refine CF.mono ?_
 rintro e w5 ⟨rfl, hb5⟩
 obtain ⟨j, hj⟩ : ∃ j, findI y.keys key = j := ⟨_, rfl⟩
 have HB5 := Lib.hid hb5
 have HJ := Lib.hid hj
 have HKJ : Hid (y.keys[j]? = some key) := Lib.hid (by rw [← hj]; exact HF.out)
 have HVJ : Hid (y.vals[j]? = some v) := Lib.hid (by rw [← hj]; exact HV.out)
 have HX5 := Lib.hid ((hb5.block _ (Array.getElem?_eq_some_iff.1 HX4.out).1).trans HX4.out)
 have HC5 := Lib.hid ((hb5.block _ (Array.getElem?_eq_some_iff.1 HC4.out).1).trans HC4.out)
 have HN5 := Lib.hid (HN4.out.below hb5)
 have hjl : j < y.vals.length := (List.getElem?_eq_some_iff.1 HVJ.out).1
 obtain ⟨b0, off, ha2, hbl, hcell⟩ := rd_at (HR2.out.below hb5) (by omega)
 have e1 := hcell j v HVJ.out
 have hjn : (j : Int) < (n2 : Int) := by have := HKB.out.2.2.2; omega
 subst ha2
 rw [hj]
 have HJL : Hid (j < n2 ∧ n2 ≤ 6 ∧ n1 = n2) := Lib.hid (by have h1 := HKB.out.2.2.2; have h2 := HKB.out.2.2.1; have h3 := HYM.out; omega)
 have d3 := cellOf HX5.out 3 (v := .slice (some ⟨b0, off, none⟩) n2 c2) rfl
 have t4 := cellOf HC5.out 4 (v := .int .u64 0) rfl
 have t5 := cellOf HC5.out 5 (v := .bool false) rfl
 have f4 := frozenOf HC5.out 4
 have f5 := frozenOf HC5.out 5
 clear CF hb5 hj hjl hcell hbl d0 d1 d2
 dsimp only
 go_upto_region 8 with fail
 clear d3 t4 t5 f4 f5 e1
 obtain ⟨w6, hw6⟩ : ∃ W, (w5.setCell ⟨w.heap.size, 4, none⟩ (.int .u64 (v : Int))).setCell ⟨w.heap.size, 5, none⟩ (.bool true) = W := ⟨_, rfl⟩
 rw [hw6]
 have hc6 : w6.heap[w.heap.size]? = some (.cells #[.int .u32 (i : Int), .int .u32 0, .int .u64 0, .int .u64 0, .int .u64 (v : Int), .bool true] 136 (0, 0)) := by rw [← hw6]; exact setOf (setOf HC5.out 4 _) 5 _
 have HM6 : Hid (Mods [w.heap.size] w5 w6) := Lib.hid (by rw [← hw6]; exact ((Mods.refl _ _).setCell (p := ⟨w.heap.size, 4, none⟩) (List.mem_singleton.2 rfl) _).setCell (p := ⟨w.heap.size, 5, none⟩) (List.mem_singleton.2 rfl) _)
 have HC6 := Lib.hid hc6
 have HX6 := Lib.hid ((HM6.out.block _ (Array.getElem?_eq_some_iff.1 HX5.out).1 (fun hh => by have := HQ.out; have := List.mem_singleton.1 hh; omega)).trans HX5.out)
 have HN6 : Hid (NdAt w6 w1.heap.size x1 y) := Lib.hid (HN5.out.at_ (fun j hj => HM6.out.block j (HN5.out.lt j hj) (fun hh => by have := HN5.out.ge j hj; have := (Array.getElem?_eq_some_iff.1 HX1.out).1; have := List.mem_singleton.1 hh; omega)))
 have HO1 : Hid (w6.ownsRow w1.heap.size 23 1 (.slice a1 n1 c1) n1 (qV y.keys)) := Lib.hid (by
  have := HN6.out.r1
  rw [HE.out.1, HEQ.out.1, HEQ.out.2.1, ← HKB.out.2.2.1] at this
  exact this)
 have HO2 : Hid (w6.ownsRow w1.heap.size 23 1 (.slice (some ⟨b0, off, none⟩) n2 c2) n2 (qV y.vals)) := Lib.hid (by
  have := HN6.out.r2
  rw [HE.out.2, HEQ.out.2.2.1, HEQ.out.2.2.2, ← HKB.out.2.2.2] at this
  exact this)
 have CD1 : Hid (∀ X, X.ownsRow w1.heap.size 23 1 (.slice a1 n1 c1) n1 (qV y.keys) → Calls Tryz.prog 135 #[.slice a1 n1 c1, .int .i64 (j : Int), .int .i64 ((j : Int) + 1)] X fun e w' => ∃ v', e = .returned v' ∧ w'.ownsRow w1.heap.size 23 1 v' (n1 - 1) (qV (y.keys.eraseIdx j)) ∧ ob v' = ob (.slice a1 n1 c1) ∧ Mods (ob (.slice a1 n1 c1)) X w') := Lib.hid (fun X hX => by
  have h := del64 hX (by have := HJL.out; omega) j (by have := HJL.out; omega)
  rw [show ((j + 1 : Nat) : Int) = (j : Int) + 1 from rfl] at h
  exact h)
 have CD2 : Hid (∀ X, X.ownsRow w1.heap.size 23 1 (.slice (some ⟨b0, off, none⟩) n2 c2) n2 (qV y.vals) → Calls Tryz.prog 135 #[.slice (some ⟨b0, off, none⟩) n2 c2, .int .i64 (j : Int), .int .i64 ((j : Int) + 1)] X fun e w' => ∃ v', e = .returned v' ∧ w'.ownsRow w1.heap.size 23 1 v' (n2 - 1) (qV (y.vals.eraseIdx j)) ∧ ob v' = ob (.slice (some ⟨b0, off, none⟩) n2 c2) ∧ Mods (ob (.slice (some ⟨b0, off, none⟩) n2 c2)) X w') := Lib.hid (fun X hX => by
  have h := del64 hX (by have := HJL.out; omega) j (by have := HJL.out; omega)
  rw [show ((j + 1 : Nat) : Int) = (j : Int) + 1 from rfl] at h
  exact h)
 have HNQ : Hid (q ∉ ob (.slice a1 n1 c1) ∧ q ∉ ob (.slice (some ⟨b0, off, none⟩) n2 c2) ∧ (∀ k ∈ ob (.slice (some ⟨b0, off, none⟩) n2 c2), k ∉ ob (.slice a1 n1 c1))) := Lib.hid ⟨fun hh => ob_tag HO1.out HX6.out (by decide) hh, fun hh => ob_tag HO2.out HX6.out (by decide) hh, by
  have := HN6.out.dj
  rw [HE.out.1, HE.out.2, HEQ.out.1, HEQ.out.2.1, HEQ.out.2.2.1, HEQ.out.2.2.2] at this
  exact this⟩
 clear hw6 hc6
 have hwj : IntKind.i64.wrap ((j : Int) + 1) = (j : Int) + 1 := IntWalk.i64_in _ ⟨by omega, by have := HJL.out; omega⟩
 have HSS : Hid (∀ X, Mods (q :: (ob (.slice a1 n1 c1) ++ ob (.slice (some ⟨b0, off, none⟩) n2 c2))) w6 X → (True) ∧ Mods (q :: (ob (.slice a1 n1 c1) ++ ob (.slice (some ⟨b0, off, none⟩) n2 c2))) w6 X) := Lib.hid (fun X hb => ⟨trivial, hb⟩)
 refine wp_region_held_drew (S := fun X => (True) ∧ Mods (q :: (ob (.slice a1 n1 c1) ++ ob (.slice (some ⟨b0, off, none⟩) n2 c2))) w6 X) (by kernel_rfl) (HSS.out _ (Mods.of_below (Below.refl _ _).drew)) (fun hHeld => ?_)
 have hbe : Below w6.heap.size w6 w6.drew := (Below.refl _ _).drew
 obtain ⟨wd, hwd⟩ : ∃ y, w6.drew = y := ⟨_, rfl⟩
 rw [hwd] at hHeld hbe ⊢
 have HBE := Lib.hid hbe
 have HS0 : Hid (w6.heap.size ≤ wd.heap.size) := Lib.hid HBE.out.size
 clear hwd hbe
 have HMQ := Lib.hid (Mods.of_below (F := (ob (.slice a1 n1 c1) ++ ob (.slice (some ⟨b0, off, none⟩) n2 c2))) HBE.out)
 have HO1 := Lib.hid (ownsRow_below HO1.out HBE.out)
 have HO2 := Lib.hid (ownsRow_below HO2.out HBE.out)
 have HXW := Lib.hid ((HBE.out.block _ (Array.getElem?_eq_some_iff.1 HX6.out).1).trans HX6.out)
 refine wpAnyH_take (i := 0) (v := ?_) rfl (by kernel_rfl) (by kernel_rfl) (by kernel_rfl) (fun _ _ _ h => h) (Or.inl ⟨by rfl, ?_⟩) (by assumption) ?_
 rotate_left
 ·(intro w hSw; (try dsimp only at hSw); simp only [List.getElem_toArray, List.getElem_cons_zero, List.getElem_cons_succ]; go_simp; first | done | with_reducible rfl)
 simp only [List.getElem_toArray, List.getElem_cons_zero, List.getElem_cons_succ, Act.put, List.setIfInBounds_toArray, List.set_cons_zero, List.set_cons_succ]
 refine wpAnyH_take (i := 2) (v := ?_) rfl (by kernel_rfl) (by kernel_rfl) (by kernel_rfl) (fun _ _ _ h => h) (Or.inl ⟨by rfl, ?_⟩) (by assumption) ?_
 rotate_left
 ·(intro w hSw; (try dsimp only at hSw); simp only [List.getElem_toArray, List.getElem_cons_zero, List.getElem_cons_succ]; go_simp; first | done | with_reducible rfl)
 simp only [List.getElem_toArray, List.getElem_cons_zero, List.getElem_cons_succ, Act.put, List.setIfInBounds_toArray, List.set_cons_zero, List.set_cons_succ]
 refine wpAnyH_take (i := 3) (v := ?_) rfl (by kernel_rfl) (by kernel_rfl) (by kernel_rfl) (fun _ _ _ h => h) (Or.inl ⟨by rfl, ?_⟩) (by assumption) ?_
 rotate_left
 ·(intro w hSw; (try dsimp only at hSw); simp only [List.getElem_toArray, List.getElem_cons_zero, List.getElem_cons_succ]; go_simp; first | done | with_reducible rfl)
 simp only [List.getElem_toArray, List.getElem_cons_zero, List.getElem_cons_succ, Act.put, List.setIfInBounds_toArray, List.set_cons_zero, List.set_cons_succ]
 refine wpAnyH_take (i := 6) (v := ?_) rfl (by kernel_rfl) (by kernel_rfl) (by kernel_rfl) (fun _ _ _ h => h) (Or.inl ⟨by rfl, ?_⟩) (by assumption) ?_
 rotate_left
 ·(intro w hSw; (try dsimp only at hSw); simp only [List.getElem_toArray, List.getElem_cons_zero, List.getElem_cons_succ]; go_simp; first | done | with_reducible rfl)
 simp only [List.getElem_toArray, List.getElem_cons_zero, List.getElem_cons_succ, Act.put, List.setIfInBounds_toArray, List.set_cons_zero, List.set_cons_succ]
 refine wpAnyH_take (i := 8) (v := ?_) rfl (by kernel_rfl) (by kernel_rfl) (by kernel_rfl) (fun _ _ _ h => h) (Or.inl ⟨by rfl, ?_⟩) (by assumption) ?_
 rotate_left
 ·(intro w hSw; (try dsimp only at hSw); simp only [List.getElem_toArray, List.getElem_cons_zero, List.getElem_cons_succ]; go_simp; first | done | with_reducible rfl)
 simp only [List.getElem_toArray, List.getElem_cons_zero, List.getElem_cons_succ, Act.put, List.setIfInBounds_toArray, List.set_cons_zero, List.set_cons_succ]
 refine wpAnyH_take (i := 9) (v := ?_) rfl (by kernel_rfl) (by kernel_rfl) (by kernel_rfl) (fun _ _ _ h => h) (Or.inl ⟨by rfl, ?_⟩) (by assumption) ?_
 rotate_left
 ·(intro w hSw; (try dsimp only at hSw); simp only [List.getElem_toArray, List.getElem_cons_zero, List.getElem_cons_succ]; go_simp; first | done | with_reducible rfl)
 simp only [List.getElem_toArray, List.getElem_cons_zero, List.getElem_cons_succ, Act.put, List.setIfInBounds_toArray, List.set_cons_zero, List.set_cons_succ]
 refine wpAnyH_take (i := 4) (v := ?_) rfl (by kernel_rfl) (by kernel_rfl) (by kernel_rfl) (fun _ _ _ h => h) (Or.inl ⟨by rfl, ?_⟩) (by assumption) ?_
 rotate_left
 ·(intro w hSw; (try dsimp only at hSw); simp only [List.getElem_toArray, List.getElem_cons_zero, List.getElem_cons_succ]; go_simp; first | done | with_reducible rfl)
 simp only [List.getElem_toArray, List.getElem_cons_zero, List.getElem_cons_succ, Act.put, List.setIfInBounds_toArray, List.set_cons_zero, List.set_cons_succ]
 refine wpAnyH_take (i := 10) (v := ?_) rfl (by kernel_rfl) (by kernel_rfl) (by kernel_rfl) (fun _ _ _ h => h) (Or.inl ⟨by rfl, ?_⟩) (by assumption) ?_
 rotate_left
 ·(intro w hSw; (try dsimp only at hSw); simp only [List.getElem_toArray, List.getElem_cons_zero, List.getElem_cons_succ]; go_simp; first | done | with_reducible rfl)
 simp only [List.getElem_toArray, List.getElem_cons_zero, List.getElem_cons_succ, Act.put, List.setIfInBounds_toArray, List.set_cons_zero, List.set_cons_succ]
 refine wpAnyH_ready (rs := [1, 7]) (by kernel_rfl) (by simp) ?_
 refine AllReadyH.cons rfl (fun K hK => ?_) (AllReadyH.cons rfl (fun K hK => ?_) (AllReadyH.nil))
 ·skip
  have hrd := cellOf HXW.out 2 (v := .slice a1 n1 c1) rfl
  simp only [List.getElem_toArray, List.getElem_cons_zero, List.getElem_cons_succ]
  go_simp
  clear hrd
  refine hK.out _ _ ?_ (fun hHeld => ?_)
  ·exact (by first | exact HSS.out _ (Mods.of_below HBE.out) | exact HSS.out _ HMD.out)
  clear hK K
  try simp only [Act.put, List.setIfInBounds_toArray, List.set_cons_zero, List.set_cons_succ]
  refine wpAnyH_ready (rs := [5, 7]) (by kernel_rfl) (by simp) ?_
  refine AllReadyH.cons rfl (fun K hK => ?_) (AllReadyH.cons rfl (fun K hK => ?_) (AllReadyH.nil))
  ·skip
   simp only [List.getElem_toArray, List.getElem_cons_zero, List.getElem_cons_succ]
   go_simp
   refine (CD1.out _ HO1.out).mono ?_
   rintro e w8 ⟨va, rfl, ho1, hob1, hm8⟩
   dsimp only
   refine hK.out _ _ ?_ (fun hHeld => ?_)
   ·exact HSS.out _ ((HMQ.out.trans hm8 (fun k hk => .inl (List.mem_append_left _ hk))).mono (fun k hk => List.mem_cons_of_mem _ hk))
   clear hK K
   try simp only [Act.put, List.setIfInBounds_toArray, List.set_cons_zero, List.set_cons_succ]
   have HMQ := Lib.hid (HMQ.out.trans hm8 (fun k hk => .inl (List.mem_append_left _ hk)))
   have HXW := Lib.hid ((hm8.block _ (Array.getElem?_eq_some_iff.1 HXW.out).1 HNQ.out.1).trans HXW.out)
   have HO2 := Lib.hid (ownsRow_at HO2.out (fun k hk => hm8.block k (ownsRow_lt HO2.out k hk) (HNQ.out.2.2 k hk)))
   obtain ⟨aa, ca, ea⟩ := row_slx ho1
   subst ea
   have HP1 := Lib.hid ho1
   have HMD : Hid (Mods (q :: (ob (.slice a1 n1 c1) ++ ob (.slice (some ⟨b0, off, none⟩) n2 c2))) w6 w8) := Lib.hid (HMQ.out.mono (fun k hk => List.mem_cons_of_mem _ hk))
   have HQ1 := Lib.hid hob1
   clear ho1 hob1 hm8
   refine wpAnyH_ready (rs := [7]) (by kernel_rfl) (by simp) ?_
   refine AllReadyH.cons rfl (fun K hK => ?_) (AllReadyH.nil)
   have hrd := cellOf HXW.out 3 (v := .slice (some ⟨b0, off, none⟩) n2 c2) rfl
   simp only [List.getElem_toArray, List.getElem_cons_zero, List.getElem_cons_succ]
   go_simp
   clear hrd
   refine hK.out _ _ ?_ (fun hHeld => ?_)
   ·exact (by first | exact HSS.out _ (Mods.of_below HBE.out) | exact HSS.out _ HMD.out)
   clear hK K
   try simp only [Act.put, List.setIfInBounds_toArray, List.set_cons_zero, List.set_cons_succ]
   refine wpAnyH_ready (rs := [11]) (by kernel_rfl) (by simp) ?_
   refine AllReadyH.cons rfl (fun K hK => ?_) (AllReadyH.nil)
   simp only [List.getElem_toArray, List.getElem_cons_zero, List.getElem_cons_succ]
   go_simp
   refine (CD2.out _ HO2.out).mono ?_
   rintro e w9 ⟨vb, rfl, ho2, hob2, hm9⟩
   dsimp only
   refine hK.out _ _ ?_ (fun hHeld => ?_)
   ·exact HSS.out _ ((HMQ.out.trans hm9 (fun k hk => .inl (List.mem_append_right _ hk))).mono (fun k hk => List.mem_cons_of_mem _ hk))
   clear hK K
   try simp only [Act.put, List.setIfInBounds_toArray, List.set_cons_zero, List.set_cons_succ]
   have HMQ := Lib.hid (HMQ.out.trans hm9 (fun k hk => .inl (List.mem_append_right _ hk)))
   have HXW := Lib.hid ((hm9.block _ (Array.getElem?_eq_some_iff.1 HXW.out).1 HNQ.out.2.1).trans HXW.out)
   obtain ⟨ab, cb, eb⟩ := row_slx ho2
   subst eb
   have HP2 := Lib.hid ho2
   have HQ2 := Lib.hid hob2
   have HP1 := Lib.hid (ownsRow_at HP1.out (fun k hk => hm9.block k (ownsRow_lt HP1.out k hk) (fun hh => HNQ.out.2.2 k hh (by rw [← HQ1.out]; exact hk))))
   clear ho2 hob2 hm9
   refine wpAnyH_take (i := 12) (v := ?_) rfl (by kernel_rfl) (by kernel_rfl) (by kernel_rfl) (fun _ _ _ h => h) (Or.inl ⟨by rfl, ?_⟩) (by assumption) ?_
   rotate_left
   ·(intro w hSw; (try dsimp only at hSw); simp only [List.getElem_toArray, List.getElem_cons_zero, List.getElem_cons_succ]; go_simp; first | done | with_reducible rfl)
   simp only [List.getElem_toArray, List.getElem_cons_zero, List.getElem_cons_succ, Act.put, List.setIfInBounds_toArray, List.set_cons_zero, List.set_cons_succ]
   refine wpAnyH_ready (rs := [13]) (by kernel_rfl) (by simp) ?_
   refine AllReadyH.cons rfl (fun K hK => ?_) (AllReadyH.nil)
   have g0 := cellOf HXW.out 2 (v := .slice a1 n1 c1) rfl
   have f0 := frozenOf HXW.out 2
   simp only [List.getElem_toArray, List.getElem_cons_zero, List.getElem_cons_succ]
   go_simp
   refine hK.out _ _ ?_ (fun hHeld => ?_)
   ·exact HSS.out _ ((HMQ.out.mono (G := q :: (ob (.slice a1 n1 c1) ++ ob (.slice (some ⟨b0, off, none⟩) n2 c2))) (fun k hk => List.mem_cons_of_mem _ hk)).setCell (p := ⟨q, 2, none⟩) (List.mem_cons_self ..) _)
   clear hK K
   try simp only [Act.put, List.setIfInBounds_toArray, List.set_cons_zero, List.set_cons_succ]
   clear g0 f0
   have HXW := Lib.hid (setOf HXW.out 2 (.slice aa (n1 - 1) ca))
   refine wpAnyH_take (i := 14) (v := ?_) rfl (by kernel_rfl) (by kernel_rfl) (by kernel_rfl) (fun _ _ _ h => h) (Or.inl ⟨by rfl, ?_⟩) (by assumption) ?_
   rotate_left
   ·(intro w hSw; (try dsimp only at hSw); simp only [List.getElem_toArray, List.getElem_cons_zero, List.getElem_cons_succ]; go_simp; first | done | with_reducible rfl)
   simp only [List.getElem_toArray, List.getElem_cons_zero, List.getElem_cons_succ, Act.put, List.setIfInBounds_toArray, List.set_cons_zero, List.set_cons_succ]
   refine wpAnyH_ready (rs := [15]) (by kernel_rfl) (by simp) ?_
   refine AllReadyH.cons rfl (fun K hK => ?_) (AllReadyH.nil)
   have g0 := cellOf HXW.out 3 (v := .slice (some ⟨b0, off, none⟩) n2 c2) rfl
   have f0 := frozenOf HXW.out 3
   simp only [List.getElem_toArray, List.getElem_cons_zero, List.getElem_cons_succ]
   go_simp
   refine hK.out _ _ ?_ (fun hHeld => ?_)
   ·exact HSS.out _ (((HMQ.out.mono (G := q :: (ob (.slice a1 n1 c1) ++ ob (.slice (some ⟨b0, off, none⟩) n2 c2))) (fun k hk => List.mem_cons_of_mem _ hk)).setCell (p := ⟨q, 2, none⟩) (List.mem_cons_self ..) _).setCell (p := ⟨q, 3, none⟩) (List.mem_cons_self ..) _)
   clear hK K
   try simp only [Act.put, List.setIfInBounds_toArray, List.set_cons_zero, List.set_cons_succ]
   clear g0 f0
   refine wpAnyH_done (by kernel_rfl) ?_ _
   have HEND := Lib.hid hHeld.2
   have HSE := Lib.hid hHeld.1
   clear hHeld
   clear HSS HSE HEND
   obtain ⟨w10, hw10⟩ : ∃ W, (w9.setCell ⟨q, 2, none⟩ (.slice aa (n1 - 1) ca)).setCell ⟨q, 3, none⟩ (.slice ab (n2 - 1) cb) = W := ⟨_, rfl⟩
   rw [hw10]
   have HX10 : Hid (w10.heap[q]? = some (.cells #[.int .i64 kd, .int .u64 (bb : Int), .slice aa (n1 - 1) ca, .slice ab (n2 - 1) cb] 40 (0, 0))) := Lib.hid (by rw [← hw10]; exact setOf HXW.out 3 _)
   have HM10 : Hid (Mods [q] w9 w10) := Lib.hid (by rw [← hw10]; exact ((Mods.refl _ _).setCell (p := ⟨q, 2, none⟩) (List.mem_singleton.2 rfl) _).setCell (p := ⟨q, 3, none⟩) (List.mem_singleton.2 rfl) _)
   clear hw10 HXW
   have HRG : Hid (∀ k ∈ ob (.slice a1 n1 c1) ++ ob (.slice (some ⟨b0, off, none⟩) n2 c2), w1.heap.size ≤ k) := Lib.hid (fun k hk => by
    rcases List.mem_append.1 hk with h1 | h1
    ·exact ownsRow_ge HP1.out k (by rw [HQ1.out]; exact h1)
    ·exact ownsRow_ge HP2.out k (by rw [HQ2.out]; exact h1))
   have HSZ : Hid (w.heap.size < w1.heap.size) := Lib.hid (Array.getElem?_eq_some_iff.1 HX1.out).1
   have HMA : Hid (Mods [] w w10) := Lib.hid ((((((((Mods.of_below HB1.out).thenBelow HB2.out).thenBelow HB3.out).trans HM4.out (fun k hk => .inr (by rw [List.mem_singleton.1 hk]; exact Nat.le_refl _))).thenBelow HB5.out).trans HM6.out (fun k hk => .inr (by rw [List.mem_singleton.1 hk]; exact Nat.le_refl _))).trans HMQ.out (fun k hk => .inr (by have := HRG.out k hk; have := HSZ.out; omega))).trans HM10.out (fun k hk => .inr (by rw [List.mem_singleton.1 hk]; exact Nat.le_of_lt HQ.out)))
   have HC10 : Hid (w10.heap[w.heap.size]? = some (.cells #[.int .u32 (i : Int), .int .u32 0, .int .u64 0, .int .u64 0, .int .u64 (v : Int), .bool true] 136 (0, 0))) := Lib.hid (by
    have hl := (Array.getElem?_eq_some_iff.1 HC6.out).1
    have e1 := (HMQ.out.block _ hl (fun hh => by have := HRG.out _ hh; have := HSZ.out; omega)).trans HC6.out
    exact (HM10.out.block _ (Array.getElem?_eq_some_iff.1 e1).1 (fun hh => by have := HQ.out; have := List.mem_singleton.1 hh; omega)).trans e1)
   have HO1 : Hid (w10.ownsRow w1.heap.size 23 1 (.slice aa (n1 - 1) ca) (n1 - 1) (qV (y.keys.eraseIdx j))) := Lib.hid (ownsRow_at HP1.out (fun k hk => HM10.out.block k (ownsRow_lt HP1.out k hk) (fun hh => HNQ.out.1 (by rw [← List.mem_singleton.1 hh, ← HQ1.out]; exact hk))))
   have HO2 : Hid (w10.ownsRow w1.heap.size 23 1 (.slice ab (n2 - 1) cb) (n2 - 1) (qV (y.vals.eraseIdx j))) := Lib.hid (ownsRow_at HP2.out (fun k hk => HM10.out.block k (ownsRow_lt HP2.out k hk) (fun hh => HNQ.out.2.1 (by rw [← List.mem_singleton.1 hh, ← HQ2.out]; exact hk))))
   have HLN : Hid ((y.cut j).keys.length = n1 - 1 ∧ (y.cut j).vals.length = n2 - 1) := Lib.hid (by
    have h1 := HKB.out.2.2.1
    have h2 := HKB.out.2.2.2
    have h3 := HJL.out
    constructor
    ·show (y.keys.eraseIdx j).length = n1 - 1
     rw [List.length_eraseIdx, if_pos (by omega)]; omega
    ·show (y.vals.eraseIdx j).length = n2 - 1
     rw [List.length_eraseIdx, if_pos (by omega)]; omega)
   have CFt := tfirst_at w10 (y.cut j) (.slice aa (n1 - 1) ca) (.slice ab (n2 - 1) cb) (by rw [HLN.out.1]; exact Rd.of_own HO1.out)
   rw [show (y.cut j).k = kd from HKB.out.1.symm, show (y.cut j).b = bb from HKB.out.2.1.symm] at CFt
   obtain ⟨fk, hfk⟩ : ∃ z, (y.cut j).keys.getD 0 0 = z := ⟨_, rfl⟩
   rw [hfk] at CFt
   have HFK := Lib.hid hfk
   have d0 := cellOf HX10.out 0 (v := .int .i64 kd) rfl
   have d1 := cellOf HX10.out 1 (v := .int .u64 (bb : Int)) rfl
   have d2 := cellOf HX10.out 2 (v := .slice aa (n1 - 1) ca) rfl
   have d3 := cellOf HX10.out 3 (v := .slice ab (n2 - 1) cb) rfl
   clear hfk HMQ HM10 HP1 HP2 HQ1 HQ2 HRG
   go_wp2_with fail
   refine CFt.mono ?_
   rintro e w11 ⟨rfl, hb11⟩
   have HB11 := Lib.hid hb11
   have HC11 := Lib.hid ((hb11.block _ (Array.getElem?_eq_some_iff.1 HC10.out).1).trans HC10.out)
   have HX11 := Lib.hid ((hb11.block _ (Array.getElem?_eq_some_iff.1 HX10.out).1).trans HX10.out)
   have HO1 := Lib.hid (ownsRow_below HO1.out hb11)
   have HO2 := Lib.hid (ownsRow_below HO2.out hb11)
   have t2 := cellOf HC11.out 2 (v := .int .u64 0) rfl
   have f2 := frozenOf HC11.out 2
   clear CFt hb11 d0 d1 d2 d3
   go_upto_region 23 with fail
   clear t2 f2
   obtain ⟨w12, hw12⟩ : ∃ W, w11.setCell ⟨w.heap.size, 2, none⟩ (.int .u64 (fk : Int)) = W := ⟨_, rfl⟩
   rw [hw12]
   have HC12 : Hid (w12.heap[w.heap.size]? = some (.cells #[.int .u32 (i : Int), .int .u32 0, .int .u64 (fk : Int), .int .u64 0, .int .u64 (v : Int), .bool true] 136 (0, 0))) := Lib.hid (by rw [← hw12]; exact setOf HC11.out 2 _)
   have HM12 : Hid (Mods [w.heap.size] w11 w12) := Lib.hid (by rw [← hw12]; exact (Mods.refl _ _).setCell (p := ⟨w.heap.size, 2, none⟩) (List.mem_singleton.2 rfl) _)
   have HX12 := Lib.hid ((HM12.out.block _ (Array.getElem?_eq_some_iff.1 HX11.out).1 (fun hh => by have := HQ.out; have := List.mem_singleton.1 hh; omega)).trans HX11.out)
   have HO1 := Lib.hid (ownsRow_at HO1.out (fun k hk => HM12.out.block k (ownsRow_lt HO1.out k hk) (fun hh => by have := ownsRow_ge HO1.out k hk; have := HSZ.out; have := List.mem_singleton.1 hh; omega)))
   have HO2 := Lib.hid (ownsRow_at HO2.out (fun k hk => HM12.out.block k (ownsRow_lt HO2.out k hk) (fun hh => by have := ownsRow_ge HO2.out k hk; have := HSZ.out; have := List.mem_singleton.1 hh; omega)))
   have HB12 : Hid (Below w.heap.size w w12) := Lib.hid (((HMA.out.thenBelow HB11.out).trans HM12.out (fun k hk => .inr (by rw [List.mem_singleton.1 hk]; exact Nat.le_refl _))).below (fun k hk => by simp at hk) (Nat.le_refl _))
   have HMF : Hid (mf < w.heap.size) := Lib.hid HH.out.map.lt
   have CP : Hid (∀ X, Below w12.heap.size w12 X → Calls Tryz.prog 15 #[.pointer (some ⟨S, 0, none⟩), .int .u32 (i : Int), .agg #[.int .i64 kd, .int .u64 (bb : Int), .slice aa (n1 - 1) ca, .slice ab (n2 - 1) cb]] X (PutP X S B pm pd mf md s A D Fm Fd l (y.cut j) i y.b)) := Lib.hid (fun X hX => by
    have h9 := sput_in (HH.out.below (bthn HB12.out hX)) (y.cut j) (.slice aa (n1 - 1) ca) (.slice ab (n2 - 1) cb) (HY.out.cut (rises_up HY.out.up) j) (by rw [HLN.out.1]; exact Rd.of_own (ownsRow_below HO1.out hX)) (by rw [HLN.out.2]; exact Rd.of_own (ownsRow_below HO2.out hX)) i HPR.out.1 HPR.out.2.1 x y HG.out HPR.out.2.2.2
    rw [show (y.cut j).k = kd from HKB.out.1.symm, show (y.cut j).b = bb from HKB.out.2.1.symm] at h9
    exact h9)
   clear hw12
   have HSS : Hid (∀ X, Mods [mf, w.heap.size] w12 X → (X.cell? ⟨q, 0, none⟩ = some (.int .i64 kd) ∧ X.cell? ⟨q, 1, none⟩ = some (.int .u64 (bb : Int)) ∧ X.cell? ⟨q, 2, none⟩ = some (.slice aa (n1 - 1) ca) ∧ X.cell? ⟨q, 3, none⟩ = some (.slice ab (n2 - 1) cb)) ∧ Mods [mf, w.heap.size] w12 X) := Lib.hid (fun X hb => ⟨⟨(World.cell?_of_block (hb.block _ ((Array.getElem?_eq_some_iff.1 HX12.out).1) (by simp only [List.mem_cons, List.mem_nil_iff, or_false]; have := HQ.out; have := HMF.out; omega))).trans (cellOf HX12.out 0 rfl), (World.cell?_of_block (hb.block _ ((Array.getElem?_eq_some_iff.1 HX12.out).1) (by simp only [List.mem_cons, List.mem_nil_iff, or_false]; have := HQ.out; have := HMF.out; omega))).trans (cellOf HX12.out 1 rfl), (World.cell?_of_block (hb.block _ ((Array.getElem?_eq_some_iff.1 HX12.out).1) (by simp only [List.mem_cons, List.mem_nil_iff, or_false]; have := HQ.out; have := HMF.out; omega))).trans (cellOf HX12.out 2 rfl), (World.cell?_of_block (hb.block _ ((Array.getElem?_eq_some_iff.1 HX12.out).1) (by simp only [List.mem_cons, List.mem_nil_iff, or_false]; have := HQ.out; have := HMF.out; omega))).trans (cellOf HX12.out 3 rfl)⟩, hb⟩)
   refine wp_region_held_drew (S := fun X => (X.cell? ⟨q, 0, none⟩ = some (.int .i64 kd) ∧ X.cell? ⟨q, 1, none⟩ = some (.int .u64 (bb : Int)) ∧ X.cell? ⟨q, 2, none⟩ = some (.slice aa (n1 - 1) ca) ∧ X.cell? ⟨q, 3, none⟩ = some (.slice ab (n2 - 1) cb)) ∧ Mods [mf, w.heap.size] w12 X) (by kernel_rfl) (HSS.out _ (Mods.of_below (Below.refl _ _).drew)) (fun hHeld => ?_)
   have hbe : Below w12.heap.size w12 w12.drew := (Below.refl _ _).drew
   obtain ⟨wd, hwd⟩ : ∃ y, w12.drew = y := ⟨_, rfl⟩
   rw [hwd] at hHeld hbe ⊢
   have HBE := Lib.hid hbe
   have HS0 : Hid (w12.heap.size ≤ wd.heap.size) := Lib.hid HBE.out.size
   clear hwd hbe
   have HMD := Lib.hid (Mods.of_below (F := [mf, w.heap.size]) HBE.out)
   have HCW := Lib.hid ((HBE.out.block _ (Array.getElem?_eq_some_iff.1 HC12.out).1).trans HC12.out)
   refine wpAnyH_take (i := 1) (v := ?_) rfl (by kernel_rfl) (by kernel_rfl) (by kernel_rfl) (fun _ _ _ h => h) (Or.inl ⟨by rfl, ?_⟩) (by assumption) ?_
   rotate_left
   ·(intro w hSw; (try dsimp only at hSw); simp only [List.getElem_toArray, List.getElem_cons_zero, List.getElem_cons_succ]; go_simp; first | done | with_reducible rfl)
   simp only [List.getElem_toArray, List.getElem_cons_zero, List.getElem_cons_succ, Act.put, List.setIfInBounds_toArray, List.set_cons_zero, List.set_cons_succ]
   refine wpAnyH_take (i := 4) (v := ?_) rfl (by kernel_rfl) (by kernel_rfl) (by kernel_rfl) (fun _ _ _ h => h) (Or.inl ⟨by rfl, ?_⟩) (by assumption) ?_
   rotate_left
   ·(intro w hSw; (try dsimp only at hSw); simp only [List.getElem_toArray, List.getElem_cons_zero, List.getElem_cons_succ]; go_simp; first | done | with_reducible rfl)
   simp only [List.getElem_toArray, List.getElem_cons_zero, List.getElem_cons_succ, Act.put, List.setIfInBounds_toArray, List.set_cons_zero, List.set_cons_succ]
   refine wpAnyH_take (i := 5) (v := ?_) rfl (by kernel_rfl) (by kernel_rfl) (by kernel_rfl) (fun _ _ _ h => h) (Or.inl ⟨by rfl, ?_⟩) (by assumption) ?_
   rotate_left
   ·(intro w hSw; (try dsimp only at hSw); simp only [List.getElem_toArray, List.getElem_cons_zero, List.getElem_cons_succ]; go_simp; first | done | with_reducible rfl)
   simp only [List.getElem_toArray, List.getElem_cons_zero, List.getElem_cons_succ, Act.put, List.setIfInBounds_toArray, List.set_cons_zero, List.set_cons_succ]
   refine wpAnyH_take (i := 6) (v := ?_) rfl (by kernel_rfl) (by kernel_rfl) (by kernel_rfl) (fun _ _ _ h => h) (Or.inl ⟨by rfl, ?_⟩) (by assumption) ?_
   rotate_left
   ·(intro w hSw; (try dsimp only at hSw); simp only [List.getElem_toArray, List.getElem_cons_zero, List.getElem_cons_succ]; go_simp; first | done | with_reducible rfl)
   simp only [List.getElem_toArray, List.getElem_cons_zero, List.getElem_cons_succ, Act.put, List.setIfInBounds_toArray, List.set_cons_zero, List.set_cons_succ]
   refine wpAnyH_take (i := 2) (v := ?_) rfl (by kernel_rfl) (by kernel_rfl) (by kernel_rfl) (fun _ _ _ h => h) (Or.inl ⟨by rfl, ?_⟩) (by assumption) ?_
   rotate_left
   ·(intro w hSw; (try dsimp only at hSw); simp only [List.getElem_toArray, List.getElem_cons_zero, List.getElem_cons_succ]; go_simp; first | done | with_reducible rfl)
   simp only [List.getElem_toArray, List.getElem_cons_zero, List.getElem_cons_succ, Act.put, List.setIfInBounds_toArray, List.set_cons_zero, List.set_cons_succ]
   refine wpAnyH_take (i := 3) (v := ?_) rfl (by kernel_rfl) (by kernel_rfl) (by kernel_rfl) (fun _ _ _ h => h) (Or.inl ⟨by rfl, ?_⟩) (by assumption) ?_
   rotate_left
   ·(intro w hSw; (try dsimp only at hSw); simp only [List.getElem_toArray, List.getElem_cons_zero, List.getElem_cons_succ]; go_simp; first | done | with_reducible rfl)
   simp only [List.getElem_toArray, List.getElem_cons_zero, List.getElem_cons_succ, Act.put, List.setIfInBounds_toArray, List.set_cons_zero, List.set_cons_succ]
   refine wpAnyH_ready (rs := [0, 7]) (by kernel_rfl) (by simp) ?_
   refine AllReadyH.cons rfl (fun K hK => ?_) (AllReadyH.cons rfl (fun K hK => ?_) (AllReadyH.nil))
   ·skip
    have g0 := cellOf HCW.out 0 (v := .int .u32 (i : Int)) rfl
    have g1 := cellOf HCW.out 1 (v := .int .u32 0) rfl
    have g2 := cellOf HCW.out 2 (v := .int .u64 (fk : Int)) rfl
    have g3 := cellOf HCW.out 3 (v := .int .u64 0) rfl
    have g4 := cellOf HCW.out 4 (v := .int .u64 (v : Int)) rfl
    have g5 := cellOf HCW.out 5 (v := .bool true) rfl
    simp only [List.getElem_toArray, List.getElem_cons_zero, List.getElem_cons_succ]
    go_simp
    refine hK.out _ _ ?_ (fun hHeld => ?_)
    ·exact HSS.out _ HMD.out
    clear hK K
    try simp only [Act.put, List.setIfInBounds_toArray, List.set_cons_zero, List.set_cons_succ]
    clear g0 g1 g2 g3 g4 g5
    refine wpAnyH_ready (rs := [7]) (by kernel_rfl) (by simp) ?_
    refine AllReadyH.cons rfl (fun K hK => ?_) (AllReadyH.nil)
    simp only [List.getElem_toArray, List.getElem_cons_zero, List.getElem_cons_succ]
    go_simp
    refine (CP.out _ HBE.out).mono ?_
    rintro e w13 ⟨x2, rfl, hst, hms, hge⟩
    dsimp only
    refine hK.out _ _ ?_ (fun hHeld => ?_)
    ·exact HSS.out _ (HMD.out.trans hms (fun k hk => .inl (by rw [List.mem_singleton.1 hk]; exact List.mem_cons_self ..)))
    clear hK K
    try simp only [Act.put, List.setIfInBounds_toArray, List.set_cons_zero, List.set_cons_succ]
    have HCW := Lib.hid ((hms.block _ (Array.getElem?_eq_some_iff.1 HCW.out).1 (fun hh => by have := HMF.out; have := List.mem_singleton.1 hh; omega)).trans HCW.out)
    have HST := Lib.hid hst
    have HMS : Hid (Mods [mf] w12 w13) := Lib.hid ((Mods.of_below HBE.out).trans hms (fun k hk => .inl hk))
    have HGE : Hid (∀ k ∈ obN x2, w12.heap.size ≤ k) := Lib.hid (fun k hk => Nat.le_trans HBE.out.size (hge k hk))
    have HMD : Hid (Mods [mf, w.heap.size] w12 w13) := Lib.hid (HMS.out.mono (fun k hk => by rw [List.mem_singleton.1 hk]; exact List.mem_cons_self ..))
    clear hst hms hge
    refine wpAnyH_ready (rs := [8]) (by kernel_rfl) (by simp) ?_
    refine AllReadyH.cons rfl (fun K hK => ?_) (AllReadyH.nil)
    have g0 := cellOf HCW.out 0 (v := .int .u32 (i : Int)) rfl
    have g1 := cellOf HCW.out 1 (v := .int .u32 0) rfl
    have g2 := cellOf HCW.out 2 (v := .int .u64 (fk : Int)) rfl
    have g3 := cellOf HCW.out 3 (v := .int .u64 0) rfl
    have g4 := cellOf HCW.out 4 (v := .int .u64 (v : Int)) rfl
    have g5 := cellOf HCW.out 5 (v := .bool true) rfl
    have f0 := frozenOf HCW.out 0
    have f1 := frozenOf HCW.out 1
    have f2 := frozenOf HCW.out 2
    have f3 := frozenOf HCW.out 3
    have f4 := frozenOf HCW.out 4
    have f5 := frozenOf HCW.out 5
    simp only [List.getElem_toArray, List.getElem_cons_zero, List.getElem_cons_succ]
    go_simp
    refine hK.out _ _ ?_ (fun hHeld => ?_)
    ·exact HSS.out _ ((((((HMD.out.setCell (p := ⟨w.heap.size, 0, none⟩) (by simp) _).setCell (p := ⟨w.heap.size, 1, none⟩) (by simp) _).setCell (p := ⟨w.heap.size, 2, none⟩) (by simp) _).setCell (p := ⟨w.heap.size, 3, none⟩) (by simp) _).setCell (p := ⟨w.heap.size, 4, none⟩) (by simp) _).setCell (p := ⟨w.heap.size, 5, none⟩) (by simp) _)
    clear hK K
    try simp only [Act.put, List.setIfInBounds_toArray, List.set_cons_zero, List.set_cons_succ]
    clear g0 g1 g2 g3 g4 g5 f0 f1 f2 f3 f4 f5
    obtain ⟨w14, hw14⟩ : ∃ W, ((((((w13.setCell ⟨w.heap.size, 0, none⟩ (.int .u32 (i : Int))).setCell ⟨w.heap.size, 1, none⟩ (.int .u32 0)).setCell ⟨w.heap.size, 2, none⟩ (.int .u64 (fk : Int))).setCell ⟨w.heap.size, 3, none⟩ (.int .u64 0)).setCell ⟨w.heap.size, 4, none⟩ (.int .u64 (v : Int))).setCell ⟨w.heap.size, 5, none⟩ (.bool true)) = W := ⟨_, rfl⟩
    rw [hw14] at hHeld ⊢
    have HCE : Hid (w14.heap[w.heap.size]? = some (.cells #[.int .u32 (i : Int), .int .u32 0, .int .u64 (fk : Int), .int .u64 0, .int .u64 (v : Int), .bool true] 136 (0, 0))) := Lib.hid (by rw [← hw14]; exact setOf (setOf (setOf (setOf (setOf (setOf HCW.out 0 _) 1 _) 2 _) 3 _) 4 _) 5 _)
    have HME : Hid (Mods [w.heap.size] w13 w14) := Lib.hid (by rw [← hw14]; exact (((((((Mods.refl _ _).setCell (p := ⟨w.heap.size, 0, none⟩) (by simp) _).setCell (p := ⟨w.heap.size, 1, none⟩) (by simp) _).setCell (p := ⟨w.heap.size, 2, none⟩) (by simp) _).setCell (p := ⟨w.heap.size, 3, none⟩) (by simp) _).setCell (p := ⟨w.heap.size, 4, none⟩) (by simp) _).setCell (p := ⟨w.heap.size, 5, none⟩) (by simp) _))
    clear hw14
    refine wpAnyH_take (i := 9) (v := ?_) rfl (by kernel_rfl) (by kernel_rfl) (by kernel_rfl) (fun _ _ _ h => h) (Or.inl ⟨by rfl, ?_⟩) (by assumption) ?_
    rotate_left
    ·(intro w hSw; (try dsimp only at hSw); simp only [List.getElem_toArray, List.getElem_cons_zero, List.getElem_cons_succ]; go_simp; first | done | with_reducible rfl)
    simp only [List.getElem_toArray, List.getElem_cons_zero, List.getElem_cons_succ, Act.put, List.setIfInBounds_toArray, List.set_cons_zero, List.set_cons_succ]
    refine wpAnyH_take (i := 10) (v := ?_) rfl (by kernel_rfl) (by kernel_rfl) (by kernel_rfl) (fun _ _ _ h => h) (Or.inl ⟨by rfl, ?_⟩) (by assumption) ?_
    rotate_left
    ·(intro w hSw; (try dsimp only at hSw); simp only [List.getElem_toArray, List.getElem_cons_zero, List.getElem_cons_succ]; go_simp; first | done | with_reducible rfl)
    simp only [List.getElem_toArray, List.getElem_cons_zero, List.getElem_cons_succ, Act.put, List.setIfInBounds_toArray, List.set_cons_zero, List.set_cons_succ]
    refine wpAnyH_done (by kernel_rfl) ?_ _
    have HEND := Lib.hid hHeld.2
    have HSE := Lib.hid hHeld.1
    clear hHeld
    clear HSS HSE HEND
    go_wp2_with fail
    refine bodyPost_ret (v := .tuple #[.agg #[.int .u32 (i : Int), .int .u32 0, .int .u64 (fk : Int), .int .u64 0, .int .u64 (v : Int), .bool true], .int .i64 ((n1 - 1 : Nat) : Int), .int .i64 0]) ?_ rfl ⟨x2, ?_, ?_, ?_, ?_⟩
    ·rw [ret_ctt rfl]
     have r1 := run_loadVar_mid (P := Tryz.prog) w14 w.heap.size 0 136 [.int .u32 (i : Int), .int .u32 0, .int .u64 (fk : Int), .int .u64 0, .int .u64 (v : Int), .bool true] _ (rangeOf HCE.out) Tryz.underlying136 rfl infoCh
     simp only [asAddr, Array.getD_eq_getD_getElem?, List.getElem?_toArray, List.getElem?_cons_succ, List.getElem?_cons_zero, Option.getD_some, Sem.run_pure, Result.andThen_ok, r1]
    ·rw [HJ.out, HFK.out, ← HKB.out.2.2.1]
    ·rw [HJ.out]
     refine HST.out.other HME.out (fun k hk hh => ?_) (fun p hp k hk hh => ?_)
     ·have := HH.out.lt k hk
      have := List.mem_singleton.1 hh
      omega
     ·have e := List.mem_singleton.1 hh
      rcases mem_putA hp with rfl | hp
      ·have h1 := HGE.out k hk
       have h2 := HSZ.out
       have h3 := HB12.out.size
       have h4 := (Array.getElem?_eq_some_iff.1 HC12.out).1
       omega
      ·have := (HH.out.nd p hp).lt k hk
       omega
    ·exact ((Mods.of_below HB12.out).trans HMS.out (fun k hk => .inl hk)).trans HME.out (fun k hk => .inr (by rw [List.mem_singleton.1 hk]; exact Nat.le_refl _))
    ·exact fun k hk => Nat.le_trans HB12.out.size (HGE.out k hk)
   ·skip
    simp only [List.getElem_toArray, List.getElem_cons_zero, List.getElem_cons_succ]
    go_simp
    refine (CP.out _ HBE.out).mono ?_
    rintro e w13 ⟨x2, rfl, hst, hms, hge⟩
    dsimp only
    refine hK.out _ _ ?_ (fun hHeld => ?_)
    ·exact HSS.out _ (HMD.out.trans hms (fun k hk => .inl (by rw [List.mem_singleton.1 hk]; exact List.mem_cons_self ..)))
    clear hK K
    try simp only [Act.put, List.setIfInBounds_toArray, List.set_cons_zero, List.set_cons_succ]
    have HCW := Lib.hid ((hms.block _ (Array.getElem?_eq_some_iff.1 HCW.out).1 (fun hh => by have := HMF.out; have := List.mem_singleton.1 hh; omega)).trans HCW.out)
    have HST := Lib.hid hst
    have HMS : Hid (Mods [mf] w12 w13) := Lib.hid ((Mods.of_below HBE.out).trans hms (fun k hk => .inl hk))
    have HGE : Hid (∀ k ∈ obN x2, w12.heap.size ≤ k) := Lib.hid (fun k hk => Nat.le_trans HBE.out.size (hge k hk))
    have HMD : Hid (Mods [mf, w.heap.size] w12 w13) := Lib.hid (HMS.out.mono (fun k hk => by rw [List.mem_singleton.1 hk]; exact List.mem_cons_self ..))
    clear hst hms hge
    refine wpAnyH_ready (rs := [0]) (by kernel_rfl) (by simp) ?_
    refine AllReadyH.cons rfl (fun K hK => ?_) (AllReadyH.nil)
    have g0 := cellOf HCW.out 0 (v := .int .u32 (i : Int)) rfl
    have g1 := cellOf HCW.out 1 (v := .int .u32 0) rfl
    have g2 := cellOf HCW.out 2 (v := .int .u64 (fk : Int)) rfl
    have g3 := cellOf HCW.out 3 (v := .int .u64 0) rfl
    have g4 := cellOf HCW.out 4 (v := .int .u64 (v : Int)) rfl
    have g5 := cellOf HCW.out 5 (v := .bool true) rfl
    simp only [List.getElem_toArray, List.getElem_cons_zero, List.getElem_cons_succ]
    go_simp
    refine hK.out _ _ ?_ (fun hHeld => ?_)
    ·exact HSS.out _ HMD.out
    clear hK K
    try simp only [Act.put, List.setIfInBounds_toArray, List.set_cons_zero, List.set_cons_succ]
    clear g0 g1 g2 g3 g4 g5
    refine wpAnyH_ready (rs := [8]) (by kernel_rfl) (by simp) ?_
    refine AllReadyH.cons rfl (fun K hK => ?_) (AllReadyH.nil)
    have g0 := cellOf HCW.out 0 (v := .int .u32 (i : Int)) rfl
    have g1 := cellOf HCW.out 1 (v := .int .u32 0) rfl
    have g2 := cellOf HCW.out 2 (v := .int .u64 (fk : Int)) rfl
    have g3 := cellOf HCW.out 3 (v := .int .u64 0) rfl
    have g4 := cellOf HCW.out 4 (v := .int .u64 (v : Int)) rfl
    have g5 := cellOf HCW.out 5 (v := .bool true) rfl
    have f0 := frozenOf HCW.out 0
    have f1 := frozenOf HCW.out 1
    have f2 := frozenOf HCW.out 2
    have f3 := frozenOf HCW.out 3
    have f4 := frozenOf HCW.out 4
    have f5 := frozenOf HCW.out 5
    simp only [List.getElem_toArray, List.getElem_cons_zero, List.getElem_cons_succ]
    go_simp
    refine hK.out _ _ ?_ (fun hHeld => ?_)
    ·exact HSS.out _ ((((((HMD.out.setCell (p := ⟨w.heap.size, 0, none⟩) (by simp) _).setCell (p := ⟨w.heap.size, 1, none⟩) (by simp) _).setCell (p := ⟨w.heap.size, 2, none⟩) (by simp) _).setCell (p := ⟨w.heap.size, 3, none⟩) (by simp) _).setCell (p := ⟨w.heap.size, 4, none⟩) (by simp) _).setCell (p := ⟨w.heap.size, 5, none⟩) (by simp) _)
    clear hK K
    try simp only [Act.put, List.setIfInBounds_toArray, List.set_cons_zero, List.set_cons_succ]
    clear g0 g1 g2 g3 g4 g5 f0 f1 f2 f3 f4 f5
    obtain ⟨w14, hw14⟩ : ∃ W, ((((((w13.setCell ⟨w.heap.size, 0, none⟩ (.int .u32 (i : Int))).setCell ⟨w.heap.size, 1, none⟩ (.int .u32 0)).setCell ⟨w.heap.size, 2, none⟩ (.int .u64 (fk : Int))).setCell ⟨w.heap.size, 3, none⟩ (.int .u64 0)).setCell ⟨w.heap.size, 4, none⟩ (.int .u64 (v : Int))).setCell ⟨w.heap.size, 5, none⟩ (.bool true)) = W := ⟨_, rfl⟩
    rw [hw14] at hHeld ⊢
    have HCE : Hid (w14.heap[w.heap.size]? = some (.cells #[.int .u32 (i : Int), .int .u32 0, .int .u64 (fk : Int), .int .u64 0, .int .u64 (v : Int), .bool true] 136 (0, 0))) := Lib.hid (by rw [← hw14]; exact setOf (setOf (setOf (setOf (setOf (setOf HCW.out 0 _) 1 _) 2 _) 3 _) 4 _) 5 _)
    have HME : Hid (Mods [w.heap.size] w13 w14) := Lib.hid (by rw [← hw14]; exact (((((((Mods.refl _ _).setCell (p := ⟨w.heap.size, 0, none⟩) (by simp) _).setCell (p := ⟨w.heap.size, 1, none⟩) (by simp) _).setCell (p := ⟨w.heap.size, 2, none⟩) (by simp) _).setCell (p := ⟨w.heap.size, 3, none⟩) (by simp) _).setCell (p := ⟨w.heap.size, 4, none⟩) (by simp) _).setCell (p := ⟨w.heap.size, 5, none⟩) (by simp) _))
    clear hw14
    refine wpAnyH_take (i := 9) (v := ?_) rfl (by kernel_rfl) (by kernel_rfl) (by kernel_rfl) (fun _ _ _ h => h) (Or.inl ⟨by rfl, ?_⟩) (by assumption) ?_
    rotate_left
    ·(intro w hSw; (try dsimp only at hSw); simp only [List.getElem_toArray, List.getElem_cons_zero, List.getElem_cons_succ]; go_simp; first | done | with_reducible rfl)
    simp only [List.getElem_toArray, List.getElem_cons_zero, List.getElem_cons_succ, Act.put, List.setIfInBounds_toArray, List.set_cons_zero, List.set_cons_succ]
    refine wpAnyH_take (i := 10) (v := ?_) rfl (by kernel_rfl) (by kernel_rfl) (by kernel_rfl) (fun _ _ _ h => h) (Or.inl ⟨by rfl, ?_⟩) (by assumption) ?_
    rotate_left
    ·(intro w hSw; (try dsimp only at hSw); simp only [List.getElem_toArray, List.getElem_cons_zero, List.getElem_cons_succ]; go_simp; first | done | with_reducible rfl)
    simp only [List.getElem_toArray, List.getElem_cons_zero, List.getElem_cons_succ, Act.put, List.setIfInBounds_toArray, List.set_cons_zero, List.set_cons_succ]
    refine wpAnyH_done (by kernel_rfl) ?_ _
    have HEND := Lib.hid hHeld.2
    have HSE := Lib.hid hHeld.1
    clear hHeld
    clear HSS HSE HEND
    go_wp2_with fail
    refine bodyPost_ret (v := .tuple #[.agg #[.int .u32 (i : Int), .int .u32 0, .int .u64 (fk : Int), .int .u64 0, .int .u64 (v : Int), .bool true], .int .i64 ((n1 - 1 : Nat) : Int), .int .i64 0]) ?_ rfl ⟨x2, ?_, ?_, ?_, ?_⟩
    ·rw [ret_ctt rfl]
     have r1 := run_loadVar_mid (P := Tryz.prog) w14 w.heap.size 0 136 [.int .u32 (i : Int), .int .u32 0, .int .u64 (fk : Int), .int .u64 0, .int .u64 (v : Int), .bool true] _ (rangeOf HCE.out) Tryz.underlying136 rfl infoCh
     simp only [asAddr, Array.getD_eq_getD_getElem?, List.getElem?_toArray, List.getElem?_cons_succ, List.getElem?_cons_zero, Option.getD_some, Sem.run_pure, Result.andThen_ok, r1]
    ·rw [HJ.out, HFK.out, ← HKB.out.2.2.1]
    ·rw [HJ.out]
     refine HST.out.other HME.out (fun k hk hh => ?_) (fun p hp k hk hh => ?_)
     ·have := HH.out.lt k hk
      have := List.mem_singleton.1 hh
      omega
     ·have e := List.mem_singleton.1 hh
      rcases mem_putA hp with rfl | hp
      ·have h1 := HGE.out k hk
       have h2 := HSZ.out
       have h3 := HB12.out.size
       have h4 := (Array.getElem?_eq_some_iff.1 HC12.out).1
       omega
      ·have := (HH.out.nd p hp).lt k hk
       omega
    ·exact ((Mods.of_below HB12.out).trans HMS.out (fun k hk => .inl hk)).trans HME.out (fun k hk => .inr (by rw [List.mem_singleton.1 hk]; exact Nat.le_refl _))
    ·exact fun k hk => Nat.le_trans HB12.out.size (HGE.out k hk)
  ·skip
   have hrd := cellOf HXW.out 3 (v := .slice (some ⟨b0, off, none⟩) n2 c2) rfl
   simp only [List.getElem_toArray, List.getElem_cons_zero, List.getElem_cons_succ]
   go_simp
   clear hrd
   refine hK.out _ _ ?_ (fun hHeld => ?_)
   ·exact (by first | exact HSS.out _ (Mods.of_below HBE.out) | exact HSS.out _ HMD.out)
   clear hK K
   try simp only [Act.put, List.setIfInBounds_toArray, List.set_cons_zero, List.set_cons_succ]
   refine wpAnyH_ready (rs := [5]) (by kernel_rfl) (by simp) ?_
   refine AllReadyH.cons rfl (fun K hK => ?_) (AllReadyH.nil)
   simp only [List.getElem_toArray, List.getElem_cons_zero, List.getElem_cons_succ]
   go_simp
   refine (CD1.out _ HO1.out).mono ?_
   rintro e w8 ⟨va, rfl, ho1, hob1, hm8⟩
   dsimp only
   refine hK.out _ _ ?_ (fun hHeld => ?_)
   ·exact HSS.out _ ((HMQ.out.trans hm8 (fun k hk => .inl (List.mem_append_left _ hk))).mono (fun k hk => List.mem_cons_of_mem _ hk))
   clear hK K
   try simp only [Act.put, List.setIfInBounds_toArray, List.set_cons_zero, List.set_cons_succ]
   have HMQ := Lib.hid (HMQ.out.trans hm8 (fun k hk => .inl (List.mem_append_left _ hk)))
   have HXW := Lib.hid ((hm8.block _ (Array.getElem?_eq_some_iff.1 HXW.out).1 HNQ.out.1).trans HXW.out)
   have HO2 := Lib.hid (ownsRow_at HO2.out (fun k hk => hm8.block k (ownsRow_lt HO2.out k hk) (HNQ.out.2.2 k hk)))
   obtain ⟨aa, ca, ea⟩ := row_slx ho1
   subst ea
   have HP1 := Lib.hid ho1
   have HMD : Hid (Mods (q :: (ob (.slice a1 n1 c1) ++ ob (.slice (some ⟨b0, off, none⟩) n2 c2))) w6 w8) := Lib.hid (HMQ.out.mono (fun k hk => List.mem_cons_of_mem _ hk))
   have HQ1 := Lib.hid hob1
   clear ho1 hob1 hm8
   refine wpAnyH_ready (rs := [11]) (by kernel_rfl) (by simp) ?_
   refine AllReadyH.cons rfl (fun K hK => ?_) (AllReadyH.nil)
   simp only [List.getElem_toArray, List.getElem_cons_zero, List.getElem_cons_succ]
   go_simp
   refine (CD2.out _ HO2.out).mono ?_
   rintro e w9 ⟨vb, rfl, ho2, hob2, hm9⟩
   dsimp only
   refine hK.out _ _ ?_ (fun hHeld => ?_)
   ·exact HSS.out _ ((HMQ.out.trans hm9 (fun k hk => .inl (List.mem_append_right _ hk))).mono (fun k hk => List.mem_cons_of_mem _ hk))
   clear hK K
   try simp only [Act.put, List.setIfInBounds_toArray, List.set_cons_zero, List.set_cons_succ]
   have HMQ := Lib.hid (HMQ.out.trans hm9 (fun k hk => .inl (List.mem_append_right _ hk)))
   have HXW := Lib.hid ((hm9.block _ (Array.getElem?_eq_some_iff.1 HXW.out).1 HNQ.out.2.1).trans HXW.out)
   obtain ⟨ab, cb, eb⟩ := row_slx ho2
   subst eb
   have HP2 := Lib.hid ho2
   have HQ2 := Lib.hid hob2
   have HP1 := Lib.hid (ownsRow_at HP1.out (fun k hk => hm9.block k (ownsRow_lt HP1.out k hk) (fun hh => HNQ.out.2.2 k hh (by rw [← HQ1.out]; exact hk))))
   clear ho2 hob2 hm9
   refine wpAnyH_take (i := 12) (v := ?_) rfl (by kernel_rfl) (by kernel_rfl) (by kernel_rfl) (fun _ _ _ h => h) (Or.inl ⟨by rfl, ?_⟩) (by assumption) ?_
   rotate_left
   ·(intro w hSw; (try dsimp only at hSw); simp only [List.getElem_toArray, List.getElem_cons_zero, List.getElem_cons_succ]; go_simp; first | done | with_reducible rfl)
   simp only [List.getElem_toArray, List.getElem_cons_zero, List.getElem_cons_succ, Act.put, List.setIfInBounds_toArray, List.set_cons_zero, List.set_cons_succ]
   refine wpAnyH_ready (rs := [13]) (by kernel_rfl) (by simp) ?_
   refine AllReadyH.cons rfl (fun K hK => ?_) (AllReadyH.nil)
   have g0 := cellOf HXW.out 2 (v := .slice a1 n1 c1) rfl
   have f0 := frozenOf HXW.out 2
   simp only [List.getElem_toArray, List.getElem_cons_zero, List.getElem_cons_succ]
   go_simp
   refine hK.out _ _ ?_ (fun hHeld => ?_)
   ·exact HSS.out _ ((HMQ.out.mono (G := q :: (ob (.slice a1 n1 c1) ++ ob (.slice (some ⟨b0, off, none⟩) n2 c2))) (fun k hk => List.mem_cons_of_mem _ hk)).setCell (p := ⟨q, 2, none⟩) (List.mem_cons_self ..) _)
   clear hK K
   try simp only [Act.put, List.setIfInBounds_toArray, List.set_cons_zero, List.set_cons_succ]
   clear g0 f0
   have HXW := Lib.hid (setOf HXW.out 2 (.slice aa (n1 - 1) ca))
   refine wpAnyH_take (i := 14) (v := ?_) rfl (by kernel_rfl) (by kernel_rfl) (by kernel_rfl) (fun _ _ _ h => h) (Or.inl ⟨by rfl, ?_⟩) (by assumption) ?_
   rotate_left
   ·(intro w hSw; (try dsimp only at hSw); simp only [List.getElem_toArray, List.getElem_cons_zero, List.getElem_cons_succ]; go_simp; first | done | with_reducible rfl)
   simp only [List.getElem_toArray, List.getElem_cons_zero, List.getElem_cons_succ, Act.put, List.setIfInBounds_toArray, List.set_cons_zero, List.set_cons_succ]
   refine wpAnyH_ready (rs := [15]) (by kernel_rfl) (by simp) ?_
   refine AllReadyH.cons rfl (fun K hK => ?_) (AllReadyH.nil)
   have g0 := cellOf HXW.out 3 (v := .slice (some ⟨b0, off, none⟩) n2 c2) rfl
   have f0 := frozenOf HXW.out 3
   simp only [List.getElem_toArray, List.getElem_cons_zero, List.getElem_cons_succ]
   go_simp
   refine hK.out _ _ ?_ (fun hHeld => ?_)
   ·exact HSS.out _ (((HMQ.out.mono (G := q :: (ob (.slice a1 n1 c1) ++ ob (.slice (some ⟨b0, off, none⟩) n2 c2))) (fun k hk => List.mem_cons_of_mem _ hk)).setCell (p := ⟨q, 2, none⟩) (List.mem_cons_self ..) _).setCell (p := ⟨q, 3, none⟩) (List.mem_cons_self ..) _)
   clear hK K
   try simp only [Act.put, List.setIfInBounds_toArray, List.set_cons_zero, List.set_cons_succ]
   clear g0 f0
   refine wpAnyH_done (by kernel_rfl) ?_ _
   have HEND := Lib.hid hHeld.2
   have HSE := Lib.hid hHeld.1
   clear hHeld
   clear HSS HSE HEND
   obtain ⟨w10, hw10⟩ : ∃ W, (w9.setCell ⟨q, 2, none⟩ (.slice aa (n1 - 1) ca)).setCell ⟨q, 3, none⟩ (.slice ab (n2 - 1) cb) = W := ⟨_, rfl⟩
   rw [hw10]
   have HX10 : Hid (w10.heap[q]? = some (.cells #[.int .i64 kd, .int .u64 (bb : Int), .slice aa (n1 - 1) ca, .slice ab (n2 - 1) cb] 40 (0, 0))) := Lib.hid (by rw [← hw10]; exact setOf HXW.out 3 _)
   have HM10 : Hid (Mods [q] w9 w10) := Lib.hid (by rw [← hw10]; exact ((Mods.refl _ _).setCell (p := ⟨q, 2, none⟩) (List.mem_singleton.2 rfl) _).setCell (p := ⟨q, 3, none⟩) (List.mem_singleton.2 rfl) _)
   clear hw10 HXW
   have HRG : Hid (∀ k ∈ ob (.slice a1 n1 c1) ++ ob (.slice (some ⟨b0, off, none⟩) n2 c2), w1.heap.size ≤ k) := Lib.hid (fun k hk => by
    rcases List.mem_append.1 hk with h1 | h1
    ·exact ownsRow_ge HP1.out k (by rw [HQ1.out]; exact h1)
    ·exact ownsRow_ge HP2.out k (by rw [HQ2.out]; exact h1))
   have HSZ : Hid (w.heap.size < w1.heap.size) := Lib.hid (Array.getElem?_eq_some_iff.1 HX1.out).1
   have HMA : Hid (Mods [] w w10) := Lib.hid ((((((((Mods.of_below HB1.out).thenBelow HB2.out).thenBelow HB3.out).trans HM4.out (fun k hk => .inr (by rw [List.mem_singleton.1 hk]; exact Nat.le_refl _))).thenBelow HB5.out).trans HM6.out (fun k hk => .inr (by rw [List.mem_singleton.1 hk]; exact Nat.le_refl _))).trans HMQ.out (fun k hk => .inr (by have := HRG.out k hk; have := HSZ.out; omega))).trans HM10.out (fun k hk => .inr (by rw [List.mem_singleton.1 hk]; exact Nat.le_of_lt HQ.out)))
   have HC10 : Hid (w10.heap[w.heap.size]? = some (.cells #[.int .u32 (i : Int), .int .u32 0, .int .u64 0, .int .u64 0, .int .u64 (v : Int), .bool true] 136 (0, 0))) := Lib.hid (by
    have hl := (Array.getElem?_eq_some_iff.1 HC6.out).1
    have e1 := (HMQ.out.block _ hl (fun hh => by have := HRG.out _ hh; have := HSZ.out; omega)).trans HC6.out
    exact (HM10.out.block _ (Array.getElem?_eq_some_iff.1 e1).1 (fun hh => by have := HQ.out; have := List.mem_singleton.1 hh; omega)).trans e1)
   have HO1 : Hid (w10.ownsRow w1.heap.size 23 1 (.slice aa (n1 - 1) ca) (n1 - 1) (qV (y.keys.eraseIdx j))) := Lib.hid (ownsRow_at HP1.out (fun k hk => HM10.out.block k (ownsRow_lt HP1.out k hk) (fun hh => HNQ.out.1 (by rw [← List.mem_singleton.1 hh, ← HQ1.out]; exact hk))))
   have HO2 : Hid (w10.ownsRow w1.heap.size 23 1 (.slice ab (n2 - 1) cb) (n2 - 1) (qV (y.vals.eraseIdx j))) := Lib.hid (ownsRow_at HP2.out (fun k hk => HM10.out.block k (ownsRow_lt HP2.out k hk) (fun hh => HNQ.out.2.1 (by rw [← List.mem_singleton.1 hh, ← HQ2.out]; exact hk))))
   have HLN : Hid ((y.cut j).keys.length = n1 - 1 ∧ (y.cut j).vals.length = n2 - 1) := Lib.hid (by
    have h1 := HKB.out.2.2.1
    have h2 := HKB.out.2.2.2
    have h3 := HJL.out
    constructor
    ·show (y.keys.eraseIdx j).length = n1 - 1
     rw [List.length_eraseIdx, if_pos (by omega)]; omega
    ·show (y.vals.eraseIdx j).length = n2 - 1
     rw [List.length_eraseIdx, if_pos (by omega)]; omega)
   have CFt := tfirst_at w10 (y.cut j) (.slice aa (n1 - 1) ca) (.slice ab (n2 - 1) cb) (by rw [HLN.out.1]; exact Rd.of_own HO1.out)
   rw [show (y.cut j).k = kd from HKB.out.1.symm, show (y.cut j).b = bb from HKB.out.2.1.symm] at CFt
   obtain ⟨fk, hfk⟩ : ∃ z, (y.cut j).keys.getD 0 0 = z := ⟨_, rfl⟩
   rw [hfk] at CFt
   have HFK := Lib.hid hfk
   have d0 := cellOf HX10.out 0 (v := .int .i64 kd) rfl
   have d1 := cellOf HX10.out 1 (v := .int .u64 (bb : Int)) rfl
   have d2 := cellOf HX10.out 2 (v := .slice aa (n1 - 1) ca) rfl
   have d3 := cellOf HX10.out 3 (v := .slice ab (n2 - 1) cb) rfl
   clear hfk HMQ HM10 HP1 HP2 HQ1 HQ2 HRG
   go_wp2_with fail
   refine CFt.mono ?_
   rintro e w11 ⟨rfl, hb11⟩
   have HB11 := Lib.hid hb11
   have HC11 := Lib.hid ((hb11.block _ (Array.getElem?_eq_some_iff.1 HC10.out).1).trans HC10.out)
   have HX11 := Lib.hid ((hb11.block _ (Array.getElem?_eq_some_iff.1 HX10.out).1).trans HX10.out)
   have HO1 := Lib.hid (ownsRow_below HO1.out hb11)
   have HO2 := Lib.hid (ownsRow_below HO2.out hb11)
   have t2 := cellOf HC11.out 2 (v := .int .u64 0) rfl
   have f2 := frozenOf HC11.out 2
   clear CFt hb11 d0 d1 d2 d3
   go_upto_region 23 with fail
   clear t2 f2
   obtain ⟨w12, hw12⟩ : ∃ W, w11.setCell ⟨w.heap.size, 2, none⟩ (.int .u64 (fk : Int)) = W := ⟨_, rfl⟩
   rw [hw12]
   have HC12 : Hid (w12.heap[w.heap.size]? = some (.cells #[.int .u32 (i : Int), .int .u32 0, .int .u64 (fk : Int), .int .u64 0, .int .u64 (v : Int), .bool true] 136 (0, 0))) := Lib.hid (by rw [← hw12]; exact setOf HC11.out 2 _)
   have HM12 : Hid (Mods [w.heap.size] w11 w12) := Lib.hid (by rw [← hw12]; exact (Mods.refl _ _).setCell (p := ⟨w.heap.size, 2, none⟩) (List.mem_singleton.2 rfl) _)
   have HX12 := Lib.hid ((HM12.out.block _ (Array.getElem?_eq_some_iff.1 HX11.out).1 (fun hh => by have := HQ.out; have := List.mem_singleton.1 hh; omega)).trans HX11.out)
   have HO1 := Lib.hid (ownsRow_at HO1.out (fun k hk => HM12.out.block k (ownsRow_lt HO1.out k hk) (fun hh => by have := ownsRow_ge HO1.out k hk; have := HSZ.out; have := List.mem_singleton.1 hh; omega)))
   have HO2 := Lib.hid (ownsRow_at HO2.out (fun k hk => HM12.out.block k (ownsRow_lt HO2.out k hk) (fun hh => by have := ownsRow_ge HO2.out k hk; have := HSZ.out; have := List.mem_singleton.1 hh; omega)))
   have HB12 : Hid (Below w.heap.size w w12) := Lib.hid (((HMA.out.thenBelow HB11.out).trans HM12.out (fun k hk => .inr (by rw [List.mem_singleton.1 hk]; exact Nat.le_refl _))).below (fun k hk => by simp at hk) (Nat.le_refl _))
   have HMF : Hid (mf < w.heap.size) := Lib.hid HH.out.map.lt
   have CP : Hid (∀ X, Below w12.heap.size w12 X → Calls Tryz.prog 15 #[.pointer (some ⟨S, 0, none⟩), .int .u32 (i : Int), .agg #[.int .i64 kd, .int .u64 (bb : Int), .slice aa (n1 - 1) ca, .slice ab (n2 - 1) cb]] X (PutP X S B pm pd mf md s A D Fm Fd l (y.cut j) i y.b)) := Lib.hid (fun X hX => by
    have h9 := sput_in (HH.out.below (bthn HB12.out hX)) (y.cut j) (.slice aa (n1 - 1) ca) (.slice ab (n2 - 1) cb) (HY.out.cut (rises_up HY.out.up) j) (by rw [HLN.out.1]; exact Rd.of_own (ownsRow_below HO1.out hX)) (by rw [HLN.out.2]; exact Rd.of_own (ownsRow_below HO2.out hX)) i HPR.out.1 HPR.out.2.1 x y HG.out HPR.out.2.2.2
    rw [show (y.cut j).k = kd from HKB.out.1.symm, show (y.cut j).b = bb from HKB.out.2.1.symm] at h9
    exact h9)
   clear hw12
   have HSS : Hid (∀ X, Mods [mf, w.heap.size] w12 X → (X.cell? ⟨q, 0, none⟩ = some (.int .i64 kd) ∧ X.cell? ⟨q, 1, none⟩ = some (.int .u64 (bb : Int)) ∧ X.cell? ⟨q, 2, none⟩ = some (.slice aa (n1 - 1) ca) ∧ X.cell? ⟨q, 3, none⟩ = some (.slice ab (n2 - 1) cb)) ∧ Mods [mf, w.heap.size] w12 X) := Lib.hid (fun X hb => ⟨⟨(World.cell?_of_block (hb.block _ ((Array.getElem?_eq_some_iff.1 HX12.out).1) (by simp only [List.mem_cons, List.mem_nil_iff, or_false]; have := HQ.out; have := HMF.out; omega))).trans (cellOf HX12.out 0 rfl), (World.cell?_of_block (hb.block _ ((Array.getElem?_eq_some_iff.1 HX12.out).1) (by simp only [List.mem_cons, List.mem_nil_iff, or_false]; have := HQ.out; have := HMF.out; omega))).trans (cellOf HX12.out 1 rfl), (World.cell?_of_block (hb.block _ ((Array.getElem?_eq_some_iff.1 HX12.out).1) (by simp only [List.mem_cons, List.mem_nil_iff, or_false]; have := HQ.out; have := HMF.out; omega))).trans (cellOf HX12.out 2 rfl), (World.cell?_of_block (hb.block _ ((Array.getElem?_eq_some_iff.1 HX12.out).1) (by simp only [List.mem_cons, List.mem_nil_iff, or_false]; have := HQ.out; have := HMF.out; omega))).trans (cellOf HX12.out 3 rfl)⟩, hb⟩)
   refine wp_region_held_drew (S := fun X => (X.cell? ⟨q, 0, none⟩ = some (.int .i64 kd) ∧ X.cell? ⟨q, 1, none⟩ = some (.int .u64 (bb : Int)) ∧ X.cell? ⟨q, 2, none⟩ = some (.slice aa (n1 - 1) ca) ∧ X.cell? ⟨q, 3, none⟩ = some (.slice ab (n2 - 1) cb)) ∧ Mods [mf, w.heap.size] w12 X) (by kernel_rfl) (HSS.out _ (Mods.of_below (Below.refl _ _).drew)) (fun hHeld => ?_)
   have hbe : Below w12.heap.size w12 w12.drew := (Below.refl _ _).drew
   obtain ⟨wd, hwd⟩ : ∃ y, w12.drew = y := ⟨_, rfl⟩
   rw [hwd] at hHeld hbe ⊢
   have HBE := Lib.hid hbe
   have HS0 : Hid (w12.heap.size ≤ wd.heap.size) := Lib.hid HBE.out.size
   clear hwd hbe
   have HMD := Lib.hid (Mods.of_below (F := [mf, w.heap.size]) HBE.out)
   have HCW := Lib.hid ((HBE.out.block _ (Array.getElem?_eq_some_iff.1 HC12.out).1).trans HC12.out)
   refine wpAnyH_take (i := 1) (v := ?_) rfl (by kernel_rfl) (by kernel_rfl) (by kernel_rfl) (fun _ _ _ h => h) (Or.inl ⟨by rfl, ?_⟩) (by assumption) ?_
   rotate_left
   ·(intro w hSw; (try dsimp only at hSw); simp only [List.getElem_toArray, List.getElem_cons_zero, List.getElem_cons_succ]; go_simp; first | done | with_reducible rfl)
   simp only [List.getElem_toArray, List.getElem_cons_zero, List.getElem_cons_succ, Act.put, List.setIfInBounds_toArray, List.set_cons_zero, List.set_cons_succ]
   refine wpAnyH_take (i := 4) (v := ?_) rfl (by kernel_rfl) (by kernel_rfl) (by kernel_rfl) (fun _ _ _ h => h) (Or.inl ⟨by rfl, ?_⟩) (by assumption) ?_
   rotate_left
   ·(intro w hSw; (try dsimp only at hSw); simp only [List.getElem_toArray, List.getElem_cons_zero, List.getElem_cons_succ]; go_simp; first | done | with_reducible rfl)
   simp only [List.getElem_toArray, List.getElem_cons_zero, List.getElem_cons_succ, Act.put, List.setIfInBounds_toArray, List.set_cons_zero, List.set_cons_succ]
   refine wpAnyH_take (i := 5) (v := ?_) rfl (by kernel_rfl) (by kernel_rfl) (by kernel_rfl) (fun _ _ _ h => h) (Or.inl ⟨by rfl, ?_⟩) (by assumption) ?_
   rotate_left
   ·(intro w hSw; (try dsimp only at hSw); simp only [List.getElem_toArray, List.getElem_cons_zero, List.getElem_cons_succ]; go_simp; first | done | with_reducible rfl)
   simp only [List.getElem_toArray, List.getElem_cons_zero, List.getElem_cons_succ, Act.put, List.setIfInBounds_toArray, List.set_cons_zero, List.set_cons_succ]
   refine wpAnyH_take (i := 6) (v := ?_) rfl (by kernel_rfl) (by kernel_rfl) (by kernel_rfl) (fun _ _ _ h => h) (Or.inl ⟨by rfl, ?_⟩) (by assumption) ?_
   rotate_left
   ·(intro w hSw; (try dsimp only at hSw); simp only [List.getElem_toArray, List.getElem_cons_zero, List.getElem_cons_succ]; go_simp; first | done | with_reducible rfl)
   simp only [List.getElem_toArray, List.getElem_cons_zero, List.getElem_cons_succ, Act.put, List.setIfInBounds_toArray, List.set_cons_zero, List.set_cons_succ]
   refine wpAnyH_take (i := 2) (v := ?_) rfl (by kernel_rfl) (by kernel_rfl) (by kernel_rfl) (fun _ _ _ h => h) (Or.inl ⟨by rfl, ?_⟩) (by assumption) ?_
   rotate_left
   ·(intro w hSw; (try dsimp only at hSw); simp only [List.getElem_toArray, List.getElem_cons_zero, List.getElem_cons_succ]; go_simp; first | done | with_reducible rfl)
   simp only [List.getElem_toArray, List.getElem_cons_zero, List.getElem_cons_succ, Act.put, List.setIfInBounds_toArray, List.set_cons_zero, List.set_cons_succ]
   refine wpAnyH_take (i := 3) (v := ?_) rfl (by kernel_rfl) (by kernel_rfl) (by kernel_rfl) (fun _ _ _ h => h) (Or.inl ⟨by rfl, ?_⟩) (by assumption) ?_
   rotate_left
   ·(intro w hSw; (try dsimp only at hSw); simp only [List.getElem_toArray, List.getElem_cons_zero, List.getElem_cons_succ]; go_simp; first | done | with_reducible rfl)
   simp only [List.getElem_toArray, List.getElem_cons_zero, List.getElem_cons_succ, Act.put, List.setIfInBounds_toArray, List.set_cons_zero, List.set_cons_succ]
   refine wpAnyH_ready (rs := [0, 7]) (by kernel_rfl) (by simp) ?_
   refine AllReadyH.cons rfl (fun K hK => ?_) (AllReadyH.cons rfl (fun K hK => ?_) (AllReadyH.nil))
   ·skip
    have g0 := cellOf HCW.out 0 (v := .int .u32 (i : Int)) rfl
    have g1 := cellOf HCW.out 1 (v := .int .u32 0) rfl
    have g2 := cellOf HCW.out 2 (v := .int .u64 (fk : Int)) rfl
    have g3 := cellOf HCW.out 3 (v := .int .u64 0) rfl
    have g4 := cellOf HCW.out 4 (v := .int .u64 (v : Int)) rfl
    have g5 := cellOf HCW.out 5 (v := .bool true) rfl
    simp only [List.getElem_toArray, List.getElem_cons_zero, List.getElem_cons_succ]
    go_simp
    refine hK.out _ _ ?_ (fun hHeld => ?_)
    ·exact HSS.out _ HMD.out
    clear hK K
    try simp only [Act.put, List.setIfInBounds_toArray, List.set_cons_zero, List.set_cons_succ]
    clear g0 g1 g2 g3 g4 g5
    refine wpAnyH_ready (rs := [7]) (by kernel_rfl) (by simp) ?_
    refine AllReadyH.cons rfl (fun K hK => ?_) (AllReadyH.nil)
    simp only [List.getElem_toArray, List.getElem_cons_zero, List.getElem_cons_succ]
    go_simp
    refine (CP.out _ HBE.out).mono ?_
    rintro e w13 ⟨x2, rfl, hst, hms, hge⟩
    dsimp only
    refine hK.out _ _ ?_ (fun hHeld => ?_)
    ·exact HSS.out _ (HMD.out.trans hms (fun k hk => .inl (by rw [List.mem_singleton.1 hk]; exact List.mem_cons_self ..)))
    clear hK K
    try simp only [Act.put, List.setIfInBounds_toArray, List.set_cons_zero, List.set_cons_succ]
    have HCW := Lib.hid ((hms.block _ (Array.getElem?_eq_some_iff.1 HCW.out).1 (fun hh => by have := HMF.out; have := List.mem_singleton.1 hh; omega)).trans HCW.out)
    have HST := Lib.hid hst
    have HMS : Hid (Mods [mf] w12 w13) := Lib.hid ((Mods.of_below HBE.out).trans hms (fun k hk => .inl hk))
    have HGE : Hid (∀ k ∈ obN x2, w12.heap.size ≤ k) := Lib.hid (fun k hk => Nat.le_trans HBE.out.size (hge k hk))
    have HMD : Hid (Mods [mf, w.heap.size] w12 w13) := Lib.hid (HMS.out.mono (fun k hk => by rw [List.mem_singleton.1 hk]; exact List.mem_cons_self ..))
    clear hst hms hge
    refine wpAnyH_ready (rs := [8]) (by kernel_rfl) (by simp) ?_
    refine AllReadyH.cons rfl (fun K hK => ?_) (AllReadyH.nil)
    have g0 := cellOf HCW.out 0 (v := .int .u32 (i : Int)) rfl
    have g1 := cellOf HCW.out 1 (v := .int .u32 0) rfl
    have g2 := cellOf HCW.out 2 (v := .int .u64 (fk : Int)) rfl
    have g3 := cellOf HCW.out 3 (v := .int .u64 0) rfl
    have g4 := cellOf HCW.out 4 (v := .int .u64 (v : Int)) rfl
    have g5 := cellOf HCW.out 5 (v := .bool true) rfl
    have f0 := frozenOf HCW.out 0
    have f1 := frozenOf HCW.out 1
    have f2 := frozenOf HCW.out 2
    have f3 := frozenOf HCW.out 3
    have f4 := frozenOf HCW.out 4
    have f5 := frozenOf HCW.out 5
    simp only [List.getElem_toArray, List.getElem_cons_zero, List.getElem_cons_succ]
    go_simp
    refine hK.out _ _ ?_ (fun hHeld => ?_)
    ·exact HSS.out _ ((((((HMD.out.setCell (p := ⟨w.heap.size, 0, none⟩) (by simp) _).setCell (p := ⟨w.heap.size, 1, none⟩) (by simp) _).setCell (p := ⟨w.heap.size, 2, none⟩) (by simp) _).setCell (p := ⟨w.heap.size, 3, none⟩) (by simp) _).setCell (p := ⟨w.heap.size, 4, none⟩) (by simp) _).setCell (p := ⟨w.heap.size, 5, none⟩) (by simp) _)
    clear hK K
    try simp only [Act.put, List.setIfInBounds_toArray, List.set_cons_zero, List.set_cons_succ]
    clear g0 g1 g2 g3 g4 g5 f0 f1 f2 f3 f4 f5
    obtain ⟨w14, hw14⟩ : ∃ W, ((((((w13.setCell ⟨w.heap.size, 0, none⟩ (.int .u32 (i : Int))).setCell ⟨w.heap.size, 1, none⟩ (.int .u32 0)).setCell ⟨w.heap.size, 2, none⟩ (.int .u64 (fk : Int))).setCell ⟨w.heap.size, 3, none⟩ (.int .u64 0)).setCell ⟨w.heap.size, 4, none⟩ (.int .u64 (v : Int))).setCell ⟨w.heap.size, 5, none⟩ (.bool true)) = W := ⟨_, rfl⟩
    rw [hw14] at hHeld ⊢
    have HCE : Hid (w14.heap[w.heap.size]? = some (.cells #[.int .u32 (i : Int), .int .u32 0, .int .u64 (fk : Int), .int .u64 0, .int .u64 (v : Int), .bool true] 136 (0, 0))) := Lib.hid (by rw [← hw14]; exact setOf (setOf (setOf (setOf (setOf (setOf HCW.out 0 _) 1 _) 2 _) 3 _) 4 _) 5 _)
    have HME : Hid (Mods [w.heap.size] w13 w14) := Lib.hid (by rw [← hw14]; exact (((((((Mods.refl _ _).setCell (p := ⟨w.heap.size, 0, none⟩) (by simp) _).setCell (p := ⟨w.heap.size, 1, none⟩) (by simp) _).setCell (p := ⟨w.heap.size, 2, none⟩) (by simp) _).setCell (p := ⟨w.heap.size, 3, none⟩) (by simp) _).setCell (p := ⟨w.heap.size, 4, none⟩) (by simp) _).setCell (p := ⟨w.heap.size, 5, none⟩) (by simp) _))
    clear hw14
    refine wpAnyH_take (i := 9) (v := ?_) rfl (by kernel_rfl) (by kernel_rfl) (by kernel_rfl) (fun _ _ _ h => h) (Or.inl ⟨by rfl, ?_⟩) (by assumption) ?_
    rotate_left
    ·(intro w hSw; (try dsimp only at hSw); simp only [List.getElem_toArray, List.getElem_cons_zero, List.getElem_cons_succ]; go_simp; first | done | with_reducible rfl)
    simp only [List.getElem_toArray, List.getElem_cons_zero, List.getElem_cons_succ, Act.put, List.setIfInBounds_toArray, List.set_cons_zero, List.set_cons_succ]
    refine wpAnyH_take (i := 10) (v := ?_) rfl (by kernel_rfl) (by kernel_rfl) (by kernel_rfl) (fun _ _ _ h => h) (Or.inl ⟨by rfl, ?_⟩) (by assumption) ?_
    rotate_left
    ·(intro w hSw; (try dsimp only at hSw); simp only [List.getElem_toArray, List.getElem_cons_zero, List.getElem_cons_succ]; go_simp; first | done | with_reducible rfl)
    simp only [List.getElem_toArray, List.getElem_cons_zero, List.getElem_cons_succ, Act.put, List.setIfInBounds_toArray, List.set_cons_zero, List.set_cons_succ]
    refine wpAnyH_done (by kernel_rfl) ?_ _
    have HEND := Lib.hid hHeld.2
    have HSE := Lib.hid hHeld.1
    clear hHeld
    clear HSS HSE HEND
    go_wp2_with fail
    refine bodyPost_ret (v := .tuple #[.agg #[.int .u32 (i : Int), .int .u32 0, .int .u64 (fk : Int), .int .u64 0, .int .u64 (v : Int), .bool true], .int .i64 ((n1 - 1 : Nat) : Int), .int .i64 0]) ?_ rfl ⟨x2, ?_, ?_, ?_, ?_⟩
    ·rw [ret_ctt rfl]
     have r1 := run_loadVar_mid (P := Tryz.prog) w14 w.heap.size 0 136 [.int .u32 (i : Int), .int .u32 0, .int .u64 (fk : Int), .int .u64 0, .int .u64 (v : Int), .bool true] _ (rangeOf HCE.out) Tryz.underlying136 rfl infoCh
     simp only [asAddr, Array.getD_eq_getD_getElem?, List.getElem?_toArray, List.getElem?_cons_succ, List.getElem?_cons_zero, Option.getD_some, Sem.run_pure, Result.andThen_ok, r1]
    ·rw [HJ.out, HFK.out, ← HKB.out.2.2.1]
    ·rw [HJ.out]
     refine HST.out.other HME.out (fun k hk hh => ?_) (fun p hp k hk hh => ?_)
     ·have := HH.out.lt k hk
      have := List.mem_singleton.1 hh
      omega
     ·have e := List.mem_singleton.1 hh
      rcases mem_putA hp with rfl | hp
      ·have h1 := HGE.out k hk
       have h2 := HSZ.out
       have h3 := HB12.out.size
       have h4 := (Array.getElem?_eq_some_iff.1 HC12.out).1
       omega
      ·have := (HH.out.nd p hp).lt k hk
       omega
    ·exact ((Mods.of_below HB12.out).trans HMS.out (fun k hk => .inl hk)).trans HME.out (fun k hk => .inr (by rw [List.mem_singleton.1 hk]; exact Nat.le_refl _))
    ·exact fun k hk => Nat.le_trans HB12.out.size (HGE.out k hk)
   ·skip
    simp only [List.getElem_toArray, List.getElem_cons_zero, List.getElem_cons_succ]
    go_simp
    refine (CP.out _ HBE.out).mono ?_
    rintro e w13 ⟨x2, rfl, hst, hms, hge⟩
    dsimp only
    refine hK.out _ _ ?_ (fun hHeld => ?_)
    ·exact HSS.out _ (HMD.out.trans hms (fun k hk => .inl (by rw [List.mem_singleton.1 hk]; exact List.mem_cons_self ..)))
    clear hK K
    try simp only [Act.put, List.setIfInBounds_toArray, List.set_cons_zero, List.set_cons_succ]
    have HCW := Lib.hid ((hms.block _ (Array.getElem?_eq_some_iff.1 HCW.out).1 (fun hh => by have := HMF.out; have := List.mem_singleton.1 hh; omega)).trans HCW.out)
    have HST := Lib.hid hst
    have HMS : Hid (Mods [mf] w12 w13) := Lib.hid ((Mods.of_below HBE.out).trans hms (fun k hk => .inl hk))
    have HGE : Hid (∀ k ∈ obN x2, w12.heap.size ≤ k) := Lib.hid (fun k hk => Nat.le_trans HBE.out.size (hge k hk))
    have HMD : Hid (Mods [mf, w.heap.size] w12 w13) := Lib.hid (HMS.out.mono (fun k hk => by rw [List.mem_singleton.1 hk]; exact List.mem_cons_self ..))
    clear hst hms hge
    refine wpAnyH_ready (rs := [0]) (by kernel_rfl) (by simp) ?_
    refine AllReadyH.cons rfl (fun K hK => ?_) (AllReadyH.nil)
    have g0 := cellOf HCW.out 0 (v := .int .u32 (i : Int)) rfl
    have g1 := cellOf HCW.out 1 (v := .int .u32 0) rfl
    have g2 := cellOf HCW.out 2 (v := .int .u64 (fk : Int)) rfl
    have g3 := cellOf HCW.out 3 (v := .int .u64 0) rfl
    have g4 := cellOf HCW.out 4 (v := .int .u64 (v : Int)) rfl
    have g5 := cellOf HCW.out 5 (v := .bool true) rfl
    simp only [List.getElem_toArray, List.getElem_cons_zero, List.getElem_cons_succ]
    go_simp
    refine hK.out _ _ ?_ (fun hHeld => ?_)
    ·exact HSS.out _ HMD.out
    clear hK K
    try simp only [Act.put, List.setIfInBounds_toArray, List.set_cons_zero, List.set_cons_succ]
    clear g0 g1 g2 g3 g4 g5
    refine wpAnyH_ready (rs := [8]) (by kernel_rfl) (by simp) ?_
    refine AllReadyH.cons rfl (fun K hK => ?_) (AllReadyH.nil)
    have g0 := cellOf HCW.out 0 (v := .int .u32 (i : Int)) rfl
    have g1 := cellOf HCW.out 1 (v := .int .u32 0) rfl
    have g2 := cellOf HCW.out 2 (v := .int .u64 (fk : Int)) rfl
    have g3 := cellOf HCW.out 3 (v := .int .u64 0) rfl
    have g4 := cellOf HCW.out 4 (v := .int .u64 (v : Int)) rfl
    have g5 := cellOf HCW.out 5 (v := .bool true) rfl
    have f0 := frozenOf HCW.out 0
    have f1 := frozenOf HCW.out 1
    have f2 := frozenOf HCW.out 2
    have f3 := frozenOf HCW.out 3
    have f4 := frozenOf HCW.out 4
    have f5 := frozenOf HCW.out 5
    simp only [List.getElem_toArray, List.getElem_cons_zero, List.getElem_cons_succ]
    go_simp
    refine hK.out _ _ ?_ (fun hHeld => ?_)
    ·exact HSS.out _ ((((((HMD.out.setCell (p := ⟨w.heap.size, 0, none⟩) (by simp) _).setCell (p := ⟨w.heap.size, 1, none⟩) (by simp) _).setCell (p := ⟨w.heap.size, 2, none⟩) (by simp) _).setCell (p := ⟨w.heap.size, 3, none⟩) (by simp) _).setCell (p := ⟨w.heap.size, 4, none⟩) (by simp) _).setCell (p := ⟨w.heap.size, 5, none⟩) (by simp) _)
    clear hK K
    try simp only [Act.put, List.setIfInBounds_toArray, List.set_cons_zero, List.set_cons_succ]
    clear g0 g1 g2 g3 g4 g5 f0 f1 f2 f3 f4 f5
    obtain ⟨w14, hw14⟩ : ∃ W, ((((((w13.setCell ⟨w.heap.size, 0, none⟩ (.int .u32 (i : Int))).setCell ⟨w.heap.size, 1, none⟩ (.int .u32 0)).setCell ⟨w.heap.size, 2, none⟩ (.int .u64 (fk : Int))).setCell ⟨w.heap.size, 3, none⟩ (.int .u64 0)).setCell ⟨w.heap.size, 4, none⟩ (.int .u64 (v : Int))).setCell ⟨w.heap.size, 5, none⟩ (.bool true)) = W := ⟨_, rfl⟩
    rw [hw14] at hHeld ⊢
    have HCE : Hid (w14.heap[w.heap.size]? = some (.cells #[.int .u32 (i : Int), .int .u32 0, .int .u64 (fk : Int), .int .u64 0, .int .u64 (v : Int), .bool true] 136 (0, 0))) := Lib.hid (by rw [← hw14]; exact setOf (setOf (setOf (setOf (setOf (setOf HCW.out 0 _) 1 _) 2 _) 3 _) 4 _) 5 _)
    have HME : Hid (Mods [w.heap.size] w13 w14) := Lib.hid (by rw [← hw14]; exact (((((((Mods.refl _ _).setCell (p := ⟨w.heap.size, 0, none⟩) (by simp) _).setCell (p := ⟨w.heap.size, 1, none⟩) (by simp) _).setCell (p := ⟨w.heap.size, 2, none⟩) (by simp) _).setCell (p := ⟨w.heap.size, 3, none⟩) (by simp) _).setCell (p := ⟨w.heap.size, 4, none⟩) (by simp) _).setCell (p := ⟨w.heap.size, 5, none⟩) (by simp) _))
    clear hw14
    refine wpAnyH_take (i := 9) (v := ?_) rfl (by kernel_rfl) (by kernel_rfl) (by kernel_rfl) (fun _ _ _ h => h) (Or.inl ⟨by rfl, ?_⟩) (by assumption) ?_
    rotate_left
    ·(intro w hSw; (try dsimp only at hSw); simp only [List.getElem_toArray, List.getElem_cons_zero, List.getElem_cons_succ]; go_simp; first | done | with_reducible rfl)
    simp only [List.getElem_toArray, List.getElem_cons_zero, List.getElem_cons_succ, Act.put, List.setIfInBounds_toArray, List.set_cons_zero, List.set_cons_succ]
    refine wpAnyH_take (i := 10) (v := ?_) rfl (by kernel_rfl) (by kernel_rfl) (by kernel_rfl) (fun _ _ _ h => h) (Or.inl ⟨by rfl, ?_⟩) (by assumption) ?_
    rotate_left
    ·(intro w hSw; (try dsimp only at hSw); simp only [List.getElem_toArray, List.getElem_cons_zero, List.getElem_cons_succ]; go_simp; first | done | with_reducible rfl)
    simp only [List.getElem_toArray, List.getElem_cons_zero, List.getElem_cons_succ, Act.put, List.setIfInBounds_toArray, List.set_cons_zero, List.set_cons_succ]
    refine wpAnyH_done (by kernel_rfl) ?_ _
    have HEND := Lib.hid hHeld.2
    have HSE := Lib.hid hHeld.1
    clear hHeld
    clear HSS HSE HEND
    go_wp2_with fail
    refine bodyPost_ret (v := .tuple #[.agg #[.int .u32 (i : Int), .int .u32 0, .int .u64 (fk : Int), .int .u64 0, .int .u64 (v : Int), .bool true], .int .i64 ((n1 - 1 : Nat) : Int), .int .i64 0]) ?_ rfl ⟨x2, ?_, ?_, ?_, ?_⟩
    ·rw [ret_ctt rfl]
     have r1 := run_loadVar_mid (P := Tryz.prog) w14 w.heap.size 0 136 [.int .u32 (i : Int), .int .u32 0, .int .u64 (fk : Int), .int .u64 0, .int .u64 (v : Int), .bool true] _ (rangeOf HCE.out) Tryz.underlying136 rfl infoCh
     simp only [asAddr, Array.getD_eq_getD_getElem?, List.getElem?_toArray, List.getElem?_cons_succ, List.getElem?_cons_zero, Option.getD_some, Sem.run_pure, Result.andThen_ok, r1]
    ·rw [HJ.out, HFK.out, ← HKB.out.2.2.1]
    ·rw [HJ.out]
     refine HST.out.other HME.out (fun k hk hh => ?_) (fun p hp k hk hh => ?_)
     ·have := HH.out.lt k hk
      have := List.mem_singleton.1 hh
      omega
     ·have e := List.mem_singleton.1 hh
      rcases mem_putA hp with rfl | hp
      ·have h1 := HGE.out k hk
       have h2 := HSZ.out
       have h3 := HB12.out.size
       have h4 := (Array.getElem?_eq_some_iff.1 HC12.out).1
       omega
      ·have := (HH.out.nd p hp).lt k hk
       omega
    ·exact ((Mods.of_below HB12.out).trans HMS.out (fun k hk => .inl hk)).trans HME.out (fun k hk => .inr (by rw [List.mem_singleton.1 hk]; exact Nat.le_refl _))
    ·exact fun k hk => Nat.le_trans HB12.out.size (HGE.out k hk)
 ·skip
  have hrd := cellOf HXW.out 3 (v := .slice (some ⟨b0, off, none⟩) n2 c2) rfl
  simp only [List.getElem_toArray, List.getElem_cons_zero, List.getElem_cons_succ]
  go_simp
  clear hrd
  refine hK.out _ _ ?_ (fun hHeld => ?_)
  ·exact (by first | exact HSS.out _ (Mods.of_below HBE.out) | exact HSS.out _ HMD.out)
  clear hK K
  try simp only [Act.put, List.setIfInBounds_toArray, List.set_cons_zero, List.set_cons_succ]
  refine wpAnyH_ready (rs := [1]) (by kernel_rfl) (by simp) ?_
  refine AllReadyH.cons rfl (fun K hK => ?_) (AllReadyH.nil)
  have hrd := cellOf HXW.out 2 (v := .slice a1 n1 c1) rfl
  simp only [List.getElem_toArray, List.getElem_cons_zero, List.getElem_cons_succ]
  go_simp
  clear hrd
  refine hK.out _ _ ?_ (fun hHeld => ?_)
  ·exact (by first | exact HSS.out _ (Mods.of_below HBE.out) | exact HSS.out _ HMD.out)
  clear hK K
  try simp only [Act.put, List.setIfInBounds_toArray, List.set_cons_zero, List.set_cons_succ]
  refine wpAnyH_ready (rs := [5]) (by kernel_rfl) (by simp) ?_
  refine AllReadyH.cons rfl (fun K hK => ?_) (AllReadyH.nil)
  simp only [List.getElem_toArray, List.getElem_cons_zero, List.getElem_cons_succ]
  go_simp
  refine (CD1.out _ HO1.out).mono ?_
  rintro e w8 ⟨va, rfl, ho1, hob1, hm8⟩
  dsimp only
  refine hK.out _ _ ?_ (fun hHeld => ?_)
  ·exact HSS.out _ ((HMQ.out.trans hm8 (fun k hk => .inl (List.mem_append_left _ hk))).mono (fun k hk => List.mem_cons_of_mem _ hk))
  clear hK K
  try simp only [Act.put, List.setIfInBounds_toArray, List.set_cons_zero, List.set_cons_succ]
  have HMQ := Lib.hid (HMQ.out.trans hm8 (fun k hk => .inl (List.mem_append_left _ hk)))
  have HXW := Lib.hid ((hm8.block _ (Array.getElem?_eq_some_iff.1 HXW.out).1 HNQ.out.1).trans HXW.out)
  have HO2 := Lib.hid (ownsRow_at HO2.out (fun k hk => hm8.block k (ownsRow_lt HO2.out k hk) (HNQ.out.2.2 k hk)))
  obtain ⟨aa, ca, ea⟩ := row_slx ho1
  subst ea
  have HP1 := Lib.hid ho1
  have HMD : Hid (Mods (q :: (ob (.slice a1 n1 c1) ++ ob (.slice (some ⟨b0, off, none⟩) n2 c2))) w6 w8) := Lib.hid (HMQ.out.mono (fun k hk => List.mem_cons_of_mem _ hk))
  have HQ1 := Lib.hid hob1
  clear ho1 hob1 hm8
  refine wpAnyH_ready (rs := [11]) (by kernel_rfl) (by simp) ?_
  refine AllReadyH.cons rfl (fun K hK => ?_) (AllReadyH.nil)
  simp only [List.getElem_toArray, List.getElem_cons_zero, List.getElem_cons_succ]
  go_simp
  refine (CD2.out _ HO2.out).mono ?_
  rintro e w9 ⟨vb, rfl, ho2, hob2, hm9⟩
  dsimp only
  refine hK.out _ _ ?_ (fun hHeld => ?_)
  ·exact HSS.out _ ((HMQ.out.trans hm9 (fun k hk => .inl (List.mem_append_right _ hk))).mono (fun k hk => List.mem_cons_of_mem _ hk))
  clear hK K
  try simp only [Act.put, List.setIfInBounds_toArray, List.set_cons_zero, List.set_cons_succ]
  have HMQ := Lib.hid (HMQ.out.trans hm9 (fun k hk => .inl (List.mem_append_right _ hk)))
  have HXW := Lib.hid ((hm9.block _ (Array.getElem?_eq_some_iff.1 HXW.out).1 HNQ.out.2.1).trans HXW.out)
  obtain ⟨ab, cb, eb⟩ := row_slx ho2
  subst eb
  have HP2 := Lib.hid ho2
  have HQ2 := Lib.hid hob2
  have HP1 := Lib.hid (ownsRow_at HP1.out (fun k hk => hm9.block k (ownsRow_lt HP1.out k hk) (fun hh => HNQ.out.2.2 k hh (by rw [← HQ1.out]; exact hk))))
  clear ho2 hob2 hm9
  refine wpAnyH_take (i := 12) (v := ?_) rfl (by kernel_rfl) (by kernel_rfl) (by kernel_rfl) (fun _ _ _ h => h) (Or.inl ⟨by rfl, ?_⟩) (by assumption) ?_
  rotate_left
  ·(intro w hSw; (try dsimp only at hSw); simp only [List.getElem_toArray, List.getElem_cons_zero, List.getElem_cons_succ]; go_simp; first | done | with_reducible rfl)
  simp only [List.getElem_toArray, List.getElem_cons_zero, List.getElem_cons_succ, Act.put, List.setIfInBounds_toArray, List.set_cons_zero, List.set_cons_succ]
  refine wpAnyH_ready (rs := [13]) (by kernel_rfl) (by simp) ?_
  refine AllReadyH.cons rfl (fun K hK => ?_) (AllReadyH.nil)
  have g0 := cellOf HXW.out 2 (v := .slice a1 n1 c1) rfl
  have f0 := frozenOf HXW.out 2
  simp only [List.getElem_toArray, List.getElem_cons_zero, List.getElem_cons_succ]
  go_simp
  refine hK.out _ _ ?_ (fun hHeld => ?_)
  ·exact HSS.out _ ((HMQ.out.mono (G := q :: (ob (.slice a1 n1 c1) ++ ob (.slice (some ⟨b0, off, none⟩) n2 c2))) (fun k hk => List.mem_cons_of_mem _ hk)).setCell (p := ⟨q, 2, none⟩) (List.mem_cons_self ..) _)
  clear hK K
  try simp only [Act.put, List.setIfInBounds_toArray, List.set_cons_zero, List.set_cons_succ]
  clear g0 f0
  have HXW := Lib.hid (setOf HXW.out 2 (.slice aa (n1 - 1) ca))
  refine wpAnyH_take (i := 14) (v := ?_) rfl (by kernel_rfl) (by kernel_rfl) (by kernel_rfl) (fun _ _ _ h => h) (Or.inl ⟨by rfl, ?_⟩) (by assumption) ?_
  rotate_left
  ·(intro w hSw; (try dsimp only at hSw); simp only [List.getElem_toArray, List.getElem_cons_zero, List.getElem_cons_succ]; go_simp; first | done | with_reducible rfl)
  simp only [List.getElem_toArray, List.getElem_cons_zero, List.getElem_cons_succ, Act.put, List.setIfInBounds_toArray, List.set_cons_zero, List.set_cons_succ]
  refine wpAnyH_ready (rs := [15]) (by kernel_rfl) (by simp) ?_
  refine AllReadyH.cons rfl (fun K hK => ?_) (AllReadyH.nil)
  have g0 := cellOf HXW.out 3 (v := .slice (some ⟨b0, off, none⟩) n2 c2) rfl
  have f0 := frozenOf HXW.out 3
  simp only [List.getElem_toArray, List.getElem_cons_zero, List.getElem_cons_succ]
  go_simp
  refine hK.out _ _ ?_ (fun hHeld => ?_)
  ·exact HSS.out _ (((HMQ.out.mono (G := q :: (ob (.slice a1 n1 c1) ++ ob (.slice (some ⟨b0, off, none⟩) n2 c2))) (fun k hk => List.mem_cons_of_mem _ hk)).setCell (p := ⟨q, 2, none⟩) (List.mem_cons_self ..) _).setCell (p := ⟨q, 3, none⟩) (List.mem_cons_self ..) _)
  clear hK K
  try simp only [Act.put, List.setIfInBounds_toArray, List.set_cons_zero, List.set_cons_succ]
  clear g0 f0
  refine wpAnyH_done (by kernel_rfl) ?_ _
  have HEND := Lib.hid hHeld.2
  have HSE := Lib.hid hHeld.1
  clear hHeld
  clear HSS HSE HEND
  obtain ⟨w10, hw10⟩ : ∃ W, (w9.setCell ⟨q, 2, none⟩ (.slice aa (n1 - 1) ca)).setCell ⟨q, 3, none⟩ (.slice ab (n2 - 1) cb) = W := ⟨_, rfl⟩
  rw [hw10]
  have HX10 : Hid (w10.heap[q]? = some (.cells #[.int .i64 kd, .int .u64 (bb : Int), .slice aa (n1 - 1) ca, .slice ab (n2 - 1) cb] 40 (0, 0))) := Lib.hid (by rw [← hw10]; exact setOf HXW.out 3 _)
  have HM10 : Hid (Mods [q] w9 w10) := Lib.hid (by rw [← hw10]; exact ((Mods.refl _ _).setCell (p := ⟨q, 2, none⟩) (List.mem_singleton.2 rfl) _).setCell (p := ⟨q, 3, none⟩) (List.mem_singleton.2 rfl) _)
  clear hw10 HXW
  have HRG : Hid (∀ k ∈ ob (.slice a1 n1 c1) ++ ob (.slice (some ⟨b0, off, none⟩) n2 c2), w1.heap.size ≤ k) := Lib.hid (fun k hk => by
   rcases List.mem_append.1 hk with h1 | h1
   ·exact ownsRow_ge HP1.out k (by rw [HQ1.out]; exact h1)
   ·exact ownsRow_ge HP2.out k (by rw [HQ2.out]; exact h1))
  have HSZ : Hid (w.heap.size < w1.heap.size) := Lib.hid (Array.getElem?_eq_some_iff.1 HX1.out).1
  have HMA : Hid (Mods [] w w10) := Lib.hid ((((((((Mods.of_below HB1.out).thenBelow HB2.out).thenBelow HB3.out).trans HM4.out (fun k hk => .inr (by rw [List.mem_singleton.1 hk]; exact Nat.le_refl _))).thenBelow HB5.out).trans HM6.out (fun k hk => .inr (by rw [List.mem_singleton.1 hk]; exact Nat.le_refl _))).trans HMQ.out (fun k hk => .inr (by have := HRG.out k hk; have := HSZ.out; omega))).trans HM10.out (fun k hk => .inr (by rw [List.mem_singleton.1 hk]; exact Nat.le_of_lt HQ.out)))
  have HC10 : Hid (w10.heap[w.heap.size]? = some (.cells #[.int .u32 (i : Int), .int .u32 0, .int .u64 0, .int .u64 0, .int .u64 (v : Int), .bool true] 136 (0, 0))) := Lib.hid (by
   have hl := (Array.getElem?_eq_some_iff.1 HC6.out).1
   have e1 := (HMQ.out.block _ hl (fun hh => by have := HRG.out _ hh; have := HSZ.out; omega)).trans HC6.out
   exact (HM10.out.block _ (Array.getElem?_eq_some_iff.1 e1).1 (fun hh => by have := HQ.out; have := List.mem_singleton.1 hh; omega)).trans e1)
  have HO1 : Hid (w10.ownsRow w1.heap.size 23 1 (.slice aa (n1 - 1) ca) (n1 - 1) (qV (y.keys.eraseIdx j))) := Lib.hid (ownsRow_at HP1.out (fun k hk => HM10.out.block k (ownsRow_lt HP1.out k hk) (fun hh => HNQ.out.1 (by rw [← List.mem_singleton.1 hh, ← HQ1.out]; exact hk))))
  have HO2 : Hid (w10.ownsRow w1.heap.size 23 1 (.slice ab (n2 - 1) cb) (n2 - 1) (qV (y.vals.eraseIdx j))) := Lib.hid (ownsRow_at HP2.out (fun k hk => HM10.out.block k (ownsRow_lt HP2.out k hk) (fun hh => HNQ.out.2.1 (by rw [← List.mem_singleton.1 hh, ← HQ2.out]; exact hk))))
  have HLN : Hid ((y.cut j).keys.length = n1 - 1 ∧ (y.cut j).vals.length = n2 - 1) := Lib.hid (by
   have h1 := HKB.out.2.2.1
   have h2 := HKB.out.2.2.2
   have h3 := HJL.out
   constructor
   ·show (y.keys.eraseIdx j).length = n1 - 1
    rw [List.length_eraseIdx, if_pos (by omega)]; omega
   ·show (y.vals.eraseIdx j).length = n2 - 1
    rw [List.length_eraseIdx, if_pos (by omega)]; omega)
  have CFt := tfirst_at w10 (y.cut j) (.slice aa (n1 - 1) ca) (.slice ab (n2 - 1) cb) (by rw [HLN.out.1]; exact Rd.of_own HO1.out)
  rw [show (y.cut j).k = kd from HKB.out.1.symm, show (y.cut j).b = bb from HKB.out.2.1.symm] at CFt
  obtain ⟨fk, hfk⟩ : ∃ z, (y.cut j).keys.getD 0 0 = z := ⟨_, rfl⟩
  rw [hfk] at CFt
  have HFK := Lib.hid hfk
  have d0 := cellOf HX10.out 0 (v := .int .i64 kd) rfl
  have d1 := cellOf HX10.out 1 (v := .int .u64 (bb : Int)) rfl
  have d2 := cellOf HX10.out 2 (v := .slice aa (n1 - 1) ca) rfl
  have d3 := cellOf HX10.out 3 (v := .slice ab (n2 - 1) cb) rfl
  clear hfk HMQ HM10 HP1 HP2 HQ1 HQ2 HRG
  go_wp2_with fail
  refine CFt.mono ?_
  rintro e w11 ⟨rfl, hb11⟩
  have HB11 := Lib.hid hb11
  have HC11 := Lib.hid ((hb11.block _ (Array.getElem?_eq_some_iff.1 HC10.out).1).trans HC10.out)
  have HX11 := Lib.hid ((hb11.block _ (Array.getElem?_eq_some_iff.1 HX10.out).1).trans HX10.out)
  have HO1 := Lib.hid (ownsRow_below HO1.out hb11)
  have HO2 := Lib.hid (ownsRow_below HO2.out hb11)
  have t2 := cellOf HC11.out 2 (v := .int .u64 0) rfl
  have f2 := frozenOf HC11.out 2
  clear CFt hb11 d0 d1 d2 d3
  go_upto_region 23 with fail
  clear t2 f2
  obtain ⟨w12, hw12⟩ : ∃ W, w11.setCell ⟨w.heap.size, 2, none⟩ (.int .u64 (fk : Int)) = W := ⟨_, rfl⟩
  rw [hw12]
  have HC12 : Hid (w12.heap[w.heap.size]? = some (.cells #[.int .u32 (i : Int), .int .u32 0, .int .u64 (fk : Int), .int .u64 0, .int .u64 (v : Int), .bool true] 136 (0, 0))) := Lib.hid (by rw [← hw12]; exact setOf HC11.out 2 _)
  have HM12 : Hid (Mods [w.heap.size] w11 w12) := Lib.hid (by rw [← hw12]; exact (Mods.refl _ _).setCell (p := ⟨w.heap.size, 2, none⟩) (List.mem_singleton.2 rfl) _)
  have HX12 := Lib.hid ((HM12.out.block _ (Array.getElem?_eq_some_iff.1 HX11.out).1 (fun hh => by have := HQ.out; have := List.mem_singleton.1 hh; omega)).trans HX11.out)
  have HO1 := Lib.hid (ownsRow_at HO1.out (fun k hk => HM12.out.block k (ownsRow_lt HO1.out k hk) (fun hh => by have := ownsRow_ge HO1.out k hk; have := HSZ.out; have := List.mem_singleton.1 hh; omega)))
  have HO2 := Lib.hid (ownsRow_at HO2.out (fun k hk => HM12.out.block k (ownsRow_lt HO2.out k hk) (fun hh => by have := ownsRow_ge HO2.out k hk; have := HSZ.out; have := List.mem_singleton.1 hh; omega)))
  have HB12 : Hid (Below w.heap.size w w12) := Lib.hid (((HMA.out.thenBelow HB11.out).trans HM12.out (fun k hk => .inr (by rw [List.mem_singleton.1 hk]; exact Nat.le_refl _))).below (fun k hk => by simp at hk) (Nat.le_refl _))
  have HMF : Hid (mf < w.heap.size) := Lib.hid HH.out.map.lt
  have CP : Hid (∀ X, Below w12.heap.size w12 X → Calls Tryz.prog 15 #[.pointer (some ⟨S, 0, none⟩), .int .u32 (i : Int), .agg #[.int .i64 kd, .int .u64 (bb : Int), .slice aa (n1 - 1) ca, .slice ab (n2 - 1) cb]] X (PutP X S B pm pd mf md s A D Fm Fd l (y.cut j) i y.b)) := Lib.hid (fun X hX => by
   have h9 := sput_in (HH.out.below (bthn HB12.out hX)) (y.cut j) (.slice aa (n1 - 1) ca) (.slice ab (n2 - 1) cb) (HY.out.cut (rises_up HY.out.up) j) (by rw [HLN.out.1]; exact Rd.of_own (ownsRow_below HO1.out hX)) (by rw [HLN.out.2]; exact Rd.of_own (ownsRow_below HO2.out hX)) i HPR.out.1 HPR.out.2.1 x y HG.out HPR.out.2.2.2
   rw [show (y.cut j).k = kd from HKB.out.1.symm, show (y.cut j).b = bb from HKB.out.2.1.symm] at h9
   exact h9)
  clear hw12
  have HSS : Hid (∀ X, Mods [mf, w.heap.size] w12 X → (X.cell? ⟨q, 0, none⟩ = some (.int .i64 kd) ∧ X.cell? ⟨q, 1, none⟩ = some (.int .u64 (bb : Int)) ∧ X.cell? ⟨q, 2, none⟩ = some (.slice aa (n1 - 1) ca) ∧ X.cell? ⟨q, 3, none⟩ = some (.slice ab (n2 - 1) cb)) ∧ Mods [mf, w.heap.size] w12 X) := Lib.hid (fun X hb => ⟨⟨(World.cell?_of_block (hb.block _ ((Array.getElem?_eq_some_iff.1 HX12.out).1) (by simp only [List.mem_cons, List.mem_nil_iff, or_false]; have := HQ.out; have := HMF.out; omega))).trans (cellOf HX12.out 0 rfl), (World.cell?_of_block (hb.block _ ((Array.getElem?_eq_some_iff.1 HX12.out).1) (by simp only [List.mem_cons, List.mem_nil_iff, or_false]; have := HQ.out; have := HMF.out; omega))).trans (cellOf HX12.out 1 rfl), (World.cell?_of_block (hb.block _ ((Array.getElem?_eq_some_iff.1 HX12.out).1) (by simp only [List.mem_cons, List.mem_nil_iff, or_false]; have := HQ.out; have := HMF.out; omega))).trans (cellOf HX12.out 2 rfl), (World.cell?_of_block (hb.block _ ((Array.getElem?_eq_some_iff.1 HX12.out).1) (by simp only [List.mem_cons, List.mem_nil_iff, or_false]; have := HQ.out; have := HMF.out; omega))).trans (cellOf HX12.out 3 rfl)⟩, hb⟩)
  refine wp_region_held_drew (S := fun X => (X.cell? ⟨q, 0, none⟩ = some (.int .i64 kd) ∧ X.cell? ⟨q, 1, none⟩ = some (.int .u64 (bb : Int)) ∧ X.cell? ⟨q, 2, none⟩ = some (.slice aa (n1 - 1) ca) ∧ X.cell? ⟨q, 3, none⟩ = some (.slice ab (n2 - 1) cb)) ∧ Mods [mf, w.heap.size] w12 X) (by kernel_rfl) (HSS.out _ (Mods.of_below (Below.refl _ _).drew)) (fun hHeld => ?_)
  have hbe : Below w12.heap.size w12 w12.drew := (Below.refl _ _).drew
  obtain ⟨wd, hwd⟩ : ∃ y, w12.drew = y := ⟨_, rfl⟩
  rw [hwd] at hHeld hbe ⊢
  have HBE := Lib.hid hbe
  have HS0 : Hid (w12.heap.size ≤ wd.heap.size) := Lib.hid HBE.out.size
  clear hwd hbe
  have HMD := Lib.hid (Mods.of_below (F := [mf, w.heap.size]) HBE.out)
  have HCW := Lib.hid ((HBE.out.block _ (Array.getElem?_eq_some_iff.1 HC12.out).1).trans HC12.out)
  refine wpAnyH_take (i := 1) (v := ?_) rfl (by kernel_rfl) (by kernel_rfl) (by kernel_rfl) (fun _ _ _ h => h) (Or.inl ⟨by rfl, ?_⟩) (by assumption) ?_
  rotate_left
  ·(intro w hSw; (try dsimp only at hSw); simp only [List.getElem_toArray, List.getElem_cons_zero, List.getElem_cons_succ]; go_simp; first | done | with_reducible rfl)
  simp only [List.getElem_toArray, List.getElem_cons_zero, List.getElem_cons_succ, Act.put, List.setIfInBounds_toArray, List.set_cons_zero, List.set_cons_succ]
  refine wpAnyH_take (i := 4) (v := ?_) rfl (by kernel_rfl) (by kernel_rfl) (by kernel_rfl) (fun _ _ _ h => h) (Or.inl ⟨by rfl, ?_⟩) (by assumption) ?_
  rotate_left
  ·(intro w hSw; (try dsimp only at hSw); simp only [List.getElem_toArray, List.getElem_cons_zero, List.getElem_cons_succ]; go_simp; first | done | with_reducible rfl)
  simp only [List.getElem_toArray, List.getElem_cons_zero, List.getElem_cons_succ, Act.put, List.setIfInBounds_toArray, List.set_cons_zero, List.set_cons_succ]
  refine wpAnyH_take (i := 5) (v := ?_) rfl (by kernel_rfl) (by kernel_rfl) (by kernel_rfl) (fun _ _ _ h => h) (Or.inl ⟨by rfl, ?_⟩) (by assumption) ?_
  rotate_left
  ·(intro w hSw; (try dsimp only at hSw); simp only [List.getElem_toArray, List.getElem_cons_zero, List.getElem_cons_succ]; go_simp; first | done | with_reducible rfl)
  simp only [List.getElem_toArray, List.getElem_cons_zero, List.getElem_cons_succ, Act.put, List.setIfInBounds_toArray, List.set_cons_zero, List.set_cons_succ]
  refine wpAnyH_take (i := 6) (v := ?_) rfl (by kernel_rfl) (by kernel_rfl) (by kernel_rfl) (fun _ _ _ h => h) (Or.inl ⟨by rfl, ?_⟩) (by assumption) ?_
  rotate_left
  ·(intro w hSw; (try dsimp only at hSw); simp only [List.getElem_toArray, List.getElem_cons_zero, List.getElem_cons_succ]; go_simp; first | done | with_reducible rfl)
  simp only [List.getElem_toArray, List.getElem_cons_zero, List.getElem_cons_succ, Act.put, List.setIfInBounds_toArray, List.set_cons_zero, List.set_cons_succ]
  refine wpAnyH_take (i := 2) (v := ?_) rfl (by kernel_rfl) (by kernel_rfl) (by kernel_rfl) (fun _ _ _ h => h) (Or.inl ⟨by rfl, ?_⟩) (by assumption) ?_
  rotate_left
  ·(intro w hSw; (try dsimp only at hSw); simp only [List.getElem_toArray, List.getElem_cons_zero, List.getElem_cons_succ]; go_simp; first | done | with_reducible rfl)
  simp only [List.getElem_toArray, List.getElem_cons_zero, List.getElem_cons_succ, Act.put, List.setIfInBounds_toArray, List.set_cons_zero, List.set_cons_succ]
  refine wpAnyH_take (i := 3) (v := ?_) rfl (by kernel_rfl) (by kernel_rfl) (by kernel_rfl) (fun _ _ _ h => h) (Or.inl ⟨by rfl, ?_⟩) (by assumption) ?_
  rotate_left
  ·(intro w hSw; (try dsimp only at hSw); simp only [List.getElem_toArray, List.getElem_cons_zero, List.getElem_cons_succ]; go_simp; first | done | with_reducible rfl)
  simp only [List.getElem_toArray, List.getElem_cons_zero, List.getElem_cons_succ, Act.put, List.setIfInBounds_toArray, List.set_cons_zero, List.set_cons_succ]
  refine wpAnyH_ready (rs := [0, 7]) (by kernel_rfl) (by simp) ?_
  refine AllReadyH.cons rfl (fun K hK => ?_) (AllReadyH.cons rfl (fun K hK => ?_) (AllReadyH.nil))
  ·skip
   have g0 := cellOf HCW.out 0 (v := .int .u32 (i : Int)) rfl
   have g1 := cellOf HCW.out 1 (v := .int .u32 0) rfl
   have g2 := cellOf HCW.out 2 (v := .int .u64 (fk : Int)) rfl
   have g3 := cellOf HCW.out 3 (v := .int .u64 0) rfl
   have g4 := cellOf HCW.out 4 (v := .int .u64 (v : Int)) rfl
   have g5 := cellOf HCW.out 5 (v := .bool true) rfl
   simp only [List.getElem_toArray, List.getElem_cons_zero, List.getElem_cons_succ]
   go_simp
   refine hK.out _ _ ?_ (fun hHeld => ?_)
   ·exact HSS.out _ HMD.out
   clear hK K
   try simp only [Act.put, List.setIfInBounds_toArray, List.set_cons_zero, List.set_cons_succ]
   clear g0 g1 g2 g3 g4 g5
   refine wpAnyH_ready (rs := [7]) (by kernel_rfl) (by simp) ?_
   refine AllReadyH.cons rfl (fun K hK => ?_) (AllReadyH.nil)
   simp only [List.getElem_toArray, List.getElem_cons_zero, List.getElem_cons_succ]
   go_simp
   refine (CP.out _ HBE.out).mono ?_
   rintro e w13 ⟨x2, rfl, hst, hms, hge⟩
   dsimp only
   refine hK.out _ _ ?_ (fun hHeld => ?_)
   ·exact HSS.out _ (HMD.out.trans hms (fun k hk => .inl (by rw [List.mem_singleton.1 hk]; exact List.mem_cons_self ..)))
   clear hK K
   try simp only [Act.put, List.setIfInBounds_toArray, List.set_cons_zero, List.set_cons_succ]
   have HCW := Lib.hid ((hms.block _ (Array.getElem?_eq_some_iff.1 HCW.out).1 (fun hh => by have := HMF.out; have := List.mem_singleton.1 hh; omega)).trans HCW.out)
   have HST := Lib.hid hst
   have HMS : Hid (Mods [mf] w12 w13) := Lib.hid ((Mods.of_below HBE.out).trans hms (fun k hk => .inl hk))
   have HGE : Hid (∀ k ∈ obN x2, w12.heap.size ≤ k) := Lib.hid (fun k hk => Nat.le_trans HBE.out.size (hge k hk))
   have HMD : Hid (Mods [mf, w.heap.size] w12 w13) := Lib.hid (HMS.out.mono (fun k hk => by rw [List.mem_singleton.1 hk]; exact List.mem_cons_self ..))
   clear hst hms hge
   refine wpAnyH_ready (rs := [8]) (by kernel_rfl) (by simp) ?_
   refine AllReadyH.cons rfl (fun K hK => ?_) (AllReadyH.nil)
   have g0 := cellOf HCW.out 0 (v := .int .u32 (i : Int)) rfl
   have g1 := cellOf HCW.out 1 (v := .int .u32 0) rfl
   have g2 := cellOf HCW.out 2 (v := .int .u64 (fk : Int)) rfl
   have g3 := cellOf HCW.out 3 (v := .int .u64 0) rfl
   have g4 := cellOf HCW.out 4 (v := .int .u64 (v : Int)) rfl
   have g5 := cellOf HCW.out 5 (v := .bool true) rfl
   have f0 := frozenOf HCW.out 0
   have f1 := frozenOf HCW.out 1
   have f2 := frozenOf HCW.out 2
   have f3 := frozenOf HCW.out 3
   have f4 := frozenOf HCW.out 4
   have f5 := frozenOf HCW.out 5
   simp only [List.getElem_toArray, List.getElem_cons_zero, List.getElem_cons_succ]
   go_simp
   refine hK.out _ _ ?_ (fun hHeld => ?_)
   ·exact HSS.out _ ((((((HMD.out.setCell (p := ⟨w.heap.size, 0, none⟩) (by simp) _).setCell (p := ⟨w.heap.size, 1, none⟩) (by simp) _).setCell (p := ⟨w.heap.size, 2, none⟩) (by simp) _).setCell (p := ⟨w.heap.size, 3, none⟩) (by simp) _).setCell (p := ⟨w.heap.size, 4, none⟩) (by simp) _).setCell (p := ⟨w.heap.size, 5, none⟩) (by simp) _)
   clear hK K
   try simp only [Act.put, List.setIfInBounds_toArray, List.set_cons_zero, List.set_cons_succ]
   clear g0 g1 g2 g3 g4 g5 f0 f1 f2 f3 f4 f5
   obtain ⟨w14, hw14⟩ : ∃ W, ((((((w13.setCell ⟨w.heap.size, 0, none⟩ (.int .u32 (i : Int))).setCell ⟨w.heap.size, 1, none⟩ (.int .u32 0)).setCell ⟨w.heap.size, 2, none⟩ (.int .u64 (fk : Int))).setCell ⟨w.heap.size, 3, none⟩ (.int .u64 0)).setCell ⟨w.heap.size, 4, none⟩ (.int .u64 (v : Int))).setCell ⟨w.heap.size, 5, none⟩ (.bool true)) = W := ⟨_, rfl⟩
   rw [hw14] at hHeld ⊢
   have HCE : Hid (w14.heap[w.heap.size]? = some (.cells #[.int .u32 (i : Int), .int .u32 0, .int .u64 (fk : Int), .int .u64 0, .int .u64 (v : Int), .bool true] 136 (0, 0))) := Lib.hid (by rw [← hw14]; exact setOf (setOf (setOf (setOf (setOf (setOf HCW.out 0 _) 1 _) 2 _) 3 _) 4 _) 5 _)
   have HME : Hid (Mods [w.heap.size] w13 w14) := Lib.hid (by rw [← hw14]; exact (((((((Mods.refl _ _).setCell (p := ⟨w.heap.size, 0, none⟩) (by simp) _).setCell (p := ⟨w.heap.size, 1, none⟩) (by simp) _).setCell (p := ⟨w.heap.size, 2, none⟩) (by simp) _).setCell (p := ⟨w.heap.size, 3, none⟩) (by simp) _).setCell (p := ⟨w.heap.size, 4, none⟩) (by simp) _).setCell (p := ⟨w.heap.size, 5, none⟩) (by simp) _))
   clear hw14
   refine wpAnyH_take (i := 9) (v := ?_) rfl (by kernel_rfl) (by kernel_rfl) (by kernel_rfl) (fun _ _ _ h => h) (Or.inl ⟨by rfl, ?_⟩) (by assumption) ?_
   rotate_left
   ·(intro w hSw; (try dsimp only at hSw); simp only [List.getElem_toArray, List.getElem_cons_zero, List.getElem_cons_succ]; go_simp; first | done | with_reducible rfl)
   simp only [List.getElem_toArray, List.getElem_cons_zero, List.getElem_cons_succ, Act.put, List.setIfInBounds_toArray, List.set_cons_zero, List.set_cons_succ]
   refine wpAnyH_take (i := 10) (v := ?_) rfl (by kernel_rfl) (by kernel_rfl) (by kernel_rfl) (fun _ _ _ h => h) (Or.inl ⟨by rfl, ?_⟩) (by assumption) ?_
   rotate_left
   ·(intro w hSw; (try dsimp only at hSw); simp only [List.getElem_toArray, List.getElem_cons_zero, List.getElem_cons_succ]; go_simp; first | done | with_reducible rfl)
   simp only [List.getElem_toArray, List.getElem_cons_zero, List.getElem_cons_succ, Act.put, List.setIfInBounds_toArray, List.set_cons_zero, List.set_cons_succ]
   refine wpAnyH_done (by kernel_rfl) ?_ _
   have HEND := Lib.hid hHeld.2
   have HSE := Lib.hid hHeld.1
   clear hHeld
   clear HSS HSE HEND
   go_wp2_with fail
   refine bodyPost_ret (v := .tuple #[.agg #[.int .u32 (i : Int), .int .u32 0, .int .u64 (fk : Int), .int .u64 0, .int .u64 (v : Int), .bool true], .int .i64 ((n1 - 1 : Nat) : Int), .int .i64 0]) ?_ rfl ⟨x2, ?_, ?_, ?_, ?_⟩
   ·rw [ret_ctt rfl]
    have r1 := run_loadVar_mid (P := Tryz.prog) w14 w.heap.size 0 136 [.int .u32 (i : Int), .int .u32 0, .int .u64 (fk : Int), .int .u64 0, .int .u64 (v : Int), .bool true] _ (rangeOf HCE.out) Tryz.underlying136 rfl infoCh
    simp only [asAddr, Array.getD_eq_getD_getElem?, List.getElem?_toArray, List.getElem?_cons_succ, List.getElem?_cons_zero, Option.getD_some, Sem.run_pure, Result.andThen_ok, r1]
   ·rw [HJ.out, HFK.out, ← HKB.out.2.2.1]
   ·rw [HJ.out]
    refine HST.out.other HME.out (fun k hk hh => ?_) (fun p hp k hk hh => ?_)
    ·have := HH.out.lt k hk
     have := List.mem_singleton.1 hh
     omega
    ·have e := List.mem_singleton.1 hh
     rcases mem_putA hp with rfl | hp
     ·have h1 := HGE.out k hk
      have h2 := HSZ.out
      have h3 := HB12.out.size
      have h4 := (Array.getElem?_eq_some_iff.1 HC12.out).1
      omega
     ·have := (HH.out.nd p hp).lt k hk
      omega
   ·exact ((Mods.of_below HB12.out).trans HMS.out (fun k hk => .inl hk)).trans HME.out (fun k hk => .inr (by rw [List.mem_singleton.1 hk]; exact Nat.le_refl _))
   ·exact fun k hk => Nat.le_trans HB12.out.size (HGE.out k hk)
  ·skip
   simp only [List.getElem_toArray, List.getElem_cons_zero, List.getElem_cons_succ]
   go_simp
   refine (CP.out _ HBE.out).mono ?_
   rintro e w13 ⟨x2, rfl, hst, hms, hge⟩
   dsimp only
   refine hK.out _ _ ?_ (fun hHeld => ?_)
   ·exact HSS.out _ (HMD.out.trans hms (fun k hk => .inl (by rw [List.mem_singleton.1 hk]; exact List.mem_cons_self ..)))
   clear hK K
   try simp only [Act.put, List.setIfInBounds_toArray, List.set_cons_zero, List.set_cons_succ]
   have HCW := Lib.hid ((hms.block _ (Array.getElem?_eq_some_iff.1 HCW.out).1 (fun hh => by have := HMF.out; have := List.mem_singleton.1 hh; omega)).trans HCW.out)
   have HST := Lib.hid hst
   have HMS : Hid (Mods [mf] w12 w13) := Lib.hid ((Mods.of_below HBE.out).trans hms (fun k hk => .inl hk))
   have HGE : Hid (∀ k ∈ obN x2, w12.heap.size ≤ k) := Lib.hid (fun k hk => Nat.le_trans HBE.out.size (hge k hk))
   have HMD : Hid (Mods [mf, w.heap.size] w12 w13) := Lib.hid (HMS.out.mono (fun k hk => by rw [List.mem_singleton.1 hk]; exact List.mem_cons_self ..))
   clear hst hms hge
   refine wpAnyH_ready (rs := [0]) (by kernel_rfl) (by simp) ?_
   refine AllReadyH.cons rfl (fun K hK => ?_) (AllReadyH.nil)
   have g0 := cellOf HCW.out 0 (v := .int .u32 (i : Int)) rfl
   have g1 := cellOf HCW.out 1 (v := .int .u32 0) rfl
   have g2 := cellOf HCW.out 2 (v := .int .u64 (fk : Int)) rfl
   have g3 := cellOf HCW.out 3 (v := .int .u64 0) rfl
   have g4 := cellOf HCW.out 4 (v := .int .u64 (v : Int)) rfl
   have g5 := cellOf HCW.out 5 (v := .bool true) rfl
   simp only [List.getElem_toArray, List.getElem_cons_zero, List.getElem_cons_succ]
   go_simp
   refine hK.out _ _ ?_ (fun hHeld => ?_)
   ·exact HSS.out _ HMD.out
   clear hK K
   try simp only [Act.put, List.setIfInBounds_toArray, List.set_cons_zero, List.set_cons_succ]
   clear g0 g1 g2 g3 g4 g5
   refine wpAnyH_ready (rs := [8]) (by kernel_rfl) (by simp) ?_
   refine AllReadyH.cons rfl (fun K hK => ?_) (AllReadyH.nil)
   have g0 := cellOf HCW.out 0 (v := .int .u32 (i : Int)) rfl
   have g1 := cellOf HCW.out 1 (v := .int .u32 0) rfl
   have g2 := cellOf HCW.out 2 (v := .int .u64 (fk : Int)) rfl
   have g3 := cellOf HCW.out 3 (v := .int .u64 0) rfl
   have g4 := cellOf HCW.out 4 (v := .int .u64 (v : Int)) rfl
   have g5 := cellOf HCW.out 5 (v := .bool true) rfl
   have f0 := frozenOf HCW.out 0
   have f1 := frozenOf HCW.out 1
   have f2 := frozenOf HCW.out 2
   have f3 := frozenOf HCW.out 3
   have f4 := frozenOf HCW.out 4
   have f5 := frozenOf HCW.out 5
   simp only [List.getElem_toArray, List.getElem_cons_zero, List.getElem_cons_succ]
   go_simp
   refine hK.out _ _ ?_ (fun hHeld => ?_)
   ·exact HSS.out _ ((((((HMD.out.setCell (p := ⟨w.heap.size, 0, none⟩) (by simp) _).setCell (p := ⟨w.heap.size, 1, none⟩) (by simp) _).setCell (p := ⟨w.heap.size, 2, none⟩) (by simp) _).setCell (p := ⟨w.heap.size, 3, none⟩) (by simp) _).setCell (p := ⟨w.heap.size, 4, none⟩) (by simp) _).setCell (p := ⟨w.heap.size, 5, none⟩) (by simp) _)
   clear hK K
   try simp only [Act.put, List.setIfInBounds_toArray, List.set_cons_zero, List.set_cons_succ]
   clear g0 g1 g2 g3 g4 g5 f0 f1 f2 f3 f4 f5
   obtain ⟨w14, hw14⟩ : ∃ W, ((((((w13.setCell ⟨w.heap.size, 0, none⟩ (.int .u32 (i : Int))).setCell ⟨w.heap.size, 1, none⟩ (.int .u32 0)).setCell ⟨w.heap.size, 2, none⟩ (.int .u64 (fk : Int))).setCell ⟨w.heap.size, 3, none⟩ (.int .u64 0)).setCell ⟨w.heap.size, 4, none⟩ (.int .u64 (v : Int))).setCell ⟨w.heap.size, 5, none⟩ (.bool true)) = W := ⟨_, rfl⟩
   rw [hw14] at hHeld ⊢
   have HCE : Hid (w14.heap[w.heap.size]? = some (.cells #[.int .u32 (i : Int), .int .u32 0, .int .u64 (fk : Int), .int .u64 0, .int .u64 (v : Int), .bool true] 136 (0, 0))) := Lib.hid (by rw [← hw14]; exact setOf (setOf (setOf (setOf (setOf (setOf HCW.out 0 _) 1 _) 2 _) 3 _) 4 _) 5 _)
   have HME : Hid (Mods [w.heap.size] w13 w14) := Lib.hid (by rw [← hw14]; exact (((((((Mods.refl _ _).setCell (p := ⟨w.heap.size, 0, none⟩) (by simp) _).setCell (p := ⟨w.heap.size, 1, none⟩) (by simp) _).setCell (p := ⟨w.heap.size, 2, none⟩) (by simp) _).setCell (p := ⟨w.heap.size, 3, none⟩) (by simp) _).setCell (p := ⟨w.heap.size, 4, none⟩) (by simp) _).setCell (p := ⟨w.heap.size, 5, none⟩) (by simp) _))
   clear hw14
   refine wpAnyH_take (i := 9) (v := ?_) rfl (by kernel_rfl) (by kernel_rfl) (by kernel_rfl) (fun _ _ _ h => h) (Or.inl ⟨by rfl, ?_⟩) (by assumption) ?_
   rotate_left
   ·(intro w hSw; (try dsimp only at hSw); simp only [List.getElem_toArray, List.getElem_cons_zero, List.getElem_cons_succ]; go_simp; first | done | with_reducible rfl)
   simp only [List.getElem_toArray, List.getElem_cons_zero, List.getElem_cons_succ, Act.put, List.setIfInBounds_toArray, List.set_cons_zero, List.set_cons_succ]
   refine wpAnyH_take (i := 10) (v := ?_) rfl (by kernel_rfl) (by kernel_rfl) (by kernel_rfl) (fun _ _ _ h => h) (Or.inl ⟨by rfl, ?_⟩) (by assumption) ?_
   rotate_left
   ·(intro w hSw; (try dsimp only at hSw); simp only [List.getElem_toArray, List.getElem_cons_zero, List.getElem_cons_succ]; go_simp; first | done | with_reducible rfl)
   simp only [List.getElem_toArray, List.getElem_cons_zero, List.getElem_cons_succ, Act.put, List.setIfInBounds_toArray, List.set_cons_zero, List.set_cons_succ]
   refine wpAnyH_done (by kernel_rfl) ?_ _
   have HEND := Lib.hid hHeld.2
   have HSE := Lib.hid hHeld.1
   clear hHeld
   clear HSS HSE HEND
   go_wp2_with fail
   refine bodyPost_ret (v := .tuple #[.agg #[.int .u32 (i : Int), .int .u32 0, .int .u64 (fk : Int), .int .u64 0, .int .u64 (v : Int), .bool true], .int .i64 ((n1 - 1 : Nat) : Int), .int .i64 0]) ?_ rfl ⟨x2, ?_, ?_, ?_, ?_⟩
   ·rw [ret_ctt rfl]
    have r1 := run_loadVar_mid (P := Tryz.prog) w14 w.heap.size 0 136 [.int .u32 (i : Int), .int .u32 0, .int .u64 (fk : Int), .int .u64 0, .int .u64 (v : Int), .bool true] _ (rangeOf HCE.out) Tryz.underlying136 rfl infoCh
    simp only [asAddr, Array.getD_eq_getD_getElem?, List.getElem?_toArray, List.getElem?_cons_succ, List.getElem?_cons_zero, Option.getD_some, Sem.run_pure, Result.andThen_ok, r1]
   ·rw [HJ.out, HFK.out, ← HKB.out.2.2.1]
   ·rw [HJ.out]
    refine HST.out.other HME.out (fun k hk hh => ?_) (fun p hp k hk hh => ?_)
    ·have := HH.out.lt k hk
     have := List.mem_singleton.1 hh
     omega
    ·have e := List.mem_singleton.1 hh
     rcases mem_putA hp with rfl | hp
     ·have h1 := HGE.out k hk
      have h2 := HSZ.out
      have h3 := HB12.out.size
      have h4 := (Array.getElem?_eq_some_iff.1 HC12.out).1
      omega
     ·have := (HH.out.nd p hp).lt k hk
      omega
   ·exact ((Mods.of_below HB12.out).trans HMS.out (fun k hk => .inl hk)).trans HME.out (fun k hk => .inr (by rw [List.mem_singleton.1 hk]; exact Nat.le_refl _))
   ·exact fun k hk => Nat.le_trans HB12.out.size (HGE.out k hk)
end Go.Proofs.YtcdobdjemlaaaaaGreat
