import Derived.Test.YtgmahhdnjikdjaaGreatVG17
set_option linter.unusedVariables false
set_option linter.unusedSimpArgs false
/- Nodes in memory; block.Copy, walked. -/
namespace Go.Proofs.YtgmahhdnjikdjaaGreat
open Go.RowKit Go.Maps Wire
set_option linter.unusedVariables false
set_option linter.unusedSimpArgs false
/-- A node. -/
structure Nd where
 k : Int
 b : Nat
 keys : List Nat
 vals : List Nat
/-- A node's cells: its slices lie at the head of a block, or are nil. -/
structure NdV where
 k : Int
 b : Nat
 g1 : Option Nat
 n1 : Nat
 c1 : Nat
 g2 : Option Nat
 n2 : Nat
 c2 : Nat
def slO (g : Option Nat) (n c : Nat) : Value := .slice (g.map fun g => ⟨g, 0, none⟩) n c
def ndL (x : NdV) : List Value := [.int .i64 x.k, .int .u64 (x.b : Int), slO x.g1 x.n1 x.c1, slO x.g2 x.n2 x.c2]
def ndA (x : NdV) : Value := .agg (ndL x).toArray
theorem ndL_one (x : NdV) : ∀ u ∈ ndL x, u.oneCell' = true := fun u hu => by
 simp only [ndL, List.mem_cons, List.not_mem_nil, or_false] at hu
 rcases hu with rfl | rfl | rfl | rfl <;> rfl
def optI : Option Nat → Int
 | none => -1
 | some b => (b : Int)
theorem optI_inj {a b : Option Nat} (h : optI a = optI b) : a = b := by
 cases a <;> cases b <;> simp [optI] at h ⊢ <;> omega
def ndD (x : NdV) : DataW Unit := .agg [.lit (.int .i64 x.k), .lit (.int .i64 (x.b : Int)), .lit (.int .i64 (optI x.g1)), .lit (.int .i64 (x.n1 : Int)), .lit (.int .i64 (x.c1 : Int)), .lit (.int .i64 (optI x.g2)), .lit (.int .i64 (x.n2 : Int)), .lit (.int .i64 (x.c2 : Int))]
theorem ndD_inj {x y : NdV} (h : ndD x = ndD y) : x = y := by
 obtain ⟨a1, a2, a3, a4, a5, a6, a7, a8⟩ := x
 obtain ⟨b1, b2, b3, b4, b5, b6, b7, b8⟩ := y
 unfold ndD at h
 simp only [DataW.agg.injEq, List.cons.injEq, DataW.lit.injEq, Lit.int.injEq, true_and, and_true] at h
 obtain ⟨h1, h2, h3, h4, h5, h6, h7, h8⟩ := h
 obtain rfl := optI_inj h3
 obtain rfl := optI_inj h6
 obtain rfl : a2 = b2 := by omega
 obtain rfl : a4 = b4 := by omega
 obtain rfl : a5 = b5 := by omega
 obtain rfl : a7 = b7 := by omega
 obtain rfl : a8 = b8 := by omega
 subst h1
 rfl
theorem slO_inj {g g' : Option Nat} {n c n' c' : Nat} (h : slO g n c = slO g' n' c') : g = g' ∧ n = n' ∧ c = c' := by
 unfold slO at h
 obtain ⟨h1, h2, h3⟩ := Value.slice.inj h
 refine ⟨?_, h2, h3⟩
 cases g <;> cases g' <;> simp at h1 ⊢
 exact h1
theorem ndA_inj {x y : NdV} (h : ndA x = ndA y) : x = y := by
 obtain ⟨a1, a2, a3, a4, a5, a6, a7, a8⟩ := x
 obtain ⟨b1, b2, b3, b4, b5, b6, b7, b8⟩ := y
 have h1 := Value.agg.inj h
 have h2 : ndL ⟨a1, a2, a3, a4, a5, a6, a7, a8⟩ = ndL ⟨b1, b2, b3, b4, b5, b6, b7, b8⟩ := by simpa using congrArg Array.toList h1
 unfold ndL at h2
 simp only [List.cons.injEq, Value.int.injEq, true_and, and_true] at h2
 obtain ⟨e1, e2, e3, e4⟩ := h2
 obtain ⟨rfl, rfl, rfl⟩ := slO_inj e3
 obtain ⟨rfl, rfl, rfl⟩ := slO_inj e4
 obtain rfl : a2 = b2 := by omega
 subst e1
 rfl
open Classical in
/-- How a node, as a map's element, reads. -/
noncomputable def RNd (v : Value) : Option (DataW Unit × List MemPlace) := if h : ∃ x : NdV, v = ndA x then some (ndD h.choose, []) else none
theorem RNd_mk (x : NdV) : RNd (ndA x) = some (ndD x, []) := by
 have hx : ∃ y : NdV, ndA x = ndA y := ⟨x, rfl⟩
 unfold RNd
 rw [dif_pos hx, ← ndA_inj hx.choose_spec]
theorem RNd_inv {v : Value} {x : NdV} {ps : List MemPlace} (h : RNd v = some (ndD x, ps)) : v = ndA x ∧ ps = [] := by
 unfold RNd at h
 split at h
 ·rename_i hx
  simp only [Option.some.injEq, Prod.mk.injEq] at h
  have e := ndD_inj h.1
  have hs := hx.choose_spec
  rw [e] at hs
  exact ⟨hs, h.2.symm⟩
 ·cases h
/-- Numbers as cells. -/
def qV (l : List Nat) : List Value := l.map fun c => .int .u64 ((c : Nat) : Int)
theorem qV_len (l : List Nat) : (qV l).length = l.length := by simp [qV]
theorem qV_get {l : List Nat} {j c : Nat} (h : l[j]? = some c) : (qV l)[j]? = some (.int .u64 (c : Int)) := by simp [qV, h]
theorem qV_one (l : List Nat) : ∀ u ∈ qV l, u.oneCell' = true := fun u hu => by
 obtain ⟨b, _, rfl⟩ := List.mem_map.1 hu
 rfl
/-- A node's rows are its keys and its values; they lie behind the base, apart. -/
structure NdAt (w : World) (base : Nat) (x : NdV) (y : Nd) : Prop where
 k : x.k = y.k
 b : x.b = y.b
 n1 : x.n1 = y.keys.length
 n2 : x.n2 = y.vals.length
 r1 : w.ownsRow base 26 1 (slO x.g1 x.n1 x.c1) y.keys.length (qV y.keys)
 r2 : w.ownsRow base 26 1 (slO x.g2 x.n2 x.c2) y.vals.length (qV y.vals)
 dj : ∀ j ∈ ob (slO x.g2 x.n2 x.c2), j ∉ ob (slO x.g1 x.n1 x.c1)
theorem NdAt.below {w w' : World} {base : Nat} {x : NdV} {y : Nd} (h : NdAt w base x y) (hb : Below w.heap.size w w') : NdAt w' base x y :=
 ⟨h.k, h.b, h.n1, h.n2, ownsRow_below h.r1 hb, ownsRow_below h.r2 hb, h.dj⟩
theorem row_slO {w : World} {base n : Nat} {e : TypeId} {v : Value} {xs : List Value} (h : w.ownsRow base e 1 v n xs) : ∃ g c, v = slO g n c := by
 rcases h.2 with ⟨rfl, h0⟩ | ⟨g, cap, cur, rfl, _⟩
 ·exact ⟨none, 0, by rw [h0]; rfl⟩
 ·exact ⟨some g, cap, rfl⟩
theorem infoU64 : (Tryz.prog.info? 26).map (fun i => (i.zero, i.size, i.bytes)) = some (some (.int .u64 0), 1, 8) := by kernel_rfl
set_option maxRecDepth 100000 in
set_option maxHeartbeats 3200000 in
theorem clone64 (v : Value) (n : Nat) (xs : List Nat) (w : World) (h : Rd w 1 v n (qV xs)) (hn : n ≤ 1000000) :
  Calls Tryz.prog 158 #[v] w fun e w' => ∃ v', e = .returned v' ∧ w'.ownsRow w.heap.size 26 1 v' n (qV xs) ∧ Below w.heap.size w w' := by
 have hrd := h
 obtain ⟨ao, cap, rfl, hl, hm, hcap, hc⟩ := h
 cases ao with
 | none =>
  obtain rfl := hcap.1 rfl
  have hb : xs = [] := by
   cases xs with
   | nil => rfl
   | cons y ys => obtain ⟨b, off, h0, _⟩ := hc 0 _ (qV_get rfl); cases h0
  subst hb
  obtain rfl : n = 0 := by simpa [qV] using hl.symm
  clear hl hm hcap hc hrd
  have he := fun w a n c => Lib.run_eql_slice_nil (P := Tryz.prog) w 157 26 a n c 0 0 Tryz.underlying157
  go_enter Tryz.func158, Tryz.ntmps158
  go_wp2
  go_ret
  exact ⟨_, rfl, World.ownsRow_nil _ _ _ _, Below.refl _ _⟩
 | some ad =>
  clear hl hm hcap hc
  have he := fun w a n c => Lib.run_eql_slice_nil (P := Tryz.prog) w 157 26 a n c 0 0 Tryz.underlying157
  have ho0 : (w.alloc (.cells #[] 26)).ownsRow w.heap.size 26 1 (.slice (some ⟨w.heap.size, 0, none⟩) 0 0) 0 [] := World.ownsRow_made w #[] 0 (Nat.le_refl _) (by decide) rfl
  have hrd2 := hrd.below (balloc (Below.refl _ w) (.cells #[] 26))
  go_enter Tryz.func158, Tryz.ntmps158
  go_wp2_with (at_builtin; go_must (refine wpList_apps rfl _ _ 157 rfl w.heap.size 26 _ 1 8 Tryz.underlying157 infoU64 rfl (by decide) (by decide) _ 0 [] rfl ho0 _ n (qV xs) rfl hrd2 (qV_one xs) (by omega) (by simp) ?_); intro v' w1 ho1 hb1 _ _ _)
  go_ret
  exact ⟨_, rfl, by simpa using ho1, (balloc (Below.refl _ w) _).trans hb1⟩
theorem res_one_nd {fn : Func} {p : Tmp} (h : fn.results = #[.cell p 159]) (tmps : Array Value) (w : World) (g : Nat) (L : List Value) (hp : tmps.getD p undef = .pointer (some ⟨g, 0, none⟩)) (hr : w.rangeAt g 0 L) (hl : (Tryz.prog.info? 159).map (·.size) = some L.length) :
  (results fn tmps).run Tryz.prog w = .ok (.agg L.toArray) w := by
 rw [ret_eq h, hp]
 have := run_loadVar_mid (P := Tryz.prog) w g 0 159 L _ hr Tryz.underlying159 rfl hl
 simp only [asAddr, Sem.run_pure, Result.andThen_ok, this]
/-- What Copy leaves. -/
def CopyP (w : World) (y : Nd) (e : Ending) (w' : World) : Prop := ∃ x, e = .returned (ndA x) ∧ NdAt w' w.heap.size x y ∧ Below w.heap.size w w'
set_option maxRecDepth 100000 in
set_option maxHeartbeats 6400000 in
theorem bcopy_at (w : World) (y : Nd) (v1 v2 : Value) (h1 : Rd w 1 v1 y.keys.length (qV y.keys)) (h2 : Rd w 1 v2 y.vals.length (qV y.vals)) (hk : y.keys.length ≤ 1000000) (hv : y.vals.length ≤ 1000000) :
  Calls Tryz.prog 122 #[.agg #[.int .i64 y.k, .int .u64 (y.b : Int), v1, v2]] w (CopyP w y) := by
 obtain ⟨a1, c1, e1, _⟩ := id h1
 obtain ⟨a2, c2, e2, _⟩ := id h2
 have HE := Lib.hid (And.intro e1 e2)
 obtain ⟨w1, hw1⟩ : ∃ W, w.alloc (.cells #[.int .i64 y.k, .int .u64 (y.b : Int), v1, v2] 159) = W := ⟨_, rfl⟩
 have hb1 : Below w.heap.size w w1 := by rw [← hw1]; exact balloc (Below.refl _ _) _
 have hx1 : w1.heap[w.heap.size]? = some (.cells #[.int .i64 y.k, .int .u64 (y.b : Int), v1, v2] 159 (0, 0)) := by rw [← hw1]; exact heap_alloc_new _ _
 obtain ⟨w2, hw2⟩ : ∃ W, w1.alloc (.cells #[.int .i64 0, .int .u64 0, .slice none 0 0, .slice none 0 0] 159) = W := ⟨_, rfl⟩
 have hb2 : Below w1.heap.size w1 w2 := by rw [← hw2]; exact balloc (Below.refl _ _) _
 have hz2 : w2.heap[w1.heap.size]? = some (.cells #[.int .i64 0, .int .u64 0, .slice none 0 0, .slice none 0 0] 159 (0, 0)) := by rw [← hw2]; exact heap_alloc_new _ _
 obtain ⟨q, hq⟩ : ∃ q, w1.heap.size = q := ⟨_, rfl⟩
 rw [hq] at hz2
 have HZ2 := Lib.hid hz2
 have HX2 := Lib.hid ((hb2.block _ (Array.getElem?_eq_some_iff.1 hx1).1).trans hx1)
 have HPL : Hid (w.heap.size < w2.heap.size ∧ q < w2.heap.size ∧ w.heap.size < q) := Lib.hid ⟨(Array.getElem?_eq_some_iff.1 HX2.out).1, (Array.getElem?_eq_some_iff.1 hz2).1, by rw [← hq]; exact (Array.getElem?_eq_some_iff.1 hx1).1⟩
 have HQG : Hid (w.heap.size ≤ q) := Lib.hid (by have := HPL.out.2.2; omega)
 have HB2 := Lib.hid (bthn hb1 hb2)
 have CL1 : Hid (∀ X, Below w2.heap.size w2 X → Calls Tryz.prog 158 #[v1] X fun e w' => ∃ v', e = .returned v' ∧ w'.ownsRow X.heap.size 26 1 v' y.keys.length (qV y.keys) ∧ Below X.heap.size X w') := Lib.hid (fun X hX => clone64 v1 _ _ X (h1.below (bthn (bthn hb1 hb2) hX)) hk)
 have CL2 : Hid (∀ X, Below w2.heap.size w2 X → Calls Tryz.prog 158 #[v2] X fun e w' => ∃ v', e = .returned v' ∧ w'.ownsRow X.heap.size 26 1 v' y.vals.length (qV y.vals) ∧ Below X.heap.size X w') := Lib.hid (fun X hX => clone64 v2 _ _ X (h2.below (bthn (bthn hb1 hb2) hX)) hv)
 clear h1 h2 hb1 hx1 hb2 hz2 e1 e2
 go_enter Tryz.func122, Tryz.ntmps122
 go_wp2_with fail
 (try rw [hw1])
 (try rw [hw2])
 (try rw [hq])
 clear hw1 hw2 hq
 have HSS : Hid (∀ X, Mods [w.heap.size] w2 X → (True) ∧ Mods [w.heap.size] w2 X) := Lib.hid (fun X hb => ⟨trivial, hb⟩)
 refine wp_region_held_drew (S := fun X => (True) ∧ Mods [w.heap.size] w2 X) (by kernel_rfl) (HSS.out _ (Mods.of_below (Below.refl _ _).drew)) (fun hHeld => ?_)
 have hbe : Below w2.heap.size w2 w2.drew := (Below.refl _ _).drew
 obtain ⟨wd, hwd⟩ : ∃ y, w2.drew = y := ⟨_, rfl⟩
 rw [hwd] at hHeld hbe ⊢
 have HBE := Lib.hid hbe
 have HS0 : Hid (w2.heap.size ≤ wd.heap.size) := Lib.hid HBE.out.size
 clear hwd hbe
 refine wpAnyH_take (i := 0) (v := ?_) rfl (by kernel_rfl) (by kernel_rfl) (by kernel_rfl) (fun _ _ _ h => h) (Or.inl ⟨by rfl, ?_⟩) (by assumption) ?_
 rotate_left
 ·(intro w hSw; (try dsimp only at hSw); simp only [List.getElem_toArray, List.getElem_cons_zero, List.getElem_cons_succ]; go_simp; first | done | with_reducible rfl)
 simp only [List.getElem_toArray, List.getElem_cons_zero, List.getElem_cons_succ, Act.put, List.setIfInBounds_toArray, List.set_cons_zero, List.set_cons_succ]
 refine wpAnyH_take (i := 3) (v := ?_) rfl (by kernel_rfl) (by kernel_rfl) (by kernel_rfl) (fun _ _ _ h => h) (Or.inl ⟨by rfl, ?_⟩) (by assumption) ?_
 rotate_left
 ·(intro w hSw; (try dsimp only at hSw); simp only [List.getElem_toArray, List.getElem_cons_zero, List.getElem_cons_succ]; go_simp; first | done | with_reducible rfl)
 simp only [List.getElem_toArray, List.getElem_cons_zero, List.getElem_cons_succ, Act.put, List.setIfInBounds_toArray, List.set_cons_zero, List.set_cons_succ]
 refine wpAnyH_ready (rs := [1, 4]) (by kernel_rfl) (by simp) ?_
 refine AllReadyH.cons rfl (fun K hK => ?_) (AllReadyH.cons rfl (fun K hK => ?_) (AllReadyH.nil))
 ·skip
  have hrd := cellOf ((HBE.out.block _ HPL.out.1).trans HX2.out) 2 (v := v1) rfl
  simp only [List.getElem_toArray, List.getElem_cons_zero, List.getElem_cons_succ]
  go_simp
  clear hrd
  refine hK.out _ _ ?_ (fun hHeld => ?_)
  ·exact (by first | exact HSS.out _ (Mods.of_below HBE.out) | exact HSS.out _ HMD.out)
  clear hK K
  try simp only [Act.put, List.setIfInBounds_toArray, List.set_cons_zero, List.set_cons_succ]
  refine wpAnyH_ready (rs := [2, 4]) (by kernel_rfl) (by simp) ?_
  refine AllReadyH.cons rfl (fun K hK => ?_) (AllReadyH.cons rfl (fun K hK => ?_) (AllReadyH.nil))
  ·skip
   simp only [List.getElem_toArray, List.getElem_cons_zero, List.getElem_cons_succ]
   go_simp
   refine (CL1.out _ HBE.out).mono ?_
   rintro e w3 ⟨va, rfl, ho2, hb2⟩
   dsimp only
   have HBE := Lib.hid (bthen HBE.out hb2)
   have hSp := HSS.out _ (Mods.of_below HBE.out)
   clear hHeld
   refine hK.out _ _ hSp (fun hHeld => ?_)
   clear hSp hK K
   try simp only [Act.put, List.setIfInBounds_toArray, List.set_cons_zero, List.set_cons_succ]
   obtain ⟨ga, ca, rfl⟩ := row_slO ho2
   have HO2 := Lib.hid ho2
   have HLO2 : Hid (w.heap.size ≤ wd.heap.size) := Lib.hid (Nat.le_trans HB2.out.size HS0.out)
   clear ho2
   have HC2 := Lib.hid hb2
   clear hb2
   refine wpAnyH_ready (rs := [4]) (by kernel_rfl) (by simp) ?_
   refine AllReadyH.cons rfl (fun K hK => ?_) (AllReadyH.nil)
   have hrd := cellOf ((HBE.out.block _ HPL.out.1).trans HX2.out) 3 (v := v2) rfl
   simp only [List.getElem_toArray, List.getElem_cons_zero, List.getElem_cons_succ]
   go_simp
   clear hrd
   refine hK.out _ _ ?_ (fun hHeld => ?_)
   ·exact (by first | exact HSS.out _ (Mods.of_below HBE.out) | exact HSS.out _ HMD.out)
   clear hK K
   try simp only [Act.put, List.setIfInBounds_toArray, List.set_cons_zero, List.set_cons_succ]
   refine wpAnyH_take (i := 6) (v := ?_) rfl (by kernel_rfl) (by kernel_rfl) (by kernel_rfl) (fun _ _ _ h => h) (Or.inl ⟨by rfl, ?_⟩) (by assumption) ?_
   rotate_left
   ·(intro w hSw; (try dsimp only at hSw); simp only [List.getElem_toArray, List.getElem_cons_zero, List.getElem_cons_succ]; go_simp; first | done | with_reducible rfl)
   simp only [List.getElem_toArray, List.getElem_cons_zero, List.getElem_cons_succ, Act.put, List.setIfInBounds_toArray, List.set_cons_zero, List.set_cons_succ]
   refine wpAnyH_ready (rs := [5]) (by kernel_rfl) (by simp) ?_
   refine AllReadyH.cons rfl (fun K hK => ?_) (AllReadyH.nil)
   simp only [List.getElem_toArray, List.getElem_cons_zero, List.getElem_cons_succ]
   go_simp
   refine (CL2.out _ HBE.out).mono ?_
   rintro e w5 ⟨vb, rfl, ho5, hb5⟩
   dsimp only
   have HBE := Lib.hid (bthen HBE.out hb5)
   have hSp := HSS.out _ (Mods.of_below HBE.out)
   clear hHeld
   refine hK.out _ _ hSp (fun hHeld => ?_)
   clear hSp hK K
   try simp only [Act.put, List.setIfInBounds_toArray, List.set_cons_zero, List.set_cons_succ]
   obtain ⟨gb, cb, rfl⟩ := row_slO ho5
   have HO5 := Lib.hid ho5
   have HLO5 : Hid (w.heap.size ≤ w3.heap.size) := Lib.hid (Nat.le_trans HLO2.out HC2.out.size)
   clear ho5
   have HC5 := Lib.hid hb5
   clear hb5
   refine wpAnyH_ready (rs := [7]) (by kernel_rfl) (by simp) ?_
   refine AllReadyH.cons rfl (fun K hK => ?_) (AllReadyH.nil)
   have hox := (HBE.out.block _ HPL.out.1).trans HX2.out
   have hc11 := cellOf hox 2 (v := v1) rfl
   have hf11 := frozenOf hox 2
   unfold slO
   simp only [List.getElem_toArray, List.getElem_cons_zero, List.getElem_cons_succ]
   go_simp
   refine hK.out _ _ ?_ (fun hHeld => ?_)
   ·exact HSS.out _ ((Mods.of_below HBE.out).setCell (p := ⟨w.heap.size, 2, none⟩) (List.mem_singleton.2 rfl) _)
   clear hK K
   try simp only [Act.put, List.setIfInBounds_toArray, List.set_cons_zero, List.set_cons_succ]
   clear hc11 hf11 hox
   refine wpAnyH_take (i := 8) (v := ?_) rfl (by kernel_rfl) (by kernel_rfl) (by kernel_rfl) (fun _ _ _ h => h) (Or.inl ⟨by rfl, ?_⟩) (by assumption) ?_
   rotate_left
   ·(intro w hSw; (try dsimp only at hSw); simp only [List.getElem_toArray, List.getElem_cons_zero, List.getElem_cons_succ]; go_simp; first | done | with_reducible rfl)
   simp only [List.getElem_toArray, List.getElem_cons_zero, List.getElem_cons_succ, Act.put, List.setIfInBounds_toArray, List.set_cons_zero, List.set_cons_succ]
   refine wpAnyH_ready (rs := [9]) (by kernel_rfl) (by simp) ?_
   refine AllReadyH.cons rfl (fun K hK => ?_) (AllReadyH.nil)
   have hox := setOf ((HBE.out.block _ HPL.out.1).trans HX2.out) 2 (slO ga y.keys.length ca)
   have hc13 := cellOf hox 3 (v := v2) rfl
   have hf13 := frozenOf hox 3
   unfold slO at hc13 hf13
   simp only [List.getElem_toArray, List.getElem_cons_zero, List.getElem_cons_succ]
   go_simp
   refine hK.out _ _ ?_ (fun hHeld => ?_)
   ·exact HSS.out _ (((Mods.of_below HBE.out).setCell (p := ⟨w.heap.size, 2, none⟩) (List.mem_singleton.2 rfl) _).setCell (p := ⟨w.heap.size, 3, none⟩) (List.mem_singleton.2 rfl) _)
   clear hK K
   try simp only [Act.put, List.setIfInBounds_toArray, List.set_cons_zero, List.set_cons_succ]
   clear hc13 hf13 hox
   refine wpAnyH_done (by kernel_rfl) ?_ _
   have HEND := Lib.hid hHeld.2
   have HSE := Lib.hid hHeld.1
   clear hHeld
   clear HSS HSE HEND
   have HOX : Hid (w5.heap[w.heap.size]? = some (.cells #[.int .i64 y.k, .int .u64 (y.b : Int), v1, v2] 159 (0, 0))) := Lib.hid ((HBE.out.block _ HPL.out.1).trans HX2.out)
   have HOZ : Hid (w5.heap[q]? = some (.cells #[.int .i64 0, .int .u64 0, .slice none 0 0, .slice none 0 0] 159 (0, 0))) := Lib.hid ((HBE.out.block _ HPL.out.2.1).trans HZ2.out)
   have h2 := setOf HOX.out 2 (slO ga y.keys.length ca)
   have h3 := setOf h2 3 (slO gb y.vals.length cb)
   have HND : Hid (NdAt w5 w.heap.size ⟨y.k, y.b, ga, y.keys.length, ca, gb, y.vals.length, cb⟩ y) := Lib.hid ⟨rfl, rfl, rfl, rfl, ownsRow_below (ownsRow_base HO2.out HLO2.out) HC5.out, ownsRow_base HO5.out HLO5.out, fun j hj hj2 => by
    have h1 := ownsRow_lt HO2.out j hj2
    have h9 := ownsRow_ge HO5.out j hj
    omega⟩
   obtain ⟨w6, hw6⟩ : ∃ W, (w5.setCell ⟨w.heap.size, 2, none⟩ (.slice (ga.map fun g => ⟨g, 0, none⟩) y.keys.length ca)).setCell ⟨w.heap.size, 3, none⟩ (.slice (gb.map fun g => ⟨g, 0, none⟩) y.vals.length cb) = W := ⟨_, rfl⟩
   have h4 : ((w5.setCell ⟨w.heap.size, 2, none⟩ (.slice (ga.map fun g => ⟨g, 0, none⟩) y.keys.length ca)).setCell ⟨w.heap.size, 3, none⟩ (.slice (gb.map fun g => ⟨g, 0, none⟩) y.vals.length cb)).heap[w.heap.size]? = some (.cells (ndL ⟨y.k, y.b, ga, y.keys.length, ca, gb, y.vals.length, cb⟩).toArray 159 (0, 0)) := h3
   rw [hw6] at h4
   have HX6 : Hid (w6.heap[w.heap.size]? = some (.cells (ndL ⟨y.k, y.b, ga, y.keys.length, ca, gb, y.vals.length, cb⟩).toArray 159 (0, 0))) := Lib.hid h4
   have HM6 : Hid (Mods [w.heap.size] w5 w6) := Lib.hid (by rw [← hw6]; exact ((Mods.refl _ _).setCell (p := ⟨w.heap.size, 2, none⟩) (List.mem_singleton.2 rfl) _).setCell (p := ⟨w.heap.size, 3, none⟩) (List.mem_singleton.2 rfl) _)
   have HZ6 : Hid (w6.heap[q]? = some (.cells #[.int .i64 0, .int .u64 0, .slice none 0 0, .slice none 0 0] 159 (0, 0))) := Lib.hid ((HM6.out.block _ (Array.getElem?_eq_some_iff.1 HOZ.out).1 (by have := HPL.out.2.2; simp; omega)).trans HOZ.out)
   have HN6 : Hid (NdAt w6 w.heap.size ⟨y.k, y.b, ga, y.keys.length, ca, gb, y.vals.length, cb⟩ y) := Lib.hid ⟨rfl, rfl, rfl, rfl, ownsRow_at HND.out.r1 (fun k hk => HM6.out.block k (ownsRow_lt HND.out.r1 k hk) (fun hh => ob_tag HND.out.r1 HOX.out (by decide) (by rw [← List.mem_singleton.1 hh]; exact hk))), ownsRow_at HND.out.r2 (fun k hk => HM6.out.block k (ownsRow_lt HND.out.r2 k hk) (fun hh => ob_tag HND.out.r2 HOX.out (by decide) (by rw [← List.mem_singleton.1 hh]; exact hk))), HND.out.dj⟩
   have HB6 : Hid (Below w.heap.size w w6) := Lib.hid ((bthn HB2.out HBE.out).trans (HM6.out.below (fun k hk => by rw [List.mem_singleton.1 hk]; exact Nat.le_refl _) (bthn HB2.out HBE.out).size))
   obtain ⟨xv, hxv⟩ : ∃ x : NdV, (⟨y.k, y.b, ga, y.keys.length, ca, gb, y.vals.length, cb⟩ : NdV) = x := ⟨_, rfl⟩
   rw [hxv] at HX6 HN6
   obtain ⟨NL, hNL⟩ : ∃ L, ndL xv = L := ⟨_, rfl⟩
   have HN1 : Hid (NL.toArray.all (·.oneCell') = true) := Lib.hid (by rw [← hNL]; exact Array.all_eq_true_iff_forall_mem.2 (fun v hv => ndL_one xv v (by simpa using hv)))
   have HNI : Hid ((Tryz.prog.info? 159).map (·.size) = some NL.length) := Lib.hid (by rw [← hNL]; exact infoNd)
   have HNS : Hid ((Tryz.prog.info? 159).map (·.size) = some NL.toArray.size) := Lib.hid (by rw [← hNL]; exact infoNd)
   rw [hNL] at HX6
   have HNE := Lib.hid hNL
   have hth : w6.there q 0 NL.toArray.size := by rw [← hNL]; exact thereOf HZ6.out (by simp [ndL])
   have HTH := Lib.hid hth
   clear h2 h3 h4 hxv hNL hth
   go_upto_region 2 with fail
   (try rw [hw6])
   clear hw6
   apply wp_region_lit
   repeat (first
    | (refine wpList_load_mid rfl 159 _ rfl w.heap.size 0 rfl NL _ (rangeOf HX6.out) Tryz.underlying159 rfl HNI.out ?_)
    | (refine wpList_store_mid rfl 159 _ _ rfl q 0 NL.toArray rfl rfl HTH.out HNS.out HN1.out ?_)
    | go_step)
   refine bodyPost_ret (v := .agg NL.toArray) (res_one_nd rfl _ _ q NL rfl (World.rangeAt_setCells_same _ _ _ _ (by have h := HTH.out; simpa using h)) HNI.out) rfl ⟨xv, by rw [← HNE.out]; rfl, ?_, ?_⟩
   ·have hms : Mods [q] w6 (w6.setCells q 0 NL) := mods_sets (List.mem_singleton.2 rfl) _ _ (Mods.refl _ _)
    exact ⟨HN6.out.k, HN6.out.b, HN6.out.n1, HN6.out.n2, ownsRow_at HN6.out.r1 (fun k hk => hms.block k (ownsRow_lt HN6.out.r1 k hk) (fun hh => ob_tag HN6.out.r1 HZ6.out (by decide) (by rw [← List.mem_singleton.1 hh]; exact hk))), ownsRow_at HN6.out.r2 (fun k hk => hms.block k (ownsRow_lt HN6.out.r2 k hk) (fun hh => ob_tag HN6.out.r2 HZ6.out (by decide) (by rw [← List.mem_singleton.1 hh]; exact hk))), HN6.out.dj⟩
   ·exact belowSets HQG.out _ _ _ HB6.out
  ·skip
   have hrd := cellOf ((HBE.out.block _ HPL.out.1).trans HX2.out) 3 (v := v2) rfl
   simp only [List.getElem_toArray, List.getElem_cons_zero, List.getElem_cons_succ]
   go_simp
   clear hrd
   refine hK.out _ _ ?_ (fun hHeld => ?_)
   ·exact (by first | exact HSS.out _ (Mods.of_below HBE.out) | exact HSS.out _ HMD.out)
   clear hK K
   try simp only [Act.put, List.setIfInBounds_toArray, List.set_cons_zero, List.set_cons_succ]
   refine wpAnyH_ready (rs := [2]) (by kernel_rfl) (by simp) ?_
   refine AllReadyH.cons rfl (fun K hK => ?_) (AllReadyH.nil)
   simp only [List.getElem_toArray, List.getElem_cons_zero, List.getElem_cons_succ]
   go_simp
   refine (CL1.out _ HBE.out).mono ?_
   rintro e w3 ⟨va, rfl, ho2, hb2⟩
   dsimp only
   have HBE := Lib.hid (bthen HBE.out hb2)
   have hSp := HSS.out _ (Mods.of_below HBE.out)
   clear hHeld
   refine hK.out _ _ hSp (fun hHeld => ?_)
   clear hSp hK K
   try simp only [Act.put, List.setIfInBounds_toArray, List.set_cons_zero, List.set_cons_succ]
   obtain ⟨ga, ca, rfl⟩ := row_slO ho2
   have HO2 := Lib.hid ho2
   have HLO2 : Hid (w.heap.size ≤ wd.heap.size) := Lib.hid (Nat.le_trans HB2.out.size HS0.out)
   clear ho2
   have HC2 := Lib.hid hb2
   clear hb2
   refine wpAnyH_take (i := 6) (v := ?_) rfl (by kernel_rfl) (by kernel_rfl) (by kernel_rfl) (fun _ _ _ h => h) (Or.inl ⟨by rfl, ?_⟩) (by assumption) ?_
   rotate_left
   ·(intro w hSw; (try dsimp only at hSw); simp only [List.getElem_toArray, List.getElem_cons_zero, List.getElem_cons_succ]; go_simp; first | done | with_reducible rfl)
   simp only [List.getElem_toArray, List.getElem_cons_zero, List.getElem_cons_succ, Act.put, List.setIfInBounds_toArray, List.set_cons_zero, List.set_cons_succ]
   refine wpAnyH_ready (rs := [5]) (by kernel_rfl) (by simp) ?_
   refine AllReadyH.cons rfl (fun K hK => ?_) (AllReadyH.nil)
   simp only [List.getElem_toArray, List.getElem_cons_zero, List.getElem_cons_succ]
   go_simp
   refine (CL2.out _ HBE.out).mono ?_
   rintro e w5 ⟨vb, rfl, ho5, hb5⟩
   dsimp only
   have HBE := Lib.hid (bthen HBE.out hb5)
   have hSp := HSS.out _ (Mods.of_below HBE.out)
   clear hHeld
   refine hK.out _ _ hSp (fun hHeld => ?_)
   clear hSp hK K
   try simp only [Act.put, List.setIfInBounds_toArray, List.set_cons_zero, List.set_cons_succ]
   obtain ⟨gb, cb, rfl⟩ := row_slO ho5
   have HO5 := Lib.hid ho5
   have HLO5 : Hid (w.heap.size ≤ w3.heap.size) := Lib.hid (Nat.le_trans HLO2.out HC2.out.size)
   clear ho5
   have HC5 := Lib.hid hb5
   clear hb5
   refine wpAnyH_ready (rs := [7]) (by kernel_rfl) (by simp) ?_
   refine AllReadyH.cons rfl (fun K hK => ?_) (AllReadyH.nil)
   have hox := (HBE.out.block _ HPL.out.1).trans HX2.out
   have hc11 := cellOf hox 2 (v := v1) rfl
   have hf11 := frozenOf hox 2
   unfold slO
   simp only [List.getElem_toArray, List.getElem_cons_zero, List.getElem_cons_succ]
   go_simp
   refine hK.out _ _ ?_ (fun hHeld => ?_)
   ·exact HSS.out _ ((Mods.of_below HBE.out).setCell (p := ⟨w.heap.size, 2, none⟩) (List.mem_singleton.2 rfl) _)
   clear hK K
   try simp only [Act.put, List.setIfInBounds_toArray, List.set_cons_zero, List.set_cons_succ]
   clear hc11 hf11 hox
   refine wpAnyH_take (i := 8) (v := ?_) rfl (by kernel_rfl) (by kernel_rfl) (by kernel_rfl) (fun _ _ _ h => h) (Or.inl ⟨by rfl, ?_⟩) (by assumption) ?_
   rotate_left
   ·(intro w hSw; (try dsimp only at hSw); simp only [List.getElem_toArray, List.getElem_cons_zero, List.getElem_cons_succ]; go_simp; first | done | with_reducible rfl)
   simp only [List.getElem_toArray, List.getElem_cons_zero, List.getElem_cons_succ, Act.put, List.setIfInBounds_toArray, List.set_cons_zero, List.set_cons_succ]
   refine wpAnyH_ready (rs := [9]) (by kernel_rfl) (by simp) ?_
   refine AllReadyH.cons rfl (fun K hK => ?_) (AllReadyH.nil)
   have hox := setOf ((HBE.out.block _ HPL.out.1).trans HX2.out) 2 (slO ga y.keys.length ca)
   have hc13 := cellOf hox 3 (v := v2) rfl
   have hf13 := frozenOf hox 3
   unfold slO at hc13 hf13
   simp only [List.getElem_toArray, List.getElem_cons_zero, List.getElem_cons_succ]
   go_simp
   refine hK.out _ _ ?_ (fun hHeld => ?_)
   ·exact HSS.out _ (((Mods.of_below HBE.out).setCell (p := ⟨w.heap.size, 2, none⟩) (List.mem_singleton.2 rfl) _).setCell (p := ⟨w.heap.size, 3, none⟩) (List.mem_singleton.2 rfl) _)
   clear hK K
   try simp only [Act.put, List.setIfInBounds_toArray, List.set_cons_zero, List.set_cons_succ]
   clear hc13 hf13 hox
   refine wpAnyH_done (by kernel_rfl) ?_ _
   have HEND := Lib.hid hHeld.2
   have HSE := Lib.hid hHeld.1
   clear hHeld
   clear HSS HSE HEND
   have HOX : Hid (w5.heap[w.heap.size]? = some (.cells #[.int .i64 y.k, .int .u64 (y.b : Int), v1, v2] 159 (0, 0))) := Lib.hid ((HBE.out.block _ HPL.out.1).trans HX2.out)
   have HOZ : Hid (w5.heap[q]? = some (.cells #[.int .i64 0, .int .u64 0, .slice none 0 0, .slice none 0 0] 159 (0, 0))) := Lib.hid ((HBE.out.block _ HPL.out.2.1).trans HZ2.out)
   have h2 := setOf HOX.out 2 (slO ga y.keys.length ca)
   have h3 := setOf h2 3 (slO gb y.vals.length cb)
   have HND : Hid (NdAt w5 w.heap.size ⟨y.k, y.b, ga, y.keys.length, ca, gb, y.vals.length, cb⟩ y) := Lib.hid ⟨rfl, rfl, rfl, rfl, ownsRow_below (ownsRow_base HO2.out HLO2.out) HC5.out, ownsRow_base HO5.out HLO5.out, fun j hj hj2 => by
    have h1 := ownsRow_lt HO2.out j hj2
    have h9 := ownsRow_ge HO5.out j hj
    omega⟩
   obtain ⟨w6, hw6⟩ : ∃ W, (w5.setCell ⟨w.heap.size, 2, none⟩ (.slice (ga.map fun g => ⟨g, 0, none⟩) y.keys.length ca)).setCell ⟨w.heap.size, 3, none⟩ (.slice (gb.map fun g => ⟨g, 0, none⟩) y.vals.length cb) = W := ⟨_, rfl⟩
   have h4 : ((w5.setCell ⟨w.heap.size, 2, none⟩ (.slice (ga.map fun g => ⟨g, 0, none⟩) y.keys.length ca)).setCell ⟨w.heap.size, 3, none⟩ (.slice (gb.map fun g => ⟨g, 0, none⟩) y.vals.length cb)).heap[w.heap.size]? = some (.cells (ndL ⟨y.k, y.b, ga, y.keys.length, ca, gb, y.vals.length, cb⟩).toArray 159 (0, 0)) := h3
   rw [hw6] at h4
   have HX6 : Hid (w6.heap[w.heap.size]? = some (.cells (ndL ⟨y.k, y.b, ga, y.keys.length, ca, gb, y.vals.length, cb⟩).toArray 159 (0, 0))) := Lib.hid h4
   have HM6 : Hid (Mods [w.heap.size] w5 w6) := Lib.hid (by rw [← hw6]; exact ((Mods.refl _ _).setCell (p := ⟨w.heap.size, 2, none⟩) (List.mem_singleton.2 rfl) _).setCell (p := ⟨w.heap.size, 3, none⟩) (List.mem_singleton.2 rfl) _)
   have HZ6 : Hid (w6.heap[q]? = some (.cells #[.int .i64 0, .int .u64 0, .slice none 0 0, .slice none 0 0] 159 (0, 0))) := Lib.hid ((HM6.out.block _ (Array.getElem?_eq_some_iff.1 HOZ.out).1 (by have := HPL.out.2.2; simp; omega)).trans HOZ.out)
   have HN6 : Hid (NdAt w6 w.heap.size ⟨y.k, y.b, ga, y.keys.length, ca, gb, y.vals.length, cb⟩ y) := Lib.hid ⟨rfl, rfl, rfl, rfl, ownsRow_at HND.out.r1 (fun k hk => HM6.out.block k (ownsRow_lt HND.out.r1 k hk) (fun hh => ob_tag HND.out.r1 HOX.out (by decide) (by rw [← List.mem_singleton.1 hh]; exact hk))), ownsRow_at HND.out.r2 (fun k hk => HM6.out.block k (ownsRow_lt HND.out.r2 k hk) (fun hh => ob_tag HND.out.r2 HOX.out (by decide) (by rw [← List.mem_singleton.1 hh]; exact hk))), HND.out.dj⟩
   have HB6 : Hid (Below w.heap.size w w6) := Lib.hid ((bthn HB2.out HBE.out).trans (HM6.out.below (fun k hk => by rw [List.mem_singleton.1 hk]; exact Nat.le_refl _) (bthn HB2.out HBE.out).size))
   obtain ⟨xv, hxv⟩ : ∃ x : NdV, (⟨y.k, y.b, ga, y.keys.length, ca, gb, y.vals.length, cb⟩ : NdV) = x := ⟨_, rfl⟩
   rw [hxv] at HX6 HN6
   obtain ⟨NL, hNL⟩ : ∃ L, ndL xv = L := ⟨_, rfl⟩
   have HN1 : Hid (NL.toArray.all (·.oneCell') = true) := Lib.hid (by rw [← hNL]; exact Array.all_eq_true_iff_forall_mem.2 (fun v hv => ndL_one xv v (by simpa using hv)))
   have HNI : Hid ((Tryz.prog.info? 159).map (·.size) = some NL.length) := Lib.hid (by rw [← hNL]; exact infoNd)
   have HNS : Hid ((Tryz.prog.info? 159).map (·.size) = some NL.toArray.size) := Lib.hid (by rw [← hNL]; exact infoNd)
   rw [hNL] at HX6
   have HNE := Lib.hid hNL
   have hth : w6.there q 0 NL.toArray.size := by rw [← hNL]; exact thereOf HZ6.out (by simp [ndL])
   have HTH := Lib.hid hth
   clear h2 h3 h4 hxv hNL hth
   go_upto_region 2 with fail
   (try rw [hw6])
   clear hw6
   apply wp_region_lit
   repeat (first
    | (refine wpList_load_mid rfl 159 _ rfl w.heap.size 0 rfl NL _ (rangeOf HX6.out) Tryz.underlying159 rfl HNI.out ?_)
    | (refine wpList_store_mid rfl 159 _ _ rfl q 0 NL.toArray rfl rfl HTH.out HNS.out HN1.out ?_)
    | go_step)
   refine bodyPost_ret (v := .agg NL.toArray) (res_one_nd rfl _ _ q NL rfl (World.rangeAt_setCells_same _ _ _ _ (by have h := HTH.out; simpa using h)) HNI.out) rfl ⟨xv, by rw [← HNE.out]; rfl, ?_, ?_⟩
   ·have hms : Mods [q] w6 (w6.setCells q 0 NL) := mods_sets (List.mem_singleton.2 rfl) _ _ (Mods.refl _ _)
    exact ⟨HN6.out.k, HN6.out.b, HN6.out.n1, HN6.out.n2, ownsRow_at HN6.out.r1 (fun k hk => hms.block k (ownsRow_lt HN6.out.r1 k hk) (fun hh => ob_tag HN6.out.r1 HZ6.out (by decide) (by rw [← List.mem_singleton.1 hh]; exact hk))), ownsRow_at HN6.out.r2 (fun k hk => hms.block k (ownsRow_lt HN6.out.r2 k hk) (fun hh => ob_tag HN6.out.r2 HZ6.out (by decide) (by rw [← List.mem_singleton.1 hh]; exact hk))), HN6.out.dj⟩
   ·exact belowSets HQG.out _ _ _ HB6.out
 ·skip
  have hrd := cellOf ((HBE.out.block _ HPL.out.1).trans HX2.out) 3 (v := v2) rfl
  simp only [List.getElem_toArray, List.getElem_cons_zero, List.getElem_cons_succ]
  go_simp
  clear hrd
  refine hK.out _ _ ?_ (fun hHeld => ?_)
  ·exact (by first | exact HSS.out _ (Mods.of_below HBE.out) | exact HSS.out _ HMD.out)
  clear hK K
  try simp only [Act.put, List.setIfInBounds_toArray, List.set_cons_zero, List.set_cons_succ]
  refine wpAnyH_ready (rs := [1]) (by kernel_rfl) (by simp) ?_
  refine AllReadyH.cons rfl (fun K hK => ?_) (AllReadyH.nil)
  have hrd := cellOf ((HBE.out.block _ HPL.out.1).trans HX2.out) 2 (v := v1) rfl
  simp only [List.getElem_toArray, List.getElem_cons_zero, List.getElem_cons_succ]
  go_simp
  clear hrd
  refine hK.out _ _ ?_ (fun hHeld => ?_)
  ·exact (by first | exact HSS.out _ (Mods.of_below HBE.out) | exact HSS.out _ HMD.out)
  clear hK K
  try simp only [Act.put, List.setIfInBounds_toArray, List.set_cons_zero, List.set_cons_succ]
  refine wpAnyH_ready (rs := [2]) (by kernel_rfl) (by simp) ?_
  refine AllReadyH.cons rfl (fun K hK => ?_) (AllReadyH.nil)
  simp only [List.getElem_toArray, List.getElem_cons_zero, List.getElem_cons_succ]
  go_simp
  refine (CL1.out _ HBE.out).mono ?_
  rintro e w3 ⟨va, rfl, ho2, hb2⟩
  dsimp only
  have HBE := Lib.hid (bthen HBE.out hb2)
  have hSp := HSS.out _ (Mods.of_below HBE.out)
  clear hHeld
  refine hK.out _ _ hSp (fun hHeld => ?_)
  clear hSp hK K
  try simp only [Act.put, List.setIfInBounds_toArray, List.set_cons_zero, List.set_cons_succ]
  obtain ⟨ga, ca, rfl⟩ := row_slO ho2
  have HO2 := Lib.hid ho2
  have HLO2 : Hid (w.heap.size ≤ wd.heap.size) := Lib.hid (Nat.le_trans HB2.out.size HS0.out)
  clear ho2
  have HC2 := Lib.hid hb2
  clear hb2
  refine wpAnyH_take (i := 6) (v := ?_) rfl (by kernel_rfl) (by kernel_rfl) (by kernel_rfl) (fun _ _ _ h => h) (Or.inl ⟨by rfl, ?_⟩) (by assumption) ?_
  rotate_left
  ·(intro w hSw; (try dsimp only at hSw); simp only [List.getElem_toArray, List.getElem_cons_zero, List.getElem_cons_succ]; go_simp; first | done | with_reducible rfl)
  simp only [List.getElem_toArray, List.getElem_cons_zero, List.getElem_cons_succ, Act.put, List.setIfInBounds_toArray, List.set_cons_zero, List.set_cons_succ]
  refine wpAnyH_ready (rs := [5]) (by kernel_rfl) (by simp) ?_
  refine AllReadyH.cons rfl (fun K hK => ?_) (AllReadyH.nil)
  simp only [List.getElem_toArray, List.getElem_cons_zero, List.getElem_cons_succ]
  go_simp
  refine (CL2.out _ HBE.out).mono ?_
  rintro e w5 ⟨vb, rfl, ho5, hb5⟩
  dsimp only
  have HBE := Lib.hid (bthen HBE.out hb5)
  have hSp := HSS.out _ (Mods.of_below HBE.out)
  clear hHeld
  refine hK.out _ _ hSp (fun hHeld => ?_)
  clear hSp hK K
  try simp only [Act.put, List.setIfInBounds_toArray, List.set_cons_zero, List.set_cons_succ]
  obtain ⟨gb, cb, rfl⟩ := row_slO ho5
  have HO5 := Lib.hid ho5
  have HLO5 : Hid (w.heap.size ≤ w3.heap.size) := Lib.hid (Nat.le_trans HLO2.out HC2.out.size)
  clear ho5
  have HC5 := Lib.hid hb5
  clear hb5
  refine wpAnyH_ready (rs := [7]) (by kernel_rfl) (by simp) ?_
  refine AllReadyH.cons rfl (fun K hK => ?_) (AllReadyH.nil)
  have hox := (HBE.out.block _ HPL.out.1).trans HX2.out
  have hc11 := cellOf hox 2 (v := v1) rfl
  have hf11 := frozenOf hox 2
  unfold slO
  simp only [List.getElem_toArray, List.getElem_cons_zero, List.getElem_cons_succ]
  go_simp
  refine hK.out _ _ ?_ (fun hHeld => ?_)
  ·exact HSS.out _ ((Mods.of_below HBE.out).setCell (p := ⟨w.heap.size, 2, none⟩) (List.mem_singleton.2 rfl) _)
  clear hK K
  try simp only [Act.put, List.setIfInBounds_toArray, List.set_cons_zero, List.set_cons_succ]
  clear hc11 hf11 hox
  refine wpAnyH_take (i := 8) (v := ?_) rfl (by kernel_rfl) (by kernel_rfl) (by kernel_rfl) (fun _ _ _ h => h) (Or.inl ⟨by rfl, ?_⟩) (by assumption) ?_
  rotate_left
  ·(intro w hSw; (try dsimp only at hSw); simp only [List.getElem_toArray, List.getElem_cons_zero, List.getElem_cons_succ]; go_simp; first | done | with_reducible rfl)
  simp only [List.getElem_toArray, List.getElem_cons_zero, List.getElem_cons_succ, Act.put, List.setIfInBounds_toArray, List.set_cons_zero, List.set_cons_succ]
  refine wpAnyH_ready (rs := [9]) (by kernel_rfl) (by simp) ?_
  refine AllReadyH.cons rfl (fun K hK => ?_) (AllReadyH.nil)
  have hox := setOf ((HBE.out.block _ HPL.out.1).trans HX2.out) 2 (slO ga y.keys.length ca)
  have hc13 := cellOf hox 3 (v := v2) rfl
  have hf13 := frozenOf hox 3
  unfold slO at hc13 hf13
  simp only [List.getElem_toArray, List.getElem_cons_zero, List.getElem_cons_succ]
  go_simp
  refine hK.out _ _ ?_ (fun hHeld => ?_)
  ·exact HSS.out _ (((Mods.of_below HBE.out).setCell (p := ⟨w.heap.size, 2, none⟩) (List.mem_singleton.2 rfl) _).setCell (p := ⟨w.heap.size, 3, none⟩) (List.mem_singleton.2 rfl) _)
  clear hK K
  try simp only [Act.put, List.setIfInBounds_toArray, List.set_cons_zero, List.set_cons_succ]
  clear hc13 hf13 hox
  refine wpAnyH_done (by kernel_rfl) ?_ _
  have HEND := Lib.hid hHeld.2
  have HSE := Lib.hid hHeld.1
  clear hHeld
  clear HSS HSE HEND
  have HOX : Hid (w5.heap[w.heap.size]? = some (.cells #[.int .i64 y.k, .int .u64 (y.b : Int), v1, v2] 159 (0, 0))) := Lib.hid ((HBE.out.block _ HPL.out.1).trans HX2.out)
  have HOZ : Hid (w5.heap[q]? = some (.cells #[.int .i64 0, .int .u64 0, .slice none 0 0, .slice none 0 0] 159 (0, 0))) := Lib.hid ((HBE.out.block _ HPL.out.2.1).trans HZ2.out)
  have h2 := setOf HOX.out 2 (slO ga y.keys.length ca)
  have h3 := setOf h2 3 (slO gb y.vals.length cb)
  have HND : Hid (NdAt w5 w.heap.size ⟨y.k, y.b, ga, y.keys.length, ca, gb, y.vals.length, cb⟩ y) := Lib.hid ⟨rfl, rfl, rfl, rfl, ownsRow_below (ownsRow_base HO2.out HLO2.out) HC5.out, ownsRow_base HO5.out HLO5.out, fun j hj hj2 => by
   have h1 := ownsRow_lt HO2.out j hj2
   have h9 := ownsRow_ge HO5.out j hj
   omega⟩
  obtain ⟨w6, hw6⟩ : ∃ W, (w5.setCell ⟨w.heap.size, 2, none⟩ (.slice (ga.map fun g => ⟨g, 0, none⟩) y.keys.length ca)).setCell ⟨w.heap.size, 3, none⟩ (.slice (gb.map fun g => ⟨g, 0, none⟩) y.vals.length cb) = W := ⟨_, rfl⟩
  have h4 : ((w5.setCell ⟨w.heap.size, 2, none⟩ (.slice (ga.map fun g => ⟨g, 0, none⟩) y.keys.length ca)).setCell ⟨w.heap.size, 3, none⟩ (.slice (gb.map fun g => ⟨g, 0, none⟩) y.vals.length cb)).heap[w.heap.size]? = some (.cells (ndL ⟨y.k, y.b, ga, y.keys.length, ca, gb, y.vals.length, cb⟩).toArray 159 (0, 0)) := h3
  rw [hw6] at h4
  have HX6 : Hid (w6.heap[w.heap.size]? = some (.cells (ndL ⟨y.k, y.b, ga, y.keys.length, ca, gb, y.vals.length, cb⟩).toArray 159 (0, 0))) := Lib.hid h4
  have HM6 : Hid (Mods [w.heap.size] w5 w6) := Lib.hid (by rw [← hw6]; exact ((Mods.refl _ _).setCell (p := ⟨w.heap.size, 2, none⟩) (List.mem_singleton.2 rfl) _).setCell (p := ⟨w.heap.size, 3, none⟩) (List.mem_singleton.2 rfl) _)
  have HZ6 : Hid (w6.heap[q]? = some (.cells #[.int .i64 0, .int .u64 0, .slice none 0 0, .slice none 0 0] 159 (0, 0))) := Lib.hid ((HM6.out.block _ (Array.getElem?_eq_some_iff.1 HOZ.out).1 (by have := HPL.out.2.2; simp; omega)).trans HOZ.out)
  have HN6 : Hid (NdAt w6 w.heap.size ⟨y.k, y.b, ga, y.keys.length, ca, gb, y.vals.length, cb⟩ y) := Lib.hid ⟨rfl, rfl, rfl, rfl, ownsRow_at HND.out.r1 (fun k hk => HM6.out.block k (ownsRow_lt HND.out.r1 k hk) (fun hh => ob_tag HND.out.r1 HOX.out (by decide) (by rw [← List.mem_singleton.1 hh]; exact hk))), ownsRow_at HND.out.r2 (fun k hk => HM6.out.block k (ownsRow_lt HND.out.r2 k hk) (fun hh => ob_tag HND.out.r2 HOX.out (by decide) (by rw [← List.mem_singleton.1 hh]; exact hk))), HND.out.dj⟩
  have HB6 : Hid (Below w.heap.size w w6) := Lib.hid ((bthn HB2.out HBE.out).trans (HM6.out.below (fun k hk => by rw [List.mem_singleton.1 hk]; exact Nat.le_refl _) (bthn HB2.out HBE.out).size))
  obtain ⟨xv, hxv⟩ : ∃ x : NdV, (⟨y.k, y.b, ga, y.keys.length, ca, gb, y.vals.length, cb⟩ : NdV) = x := ⟨_, rfl⟩
  rw [hxv] at HX6 HN6
  obtain ⟨NL, hNL⟩ : ∃ L, ndL xv = L := ⟨_, rfl⟩
  have HN1 : Hid (NL.toArray.all (·.oneCell') = true) := Lib.hid (by rw [← hNL]; exact Array.all_eq_true_iff_forall_mem.2 (fun v hv => ndL_one xv v (by simpa using hv)))
  have HNI : Hid ((Tryz.prog.info? 159).map (·.size) = some NL.length) := Lib.hid (by rw [← hNL]; exact infoNd)
  have HNS : Hid ((Tryz.prog.info? 159).map (·.size) = some NL.toArray.size) := Lib.hid (by rw [← hNL]; exact infoNd)
  rw [hNL] at HX6
  have HNE := Lib.hid hNL
  have hth : w6.there q 0 NL.toArray.size := by rw [← hNL]; exact thereOf HZ6.out (by simp [ndL])
  have HTH := Lib.hid hth
  clear h2 h3 h4 hxv hNL hth
  go_upto_region 2 with fail
  (try rw [hw6])
  clear hw6
  apply wp_region_lit
  repeat (first
   | (refine wpList_load_mid rfl 159 _ rfl w.heap.size 0 rfl NL _ (rangeOf HX6.out) Tryz.underlying159 rfl HNI.out ?_)
   | (refine wpList_store_mid rfl 159 _ _ rfl q 0 NL.toArray rfl rfl HTH.out HNS.out HN1.out ?_)
   | go_step)
  refine bodyPost_ret (v := .agg NL.toArray) (res_one_nd rfl _ _ q NL rfl (World.rangeAt_setCells_same _ _ _ _ (by have h := HTH.out; simpa using h)) HNI.out) rfl ⟨xv, by rw [← HNE.out]; rfl, ?_, ?_⟩
  ·have hms : Mods [q] w6 (w6.setCells q 0 NL) := mods_sets (List.mem_singleton.2 rfl) _ _ (Mods.refl _ _)
   exact ⟨HN6.out.k, HN6.out.b, HN6.out.n1, HN6.out.n2, ownsRow_at HN6.out.r1 (fun k hk => hms.block k (ownsRow_lt HN6.out.r1 k hk) (fun hh => ob_tag HN6.out.r1 HZ6.out (by decide) (by rw [← List.mem_singleton.1 hh]; exact hk))), ownsRow_at HN6.out.r2 (fun k hk => hms.block k (ownsRow_lt HN6.out.r2 k hk) (fun hh => ob_tag HN6.out.r2 HZ6.out (by decide) (by rw [← List.mem_singleton.1 hh]; exact hk))), HN6.out.dj⟩
  ·exact belowSets HQG.out _ _ _ HB6.out
end Go.Proofs.YtgmahhdnjikdjaaGreat
