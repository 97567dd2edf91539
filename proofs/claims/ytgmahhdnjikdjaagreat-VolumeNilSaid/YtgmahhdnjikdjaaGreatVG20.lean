import Derived.Test.YtgmahhdnjikdjaaGreatVG19
set_option linter.unusedVariables false
set_option linter.unusedSimpArgs false
/- store.New, walked. -/
namespace Go.Proofs.YtgmahhdnjikdjaaGreat
open Go.RowKit Go.Maps Wire
set_option linter.unusedVariables false
set_option linter.unusedSimpArgs false
theorem alM_ok {A : M} {i : Nat} (ok : A.Ok) (h : i < A.now.length) : (allocM A i).Ok := by
 refine ⟨by simpa [allocM] using ok.pos, by simpa [allocM] using ok.max, by simpa [allocM] using ok.len, ?_, by simpa [allocM] using ok.kept, ?_, ok.was⟩
 ·simp only [allocM, List.length_set]; exact Nat.mod_lt _ ok.pos
 ·intro k hk
  rcases List.mem_or_eq_of_mem_set hk with h | rfl
  ·exact ok.now k h
  ·decide
theorem find_lt {A : M} (hpos : 0 < A.now.length) : ∀ f k i, findF A f k = some i → i < A.now.length
 | 0, _, _, h => by simp [findF] at h
 | f + 1, k, i, h => by
  simp only [findF] at h
  split at h
  ·obtain rfl := Option.some.inj h
   exact nth_lt hpos k
  ·exact find_lt hpos f (k + 1) i h
section
variable {w w' : World} {S B pm pd mf md : Nat} {s : Su} {A A' D D' : M} {Fm Fd : List Nat} {l : List (Nat × (NdV × Nd))}
theorem StF.S_ne (h : StF w S B pm pd mf md s A D Fm Fd l) : S ≠ mf ∧ S ≠ md ∧ S ∉ Fm ∧ S ∉ Fd := by
 have := h.nS
 simp only [List.mem_cons, List.mem_append, not_or] at this
 exact ⟨this.1, this.2.1, this.2.2.1, this.2.2.2⟩
theorem StF.mf_ne (h : StF w S B pm pd mf md s A D Fm Fd l) : mf ≠ md ∧ mf ∉ Fm ∧ mf ∉ Fd := by
 have := h.nm
 simp only [List.mem_cons, List.mem_append, not_or] at this
 exact ⟨this.1, this.2.1, this.2.2⟩
/-- The meta area changed. -/
theorem StF.area (h : StF w S B pm pd mf md s A D Fm Fd l) (hm : Mods Fm w w') (ha : IA w' pm A' Fm) (ok : A'.Ok) (hl : A'.now.length = A.now.length) : StF w' S B pm pd mf md s A' D Fm Fd l :=
 ⟨⟨(hm.block _ (Array.getElem?_eq_some_iff.1 h.st.box).1 h.S_ne.2.2.1).trans h.st.box, ha, h.st.da.same (fun j hj => hm.block j (h.st.da.lt j hj) (h.dj j hj)), ok, h.st.dok, by rw [hl]; exact h.st.ml, h.st.dl, h.st.wf⟩, h.map.mods hm h.mf_ne.2.1, fun p hp => (h.nd p hp).at_ (fun j hj => hm.block j ((h.nd p hp).lt j hj) (fun hh => h.sep p hp j hj (by simp [stF, hh]))), h.sep, Nat.lt_of_lt_of_le h.mdl hm.size, h.nS, h.nm, h.dj⟩
/-- Its map of fresh nodes changed. -/
theorem StF.fresh {l' : List (Nat × (NdV × Nd))} (h : StF w S B pm pd mf md s A D Fm Fd l) (hm : Mods [mf] w w') (hl : MapL w' Tryz.prog 22 RNd .u32 (fun p : NdV × Nd => ndD p.1) mf l') (hn : ∀ p ∈ l', (NdAt w 0 p.2.1 p.2.2 ∧ ∀ j ∈ obN p.2.1, j ∉ stF S mf md Fm Fd)) : StF w' S B pm pd mf md s A D Fm Fd l' :=
 ⟨⟨(hm.block _ (Array.getElem?_eq_some_iff.1 h.st.box).1 (fun hh => h.S_ne.1 (List.mem_singleton.1 hh))).trans h.st.box, h.st.ma.same (fun j hj => hm.block j (h.st.ma.lt j hj) (fun hh => h.mf_ne.2.1 (by rw [← List.mem_singleton.1 hh]; exact hj))), h.st.da.same (fun j hj => hm.block j (h.st.da.lt j hj) (fun hh => h.mf_ne.2.2 (by rw [← List.mem_singleton.1 hh]; exact hj))), h.st.mok, h.st.dok, h.st.ml, h.st.dl, h.st.wf⟩, hl, fun p hp => (hn p hp).1.at_ (fun j hj => hm.block j ((hn p hp).1.lt j hj) (fun hh => (hn p hp).2 j hj (by simp [stF, List.mem_singleton.1 hh]))), fun p hp => (hn p hp).2, Nat.lt_of_lt_of_le h.mdl hm.size, h.nS, h.nm, h.dj⟩
end
section
variable {w w' : World} {S B pm pd mf md : Nat} {s : Su} {A D : M} {Fm Fd : List Nat} {l : List (Nat × (NdV × Nd))}
/-- Other blocks changed. -/
theorem StF.other {F : List Nat} (h : StF w S B pm pd mf md s A D Fm Fd l) (hm : Mods F w w') (h1 : ∀ k ∈ stF S mf md Fm Fd, k ∉ F) (h2 : ∀ p ∈ l, ∀ j ∈ obN p.2.1, j ∉ F) : StF w' S B pm pd mf md s A D Fm Fd l :=
 ⟨⟨(hm.block _ (Array.getElem?_eq_some_iff.1 h.st.box).1 (h1 S (by simp [stF]))).trans h.st.box, h.st.ma.same (fun j hj => hm.block j (h.st.ma.lt j hj) (h1 j (by simp [stF, hj]))), h.st.da.same (fun j hj => hm.block j (h.st.da.lt j hj) (h1 j (by simp [stF, hj]))), h.st.mok, h.st.dok, h.st.ml, h.st.dl, h.st.wf⟩, h.map.mods hm (h1 mf (by simp [stF])), fun p hp => (h.nd p hp).at_ (fun j hj => hm.block j ((h.nd p hp).lt j hj) (h2 p hp j hj)), h.sep, Nat.lt_of_lt_of_le h.mdl hm.size, h.nS, h.nm, h.dj⟩
end
/-- What New leaves. -/
def NewP (w : World) (S B pm pd mf md : Nat) (s : Su) (A D : M) (Fm Fd : List Nat) (l : List (Nat × (NdV × Nd))) (y : Nd) (i : Nat) (e : Ending) (w' : World) : Prop := ∃ x, e = .returned (.tuple #[.int .u32 (i : Int), .int .i64 0]) ∧ StF w' S B pm pd mf md s (allocM A i) D Fm Fd (putA i (x, { y with b := s.tx + 1 }) l) ∧ Mods (mf :: Fm) w w' ∧ ∀ j ∈ obN x, w.heap.size ≤ j
set_option maxRecDepth 100000 in
set_option maxHeartbeats 6400000 in
theorem snew_in {w : World} {S B pm pd mf md : Nat} {s : Su} {A D : M} {Fm Fd : List Nat} {l : List (Nat × (NdV × Nd))} (h : StF w S B pm pd mf md s A D Fm Fd l) (y : Nd) (v1 v2 : Value) (hy : y.Ok) (h1 : ∀ X, Mods Fm w X → Rd X 1 v1 y.keys.length (qV y.keys)) (h2 : ∀ X, Mods Fm w X → Rd X 1 v2 y.vals.length (qV y.vals)) (i : Nat) (hf : find A 0 = some i) (htx : s.tx + 1 < 18446744073709551616) (hlen : l.length ≤ 10000) :
  Calls Tryz.prog 77 #[.pointer (some ⟨S, 0, none⟩), .agg #[.int .i64 y.k, .int .u64 (y.b : Int), v1, v2]] w (NewP w S B pm pd mf md s A D Fm Fd l y i) := by
 have hm9 := h.st.mok.max
 have hi9 : i < A.now.length := find_lt h.st.mok.pos _ _ _ hf
 obtain ⟨a1, c1, rfl, _⟩ := h1 w (Mods.refl _ _)
 obtain ⟨a2, c2, rfl, _⟩ := h2 w (Mods.refl _ _)
 obtain ⟨n1, hn1⟩ : ∃ n, y.keys.length = n := ⟨_, rfl⟩
 obtain ⟨n2, hn2⟩ : ∃ n, y.vals.length = n := ⟨_, rfl⟩
 obtain ⟨w1, hw1⟩ : ∃ W, w.alloc (.cells #[.int .i64 y.k, .int .u64 (y.b : Int), .slice a1 n1 c1, .slice a2 n2 c2] 159) = W := ⟨_, rfl⟩
 have hb1 : Below w.heap.size w w1 := by rw [← hw1]; exact balloc (Below.refl _ _) _
 have hx1 : w1.heap[w.heap.size]? = some (.cells #[.int .i64 y.k, .int .u64 (y.b : Int), .slice a1 n1 c1, .slice a2 n2 c2] 159 (0, 0)) := by rw [← hw1]; exact heap_alloc_new _ _
 have hs1 := h.below hb1
 have CR := sready_at hs1.st
 have r1 := h1 w1 (Mods.of_below hb1)
 have r2 := h2 w1 (Mods.of_below hb1)
 have CM := bmay_yes w1 y hy _ _ r1 r2
 rw [hn1] at CM
 rw [hn2] at CM
 have CA : Hid (∀ X, Below w1.heap.size w1 X → Calls Tryz.prog 95 #[.pointer (some ⟨pm, 0, none⟩)] X fun e w' => e = .returned (.tuple #[.int .i64 (i : Int), .int .i64 0]) ∧ IA w' pm (allocM A i) Fm ∧ Left Fm X w' Fm) := Lib.hid (fun X hX => (alloc_any (hs1.below hX).st.ma h.st.mok).mono fun e w' hp => by unfold AllocP at hp; rw [hf] at hp; exact hp)
 have CC : Hid (∀ X, Mods Fm w1 X → Calls Tryz.prog 122 #[.agg #[.int .i64 y.k, .int .u64 (y.b : Int), .slice a1 n1 c1, .slice a2 n2 c2]] X (CopyP X y)) := Lib.hid (fun X hX => by
  have q1 := h1 X ((Mods.of_below hb1).trans hX (fun k hk => .inl hk))
  have q2 := h2 X ((Mods.of_below hb1).trans hX (fun k hk => .inl hk))
  rw [hn1] at q1
  rw [hn2] at q2
  have C := bcopy_at X y (.slice a1 n1 c1) (.slice a2 n2 c2) (by rw [hn1]; exact q1) (by rw [hn2]; exact q2) (by have := hy.n; omega) (by have := hy.n; have := hy.m; omega)
  exact C)
 have c20 := cellOf hs1.st.box 20 (v := .pointer (some ⟨pm, 0, none⟩)) rfl
 have HB1 := Lib.hid hb1
 have H1 := Lib.hid hs1
 have HI9 := Lib.hid hi9
 have HMX : Hid (l.length < maxLen) := Lib.hid (Nat.lt_of_le_of_lt hlen (by decide))
 have HI32 : Hid (i < 4294967296) := Lib.hid (by omega)
 have HXN : Hid (∀ p ∈ l, ∀ j ∈ obN p.2.1, j ≠ w.heap.size) := Lib.hid (fun p hp j hj => Nat.ne_of_lt ((h.nd p hp).lt j hj))
 have HSN : Hid (∀ j ∈ stF S mf md Fm Fd, j ≠ w.heap.size) := Lib.hid (fun k hk => Nat.ne_of_lt (h.lt k hk))
 have HNM : Hid (∀ k ∈ Fm, k ≠ w.heap.size) := Lib.hid (fun k hk => Nat.ne_of_lt (h.st.ma.lt k hk))
 have HY := Lib.hid hy
 clear h h1 h2 hy hs1 r1 r2 hb1
 obtain ⟨kk, hkk⟩ : ∃ z, y.k = z := ⟨_, rfl⟩
 obtain ⟨bb, hbb⟩ : ∃ z, y.b = z := ⟨_, rfl⟩
 rw [hkk, hbb] at hx1 CM CC hw1 ⊢
 rw [hn1, hn2]
 have HX1 := Lib.hid hx1
 have d0 := cellOf hx1 0 (v := .int .i64 kk) rfl
 have d1 := cellOf hx1 1 (v := .int .u64 (bb : Int)) rfl
 have d2 := cellOf hx1 2 (v := .slice a1 n1 c1) rfl
 have d3 := cellOf hx1 3 (v := .slice a2 n2 c2) rfl
 clear hx1 hn1 hn2 hkk hbb hf hlen hi9
 go_enter Tryz.func77, Tryz.ntmps77
 go_wp2_with fail
 (try rw [hw1])
 refine CR.mono ?_
 rintro e w2 ⟨rfl, rfl⟩
 clear CR
 go_wp2_with fail
 refine CM.mono ?_
 rintro e w2 ⟨rfl, hb2⟩
 have HB2 := Lib.hid hb2
 have CA2 := CA.out w2 hb2
 have c20 := cellOf (H1.out.below hb2).st.box 20 (v := .pointer (some ⟨pm, 0, none⟩)) rfl
 clear CM hb2 d0 d1 d2 d3 CA
 go_wp2_with fail
 refine CA2.mono ?_
 rintro e w3 ⟨rfl, hia, hlf⟩
 have HIA := Lib.hid hia
 have HM3 : Hid (Mods Fm w1 w3) := Lib.hid ((Mods.of_below HB2.out).trans hlf.1 (fun k hk => .inl hk))
 have HX3 := Lib.hid ((HM3.out.block _ (Array.getElem?_eq_some_iff.1 HX1.out).1 (fun hh => HNM.out _ hh rfl)).trans HX1.out)
 have d0 := cellOf HX3.out 0 (v := .int .i64 kk) rfl
 have d1 := cellOf HX3.out 1 (v := .int .u64 (bb : Int)) rfl
 have d2 := cellOf HX3.out 2 (v := .slice a1 n1 c1) rfl
 have d3 := cellOf HX3.out 3 (v := .slice a2 n2 c2) rfl
 have CC3 := CC.out w3 HM3.out
 clear CA2 CC hia hlf c20
 go_wp2_with fail
 refine CC3.mono ?_
 rintro e w4 ⟨x, rfl, hnd, hb4⟩
 have HB4 := Lib.hid hb4
 have HN4 := Lib.hid hnd
 have HX4 := Lib.hid ((hb4.block _ (Array.getElem?_eq_some_iff.1 HX3.out).1).trans HX3.out)
 have HS4 : Hid (StF w4 S B pm pd mf md s (allocM A i) D Fm Fd l) := Lib.hid ((H1.out.area HM3.out HIA.out (alM_ok H1.out.st.mok HI9.out) (by simp [allocM])).below hb4)
 obtain ⟨NL, hNL⟩ : ∃ L, ndL x = L := ⟨_, rfl⟩
 have HN1 : Hid (NL.toArray.all (·.oneCell') = true) := Lib.hid (by rw [← hNL]; exact Array.all_eq_true_iff_forall_mem.2 (fun v hv => ndL_one x v (by simpa using hv)))
 have HNS : Hid ((Tryz.prog.info? 159).map (·.size) = some NL.toArray.size) := Lib.hid (by rw [← hNL]; exact infoNd)
 have HNE := Lib.hid hNL
 have hth : w4.there w.heap.size 0 NL.toArray.size := by rw [← hNL]; exact thereOf HX4.out (by simp [ndL])
 have HTH := Lib.hid hth
 have HSNE : Hid (∀ j ∈ stF S mf md Fm Fd, j ≠ w.heap.size) := Lib.hid HSN.out
 unfold ndA
 rw [hNL]
 clear hNL hth hnd hb4 CC3 d0 d1 d2 d3
 dsimp only
 repeat (first
  | (refine wpList_store_mid rfl 159 _ _ rfl w.heap.size 0 NL.toArray rfl rfl HTH.out HNS.out HN1.out ?_; refine Hid.out ?_)
  | go_step)
 refine Lib.hid ?_
 simp only [List.toList_toArray]
 obtain ⟨w5, hw5⟩ : ∃ W, w4.setCells w.heap.size 0 NL = W := ⟨_, rfl⟩
 rw [hw5]
 have hx5 : w5.heap[w.heap.size]? = some (.cells (ndL x).toArray 159 (0, 0)) := by
  rw [← hw5, HNE.out]
  exact sets_all (cs := [.int .i64 kk, .int .u64 (bb : Int), .slice a1 n1 c1, .slice a2 n2 c2]) HX4.out (by rw [← HNE.out]; rfl)
 have HM5 : Hid (Mods [w.heap.size] w4 w5) := Lib.hid (by rw [← hw5]; exact mods_sets (List.mem_singleton.2 rfl) _ _ (Mods.refl _ _))
 have HX5 := Lib.hid hx5
 have e1 := cellOf hx5 1 (v := .int .u64 (x.b : Int)) rfl
 have f1 := frozenOf hx5 1
 have HT5 : Hid (w5.heap[S]? = some (.cells (stC B s pm pd mf md false) 176 (0, 0))) := Lib.hid ((HM5.out.block _ (Array.getElem?_eq_some_iff.1 HS4.out.st.box).1 (fun hh => HSNE.out S (List.mem_cons_self ..) (List.mem_singleton.1 hh))).trans HS4.out.st.box)
 have ct := cellOf HT5.out 1 (v := .int .u64 (s.tx : Int)) rfl
 obtain ⟨tx, htxe⟩ : ∃ z, s.tx = z := ⟨_, rfl⟩
 rw [htxe] at ct htx
 have hwx : IntKind.u64.wrap ((tx : Int) + 1) = ((tx + 1 : Nat) : Int) := by rw [IntWalk.u64_in _ ⟨by omega, by omega⟩]; rfl
 have HTXE := Lib.hid htxe
 clear hx5 hw5 htxe
 go_wp2_with fail
 clear ct e1 f1
 obtain ⟨a3, ha3⟩ : ∃ a, x.g1.map (fun g => (⟨g, 0, none⟩ : Addr)) = a := ⟨_, rfl⟩
 obtain ⟨a4, ha4⟩ : ∃ a, x.g2.map (fun g => (⟨g, 0, none⟩ : Addr)) = a := ⟨_, rfl⟩
 obtain ⟨w6, hw6⟩ : ∃ W, w5.setCell ⟨w.heap.size, 1, none⟩ (.int .u64 ((tx : Int) + 1)) = W := ⟨_, rfl⟩
 rw [hw6]
 have hx6 : w6.heap[w.heap.size]? = some (.cells #[.int .i64 x.k, .int .u64 ((tx : Int) + 1), .slice a3 x.n1 x.c1, .slice a4 x.n2 x.c2] 159 (0, 0)) := by
  rw [← hw6, ← ha3, ← ha4]
  exact setOf HX5.out 1 _
 have hm6 : Mods [w.heap.size] w5 w6 := by rw [← hw6]; exact (Mods.refl _ _).setCell (p := ⟨w.heap.size, 1, none⟩) (List.mem_singleton.2 rfl) _
 have HM6 : Hid (Mods [w.heap.size] w4 w6) := Lib.hid (HM5.out.trans hm6 (fun k hk => .inl hk))
 have HV : Hid (ndA { x with b := tx + 1 } = .agg #[.int .i64 x.k, .int .u64 ((tx : Int) + 1), .slice a3 x.n1 x.c1, .slice a4 x.n2 x.c2]) := Lib.hid (by rw [← ha3, ← ha4]; rfl)
 have HX6 := Lib.hid hx6
 have HXL := Lib.hid (Array.getElem?_eq_some_iff.1 hx6).1
 have HT6 : Hid (w6.heap[S]? = some (.cells (stC B s pm pd mf md false) 176 (0, 0))) := Lib.hid ((hm6.block _ (Array.getElem?_eq_some_iff.1 HT5.out).1 (fun hh => HSNE.out S (List.mem_cons_self ..) (List.mem_singleton.1 hh))).trans HT5.out)
 have HTL := Lib.hid (Array.getElem?_eq_some_iff.1 HT6.out).1
 have HXF : Hid (w.heap.size ∉ [mf]) := Lib.hid (fun hh => HSNE.out mf (by simp [stF]) (List.mem_singleton.1 hh).symm)
 have HTF : Hid (S ∉ [mf]) := Lib.hid (fun hh => HS4.out.S_ne.1 (List.mem_singleton.1 hh))
 have HS6 : Hid (StF w6 S B pm pd mf md s (allocM A i) D Fm Fd l) := Lib.hid (HS4.out.other HM6.out (fun k hk hh => HSNE.out k hk (List.mem_singleton.1 hh)) (fun p hp j hj hh => by have := (H1.out.nd p hp); exact HXN.out p hp j hj (List.mem_singleton.1 hh)))
 have HN6 : Hid (NdAt w6 w3.heap.size x y) := Lib.hid (HN4.out.at_ (fun j hj => HM6.out.block j (HN4.out.lt j hj) (fun hh => by have := HN4.out.ge j hj; have := (Array.getElem?_eq_some_iff.1 HX3.out).1; have := List.mem_singleton.1 hh; omega)))
 have hwi : IntKind.u32.wrap (i : Int) = (i : Int) := IntWalk.u32_in _ ⟨by omega, by have := HI9.out; omega⟩
 clear ha3 ha4 hx6 hm6 hw6 hwx
 have HSS : Hid (∀ X, Mods [mf] w6 X → (X.cell? ⟨S, 22, none⟩ = some (.map (some mf)) ∧ X.cell? ⟨w.heap.size, 0, none⟩ = some (.int .i64 x.k) ∧ X.cell? ⟨w.heap.size, 1, none⟩ = some (.int .u64 ((tx : Int) + 1)) ∧ X.cell? ⟨w.heap.size, 2, none⟩ = some (.slice a3 x.n1 x.c1) ∧ X.cell? ⟨w.heap.size, 3, none⟩ = some (.slice a4 x.n2 x.c2)) ∧ Mods [mf] w6 X) := Lib.hid (fun X hb => ⟨⟨(World.cell?_of_block (hb.block _ (HTL.out) (HTF.out))).trans (cellOf HT6.out 22 rfl), (World.cell?_of_block (hb.block _ (HXL.out) (HXF.out))).trans (cellOf HX6.out 0 rfl), (World.cell?_of_block (hb.block _ (HXL.out) (HXF.out))).trans (cellOf HX6.out 1 rfl), (World.cell?_of_block (hb.block _ (HXL.out) (HXF.out))).trans (cellOf HX6.out 2 rfl), (World.cell?_of_block (hb.block _ (HXL.out) (HXF.out))).trans (cellOf HX6.out 3 rfl)⟩, hb⟩)
 refine wp_region_held_drew (S := fun X => (X.cell? ⟨S, 22, none⟩ = some (.map (some mf)) ∧ X.cell? ⟨w.heap.size, 0, none⟩ = some (.int .i64 x.k) ∧ X.cell? ⟨w.heap.size, 1, none⟩ = some (.int .u64 ((tx : Int) + 1)) ∧ X.cell? ⟨w.heap.size, 2, none⟩ = some (.slice a3 x.n1 x.c1) ∧ X.cell? ⟨w.heap.size, 3, none⟩ = some (.slice a4 x.n2 x.c2)) ∧ Mods [mf] w6 X) (by kernel_rfl) (HSS.out _ (Mods.of_below (Below.refl _ _).drew)) (fun hHeld => ?_)
 have hbe : Below w6.heap.size w6 w6.drew := (Below.refl _ _).drew
 obtain ⟨wd, hwd⟩ : ∃ y, w6.drew = y := ⟨_, rfl⟩
 rw [hwd] at hHeld hbe ⊢
 have HBE := Lib.hid hbe
 have HS0 : Hid (w6.heap.size ≤ wd.heap.size) := Lib.hid HBE.out.size
 clear hwd hbe
 refine wpAnyH_take (i := 0) (v := ?_) rfl (by kernel_rfl) (by kernel_rfl) (by kernel_rfl) (fun _ _ _ h => h) (Or.inl ⟨by rfl, ?_⟩) (by assumption) ?_
 rotate_left
 ·(intro w hSw; (try dsimp only at hSw); simp only [List.getElem_toArray, List.getElem_cons_zero, List.getElem_cons_succ]; go_simp; first | done | with_reducible rfl)
 simp only [List.getElem_toArray, List.getElem_cons_zero, List.getElem_cons_succ, Act.put, List.setIfInBounds_toArray, List.set_cons_zero, List.set_cons_succ]
 refine wpAnyH_take (i := 4) (v := ?_) rfl (by kernel_rfl) (by kernel_rfl) (by kernel_rfl) (fun _ _ _ h => h) (Or.inl ⟨by rfl, ?_⟩) (by assumption) ?_
 rotate_left
 ·(intro w hSw; (try dsimp only at hSw); simp only [List.getElem_toArray, List.getElem_cons_zero, List.getElem_cons_succ]; go_simp; first | done | with_reducible rfl)
 simp only [List.getElem_toArray, List.getElem_cons_zero, List.getElem_cons_succ, Act.put, List.setIfInBounds_toArray, List.set_cons_zero, List.set_cons_succ]
 refine wpAnyH_take (i := 6) (v := ?_) rfl (by kernel_rfl) (by kernel_rfl) (by kernel_rfl) (fun _ _ _ h => h) (Or.inl ⟨by rfl, ?_⟩) (by assumption) ?_
 rotate_left
 ·(intro w hSw; (try dsimp only at hSw); simp only [List.getElem_toArray, List.getElem_cons_zero, List.getElem_cons_succ]; go_simp; first | done | with_reducible rfl)
 simp only [List.getElem_toArray, List.getElem_cons_zero, List.getElem_cons_succ, Act.put, List.setIfInBounds_toArray, List.set_cons_zero, List.set_cons_succ]
 refine wpAnyH_take (i := 1) (v := ?_) rfl (by kernel_rfl) (by kernel_rfl) (by kernel_rfl) (fun _ _ _ h => h) (Or.inl ⟨by rfl, ?_⟩) (by assumption) ?_
 rotate_left
 ·(intro w hSw; (try dsimp only at hSw); simp only [List.getElem_toArray, List.getElem_cons_zero, List.getElem_cons_succ]; go_simp; first | done | with_reducible rfl)
 simp only [List.getElem_toArray, List.getElem_cons_zero, List.getElem_cons_succ, Act.put, List.setIfInBounds_toArray, List.set_cons_zero, List.set_cons_succ]
 refine wpAnyH_take (i := 5) (v := ?_) rfl (by kernel_rfl) (by kernel_rfl) (by kernel_rfl) (fun _ _ _ h => h) (Or.inl ⟨by rfl, ?_⟩) (by assumption) ?_
 rotate_left
 ·(intro w hSw; (try dsimp only at hSw); simp only [List.getElem_toArray, List.getElem_cons_zero, List.getElem_cons_succ]; go_simp; first | done | with_reducible rfl)
 simp only [List.getElem_toArray, List.getElem_cons_zero, List.getElem_cons_succ, Act.put, List.setIfInBounds_toArray, List.set_cons_zero, List.set_cons_succ]
 refine wpAnyH_take (i := 2) (v := ?_) rfl (by kernel_rfl) (by kernel_rfl) (by kernel_rfl) (fun _ _ _ h => h) (Or.inl ⟨by rfl, ?_⟩) (by assumption) ?_
 rotate_left
 ·(intro w hSw; (try dsimp only at hSw); simp only [List.getElem_toArray, List.getElem_cons_zero, List.getElem_cons_succ]; go_simp; first | done | with_reducible rfl)
 simp only [List.getElem_toArray, List.getElem_cons_zero, List.getElem_cons_succ, Act.put, List.setIfInBounds_toArray, List.set_cons_zero, List.set_cons_succ]
 refine wpAnyH_take (i := 3) (v := ?_) rfl (by kernel_rfl) (by kernel_rfl) (by kernel_rfl) (fun _ _ _ h => h) (Or.inl ⟨by rfl, ?_⟩) (by assumption) ?_
 rotate_left
 ·(intro w hSw; (try dsimp only at hSw); simp only [List.getElem_toArray, List.getElem_cons_zero, List.getElem_cons_succ]; go_simp; first | done | with_reducible rfl)
 simp only [List.getElem_toArray, List.getElem_cons_zero, List.getElem_cons_succ, Act.put, List.setIfInBounds_toArray, List.set_cons_zero, List.set_cons_succ]
 refine wpAnyH_ready (rs := [7]) (by kernel_rfl) (by simp) ?_
 refine AllReadyH.cons rfl (fun K hK => ?_) (AllReadyH.nil)
 obtain ⟨w7, hup, hml, hmod⟩ := (HS6.out.below HBE.out).map.put undU32 undFr HMX.out (n := i) (wf32 HI32.out) (a := (({ x with b := tx + 1 } : NdV), ({ y with b := tx + 1 } : Nd))) (v := .agg #[.int .i64 x.k, .int .u64 ((tx : Int) + 1), .slice a3 x.n1 x.c1, .slice a4 x.n2 x.c2]) (by rw [← HV.out]; exact RNd_mk _)
 simp only [List.getElem_toArray, List.getElem_cons_zero, List.getElem_cons_succ]
 go_simp
 refine hK.out _ _ ?_ (fun hHeld => ?_)
 ·exact HSS.out _ ((Mods.of_below HBE.out).trans hmod (fun i hi => .inl hi))
 clear hK K
 try simp only [Act.put, List.setIfInBounds_toArray, List.set_cons_zero, List.set_cons_succ]
 have HML := Lib.hid hml
 have HMO := Lib.hid hmod
 clear hml hmod hup
 refine wpAnyH_done (by kernel_rfl) ?_ _
 have HEND := Lib.hid hHeld.2
 have HSE := Lib.hid hHeld.1
 clear hHeld
 clear HSS HSE HEND
 go_wp2_with fail
 go_ret2
 have hz1 := HB1.out.size
 have hz3 := HM3.out.size
 have HX := HS6.out.below HBE.out
 have hsx : ∀ j ∈ obN x, w3.heap.size ≤ j := HN6.out.ge
 refine ⟨{ x with b := tx + 1 }, rfl, HX.fresh HMO.out (by rw [HTXE.out]; exact HML.out) (fun p hp => ?_), ?_, fun j hj => by have := hsx j hj; omega⟩
 ·rcases mem_putA hp with rfl | hp
  ·refine ⟨?_, fun j hj hj2 => ?_⟩
   ·have h6 := HN6.out.below HBE.out
    exact ⟨h6.k, by show tx + 1 = s.tx + 1; rw [HTXE.out], h6.n1, h6.n2, ownsRow_base h6.r1 (Nat.zero_le _), ownsRow_base h6.r2 (Nat.zero_le _), h6.dj⟩
   ·have h1 := hsx j hj
    have h2 := H1.out.lt j hj2
    omega
  ·exact ⟨HX.nd p hp, HX.sep p hp⟩
 ·exact (((((Mods.of_below HB1.out).trans HM3.out (fun k hk => .inl (List.mem_cons_of_mem _ hk))).thenBelow HB4.out).trans HM6.out (fun k hk => .inr (by rw [List.mem_singleton.1 hk]; exact Nat.le_refl _))).thenBelow HBE.out).trans HMO.out (fun k hk => .inl (by rw [List.mem_singleton.1 hk]; exact List.mem_cons_self ..))
end Go.Proofs.YtgmahhdnjikdjaaGreat
/- store.Put, walked. -/
namespace Go.Proofs.YtgmahhdnjikdjaaGreat
open Go.RowKit Go.Maps Wire
set_option linter.unusedVariables false
set_option linter.unusedSimpArgs false
/-- What Put leaves. -/
def PutP (w : World) (S B pm pd mf md : Nat) (s : Su) (A D : M) (Fm Fd : List Nat) (l : List (Nat × (NdV × Nd))) (y : Nd) (i b : Nat) (e : Ending) (w' : World) : Prop := ∃ x, e = .returned (.int .i64 0) ∧ StF w' S B pm pd mf md s A D Fm Fd (putA i (x, { y with b := b }) l) ∧ Mods [mf] w w' ∧ ∀ j ∈ obN x, w.heap.size ≤ j
set_option maxRecDepth 100000 in
set_option maxHeartbeats 6400000 in
theorem sput_in {w : World} {S B pm pd mf md : Nat} {s : Su} {A D : M} {Fm Fd : List Nat} {l : List (Nat × (NdV × Nd))} (h : StF w S B pm pd mf md s A D Fm Fd l) (y : Nd) (v1 v2 : Value) (hy : y.Ok) (h1 : Rd w 1 v1 y.keys.length (qV y.keys)) (h2 : Rd w 1 v2 y.vals.length (qV y.vals)) (i : Nat) (hi0 : i ≠ 0) (hi9 : i < A.now.length) (x0 : NdV) (y0 : Nd) (hg : getA i l = some (x0, y0)) (hlen : l.length ≤ 10000) :
  Calls Tryz.prog 129 #[.pointer (some ⟨S, 0, none⟩), .int .u32 (i : Int), .agg #[.int .i64 y.k, .int .u64 (y.b : Int), v1, v2]] w (PutP w S B pm pd mf md s A D Fm Fd l y i y0.b) := by
 have hm9 := h.st.mok.max
 obtain ⟨a1, c1, rfl, _⟩ := id h1
 obtain ⟨a2, c2, rfl, _⟩ := id h2
 obtain ⟨n1, hn1⟩ : ∃ n, y.keys.length = n := ⟨_, rfl⟩
 obtain ⟨n2, hn2⟩ : ∃ n, y.vals.length = n := ⟨_, rfl⟩
 obtain ⟨w1, hw1⟩ : ∃ W, w.alloc (.cells #[.int .i64 y.k, .int .u64 (y.b : Int), .slice a1 n1 c1, .slice a2 n2 c2] 159) = W := ⟨_, rfl⟩
 have hb1 : Below w.heap.size w w1 := by rw [← hw1]; exact balloc (Below.refl _ _) _
 have hx1 : w1.heap[w.heap.size]? = some (.cells #[.int .i64 y.k, .int .u64 (y.b : Int), .slice a1 n1 c1, .slice a2 n2 c2] 159 (0, 0)) := by rw [← hw1]; exact heap_alloc_new _ _
 have hs1 := h.below hb1
 have CR := sready_at hs1.st
 have r1 := h1.below hb1
 have r2 := h2.below hb1
 have CM := bmay_yes w1 y hy _ _ r1 r2
 rw [hn1] at CM
 rw [hn2] at CM
 have CC : Hid (∀ X, Below w1.heap.size w1 X → Calls Tryz.prog 122 #[.agg #[.int .i64 y.k, .int .u64 (y.b : Int), .slice a1 n1 c1, .slice a2 n2 c2]] X (CopyP X y)) := Lib.hid (fun X hX => by
  have q1 := r1.below hX
  have q2 := r2.below hX
  rw [hn1] at q1
  rw [hn2] at q2
  have C := bcopy_at X y (.slice a1 n1 c1) (.slice a2 n2 c2) (by rw [hn1]; exact q1) (by rw [hn2]; exact q2) (by have := hy.n; omega) (by have := hy.n; have := hy.m; omega)
  exact C)
 have HB1 := Lib.hid hb1
 have HH := Lib.hid h
 have H1 := Lib.hid hs1
 have HI9 := Lib.hid hi9
 have HG := Lib.hid hg
 have HMX : Hid (l.length < maxLen) := Lib.hid (Nat.lt_of_le_of_lt hlen (by decide))
 have HI32 : Hid (i < 4294967296) := Lib.hid (by omega)
 have HXN : Hid (∀ p ∈ l, ∀ j ∈ obN p.2.1, j ≠ w.heap.size) := Lib.hid (fun p hp j hj => Nat.ne_of_lt ((h.nd p hp).lt j hj))
 have HSNE : Hid (∀ j ∈ stF S mf md Fm Fd, j ≠ w.heap.size) := Lib.hid (fun k hk => Nat.ne_of_lt (h.lt k hk))
 have HY0 : Hid (x0.b = y0.b) := Lib.hid (h.nd _ (getA_some hg)).b
 have cmt := cellOf hs1.st.box 2 (v := .int .i64 s.mt) rfl
 have hmt := h.st.ml
 obtain ⟨mt, hm⟩ : ∃ x, s.mt = x := ⟨_, rfl⟩
 rw [hm] at cmt hmt
 have hn0 : ((i : Int) == 0) = false := by simp; omega
 have hn1' : decide (mt ≤ (i : Int)) = false := by simp; omega
 have hn4 : (i : Int) < 4294967296 := by omega
 clear h h1 h2 hy hs1 r1 r2 hb1 hg hm hmt
 obtain ⟨kk, hkk⟩ : ∃ z, y.k = z := ⟨_, rfl⟩
 obtain ⟨bb, hbb⟩ : ∃ z, y.b = z := ⟨_, rfl⟩
 rw [hkk, hbb] at hx1 CM CC hw1 ⊢
 rw [hn1, hn2]
 have HX1 := Lib.hid hx1
 have d0 := cellOf hx1 0 (v := .int .i64 kk) rfl
 have d1 := cellOf hx1 1 (v := .int .u64 (bb : Int)) rfl
 have d2 := cellOf hx1 2 (v := .slice a1 n1 c1) rfl
 have d3 := cellOf hx1 3 (v := .slice a2 n2 c2) rfl
 clear hx1 hn1 hn2 hkk hbb hlen hi9
 go_enter Tryz.func129, Tryz.ntmps129
 go_wp2_with fail
 (try rw [hw1])
 refine CR.mono ?_
 rintro e w2 ⟨rfl, rfl⟩
 clear CR
 go_wp2_with fail
 refine CM.mono ?_
 rintro e w2 ⟨rfl, hb2⟩
 clear CM d0 d1 d2 d3 cmt hw1
 have HB2 := Lib.hid hb2
 have c22 := cellOf (H1.out.below hb2).st.box 22 (v := .map (some mf)) rfl
 have hl := ((H1.out.below hb2).look HI32.out HG.out).1
 obtain ⟨a5, a6, e1, e2, e3⟩ := ndA_eq x0
 rw [e1] at hl
 rw [HY0.out] at hl
 clear e1 e2 e3 hb2
 obtain ⟨k0, hk0⟩ : ∃ z, x0.k = z := ⟨_, rfl⟩
 obtain ⟨tx, htx⟩ : ∃ z, y0.b = z := ⟨_, rfl⟩
 obtain ⟨n5, hn5⟩ : ∃ z, x0.n1 = z := ⟨_, rfl⟩
 obtain ⟨c5, hc5⟩ : ∃ z, x0.c1 = z := ⟨_, rfl⟩
 obtain ⟨n6, hn6⟩ : ∃ z, x0.n2 = z := ⟨_, rfl⟩
 obtain ⟨c6, hc6⟩ : ∃ z, x0.c2 = z := ⟨_, rfl⟩
 rw [hk0, htx, hn5, hc5, hn6, hc6] at hl
 have HTXE := Lib.hid htx
 clear hk0 htx hn5 hc5 hn6 hc6
 dsimp only
 go_upto_region 9 with fail
 clear hl c22
 obtain ⟨w3, hw3⟩ : ∃ W, w2.alloc (.cells #[.int .i64 k0, .int .u64 (tx : Int), .slice a5 n5 c5, .slice a6 n6 c6] 159) = W := ⟨_, rfl⟩
 rw [hw3]
 have hb3 : Below w2.heap.size w2 w3 := by rw [← hw3]; exact balloc (Below.refl _ _) _
 have hx3o : w3.heap[w2.heap.size]? = some (.cells #[.int .i64 k0, .int .u64 (tx : Int), .slice a5 n5 c5, .slice a6 n6 c6] 159 (0, 0)) := by rw [← hw3]; exact heap_alloc_new _ _
 have HB13 : Hid (Below w1.heap.size w1 w3) := Lib.hid (bthn HB2.out hb3)
 have HB3 : Hid (Below w.heap.size w w3) := Lib.hid (bthn HB1.out HB13.out)
 have HX3 := Lib.hid ((HB13.out.block _ (Array.getElem?_eq_some_iff.1 HX1.out).1).trans HX1.out)
 have d0 := cellOf HX3.out 0 (v := .int .i64 kk) rfl
 have d1 := cellOf HX3.out 1 (v := .int .u64 (bb : Int)) rfl
 have d2 := cellOf HX3.out 2 (v := .slice a1 n1 c1) rfl
 have d3 := cellOf HX3.out 3 (v := .slice a2 n2 c2) rfl
 obtain ⟨q, hq⟩ : ∃ q, w2.heap.size = q := ⟨_, rfl⟩
 rw [hq] at hx3o
 have HQ : Hid (w.heap.size < q) := Lib.hid (by rw [← hq]; exact Nat.lt_of_lt_of_le (Array.getElem?_eq_some_iff.1 HX1.out).1 HB2.out.size)
 have HXO := Lib.hid hx3o
 have CC3 := CC.out w3 HB13.out
 rw [hq]
 clear hw3 hb3 hx3o CC hq
 go_wp2_with fail
 refine CC3.mono ?_
 rintro e w4 ⟨x, rfl, hnd, hb4⟩
 have HB4 := Lib.hid hb4
 have HN4 := Lib.hid hnd
 have HX4 := Lib.hid ((hb4.block _ (Array.getElem?_eq_some_iff.1 HX3.out).1).trans HX3.out)
 have HS4 : Hid (StF w4 S B pm pd mf md s A D Fm Fd l) := Lib.hid ((H1.out.below HB13.out).below hb4)
 have HO4 := Lib.hid ((hb4.block _ (Array.getElem?_eq_some_iff.1 HXO.out).1).trans HXO.out)
 obtain ⟨NL, hNL⟩ : ∃ L, ndL x = L := ⟨_, rfl⟩
 have HN1 : Hid (NL.toArray.all (·.oneCell') = true) := Lib.hid (by rw [← hNL]; exact Array.all_eq_true_iff_forall_mem.2 (fun v hv => ndL_one x v (by simpa using hv)))
 have HNS : Hid ((Tryz.prog.info? 159).map (·.size) = some NL.toArray.size) := Lib.hid (by rw [← hNL]; exact infoNd)
 have HNE := Lib.hid hNL
 have hth : w4.there w.heap.size 0 NL.toArray.size := by rw [← hNL]; exact thereOf HX4.out (by simp [ndL])
 have HTH := Lib.hid hth
 unfold ndA
 rw [hNL]
 clear hNL hth hnd hb4 CC3 d0 d1 d2 d3
 dsimp only
 repeat (first
  | (refine wpList_store_mid rfl 159 _ _ rfl w.heap.size 0 NL.toArray rfl rfl HTH.out HNS.out HN1.out ?_; refine Hid.out ?_)
  | go_step)
 refine Lib.hid ?_
 simp only [List.toList_toArray]
 obtain ⟨w5, hw5⟩ : ∃ W, w4.setCells w.heap.size 0 NL = W := ⟨_, rfl⟩
 rw [hw5]
 have hx5 : w5.heap[w.heap.size]? = some (.cells (ndL x).toArray 159 (0, 0)) := by
  rw [← hw5, HNE.out]
  exact sets_all (cs := [.int .i64 kk, .int .u64 (bb : Int), .slice a1 n1 c1, .slice a2 n2 c2]) HX4.out (by rw [← HNE.out]; rfl)
 have HM5 : Hid (Mods [w.heap.size] w4 w5) := Lib.hid (by rw [← hw5]; exact mods_sets (List.mem_singleton.2 rfl) _ _ (Mods.refl _ _))
 have HX5 := Lib.hid hx5
 have e1 := cellOf hx5 1 (v := .int .u64 (x.b : Int)) rfl
 have f1 := frozenOf hx5 1
 have HT5 : Hid (w5.heap[S]? = some (.cells (stC B s pm pd mf md false) 176 (0, 0))) := Lib.hid ((HM5.out.block _ (Array.getElem?_eq_some_iff.1 HS4.out.st.box).1 (fun hh => HSNE.out S (List.mem_cons_self ..) (List.mem_singleton.1 hh))).trans HS4.out.st.box)
 have HO5 := (HM5.out.block _ (Array.getElem?_eq_some_iff.1 HO4.out).1 (fun hh => by have := HQ.out; have := List.mem_singleton.1 hh; omega)).trans HO4.out
 have ct := cellOf HO5 1 (v := .int .u64 (tx : Int)) rfl
 clear hx5 hw5 HO5
 go_wp2_with fail
 clear ct e1 f1
 obtain ⟨a3, ha3⟩ : ∃ a, x.g1.map (fun g => (⟨g, 0, none⟩ : Addr)) = a := ⟨_, rfl⟩
 obtain ⟨a4, ha4⟩ : ∃ a, x.g2.map (fun g => (⟨g, 0, none⟩ : Addr)) = a := ⟨_, rfl⟩
 obtain ⟨w6, hw6⟩ : ∃ W, w5.setCell ⟨w.heap.size, 1, none⟩ (.int .u64 (tx : Int)) = W := ⟨_, rfl⟩
 rw [hw6]
 have hx6 : w6.heap[w.heap.size]? = some (.cells #[.int .i64 x.k, .int .u64 ((tx : Int)), .slice a3 x.n1 x.c1, .slice a4 x.n2 x.c2] 159 (0, 0)) := by
  rw [← hw6, ← ha3, ← ha4]
  exact setOf HX5.out 1 _
 have hm6 : Mods [w.heap.size] w5 w6 := by rw [← hw6]; exact (Mods.refl _ _).setCell (p := ⟨w.heap.size, 1, none⟩) (List.mem_singleton.2 rfl) _
 have HM6 : Hid (Mods [w.heap.size] w4 w6) := Lib.hid (HM5.out.trans hm6 (fun k hk => .inl hk))
 have HV : Hid (ndA { x with b := tx } = .agg #[.int .i64 x.k, .int .u64 ((tx : Int)), .slice a3 x.n1 x.c1, .slice a4 x.n2 x.c2]) := Lib.hid (by rw [← ha3, ← ha4]; rfl)
 have HX6 := Lib.hid hx6
 have HXL := Lib.hid (Array.getElem?_eq_some_iff.1 hx6).1
 have HT6 : Hid (w6.heap[S]? = some (.cells (stC B s pm pd mf md false) 176 (0, 0))) := Lib.hid ((hm6.block _ (Array.getElem?_eq_some_iff.1 HT5.out).1 (fun hh => HSNE.out S (List.mem_cons_self ..) (List.mem_singleton.1 hh))).trans HT5.out)
 have HTL := Lib.hid (Array.getElem?_eq_some_iff.1 HT6.out).1
 have HXF : Hid (w.heap.size ∉ [mf]) := Lib.hid (fun hh => HSNE.out mf (by simp [stF]) (List.mem_singleton.1 hh).symm)
 have HTF : Hid (S ∉ [mf]) := Lib.hid (fun hh => HS4.out.S_ne.1 (List.mem_singleton.1 hh))
 have HS6 : Hid (StF w6 S B pm pd mf md s A D Fm Fd l) := Lib.hid (HS4.out.other HM6.out (fun k hk hh => HSNE.out k hk (List.mem_singleton.1 hh)) (fun p hp j hj hh => by have := (H1.out.nd p hp); exact HXN.out p hp j hj (List.mem_singleton.1 hh)))
 have HN6 : Hid (NdAt w6 w3.heap.size x y) := Lib.hid (HN4.out.at_ (fun j hj => HM6.out.block j (HN4.out.lt j hj) (fun hh => by have := HN4.out.ge j hj; have := (Array.getElem?_eq_some_iff.1 HX3.out).1; have := List.mem_singleton.1 hh; omega)))
 clear ha3 ha4 hx6 hm6 hw6
 have HSS : Hid (∀ X, Mods [mf] w6 X → (X.cell? ⟨S, 22, none⟩ = some (.map (some mf)) ∧ X.cell? ⟨w.heap.size, 0, none⟩ = some (.int .i64 x.k) ∧ X.cell? ⟨w.heap.size, 1, none⟩ = some (.int .u64 ((tx : Int))) ∧ X.cell? ⟨w.heap.size, 2, none⟩ = some (.slice a3 x.n1 x.c1) ∧ X.cell? ⟨w.heap.size, 3, none⟩ = some (.slice a4 x.n2 x.c2)) ∧ Mods [mf] w6 X) := Lib.hid (fun X hb => ⟨⟨(World.cell?_of_block (hb.block _ (HTL.out) (HTF.out))).trans (cellOf HT6.out 22 rfl), (World.cell?_of_block (hb.block _ (HXL.out) (HXF.out))).trans (cellOf HX6.out 0 rfl), (World.cell?_of_block (hb.block _ (HXL.out) (HXF.out))).trans (cellOf HX6.out 1 rfl), (World.cell?_of_block (hb.block _ (HXL.out) (HXF.out))).trans (cellOf HX6.out 2 rfl), (World.cell?_of_block (hb.block _ (HXL.out) (HXF.out))).trans (cellOf HX6.out 3 rfl)⟩, hb⟩)
 refine wp_region_held_drew (S := fun X => (X.cell? ⟨S, 22, none⟩ = some (.map (some mf)) ∧ X.cell? ⟨w.heap.size, 0, none⟩ = some (.int .i64 x.k) ∧ X.cell? ⟨w.heap.size, 1, none⟩ = some (.int .u64 ((tx : Int))) ∧ X.cell? ⟨w.heap.size, 2, none⟩ = some (.slice a3 x.n1 x.c1) ∧ X.cell? ⟨w.heap.size, 3, none⟩ = some (.slice a4 x.n2 x.c2)) ∧ Mods [mf] w6 X) (by kernel_rfl) (HSS.out _ (Mods.of_below (Below.refl _ _).drew)) (fun hHeld => ?_)
 have hbe : Below w6.heap.size w6 w6.drew := (Below.refl _ _).drew
 obtain ⟨wd, hwd⟩ : ∃ y, w6.drew = y := ⟨_, rfl⟩
 rw [hwd] at hHeld hbe ⊢
 have HBE := Lib.hid hbe
 have HS0 : Hid (w6.heap.size ≤ wd.heap.size) := Lib.hid HBE.out.size
 clear hwd hbe
 refine wpAnyH_take (i := 0) (v := ?_) rfl (by kernel_rfl) (by kernel_rfl) (by kernel_rfl) (fun _ _ _ h => h) (Or.inl ⟨by rfl, ?_⟩) (by assumption) ?_
 rotate_left
 ·(intro w hSw; (try dsimp only at hSw); simp only [List.getElem_toArray, List.getElem_cons_zero, List.getElem_cons_succ]; go_simp; first | done | with_reducible rfl)
 simp only [List.getElem_toArray, List.getElem_cons_zero, List.getElem_cons_succ, Act.put, List.setIfInBounds_toArray, List.set_cons_zero, List.set_cons_succ]
 refine wpAnyH_take (i := 4) (v := ?_) rfl (by kernel_rfl) (by kernel_rfl) (by kernel_rfl) (fun _ _ _ h => h) (Or.inl ⟨by rfl, ?_⟩) (by assumption) ?_
 rotate_left
 ·(intro w hSw; (try dsimp only at hSw); simp only [List.getElem_toArray, List.getElem_cons_zero, List.getElem_cons_succ]; go_simp; first | done | with_reducible rfl)
 simp only [List.getElem_toArray, List.getElem_cons_zero, List.getElem_cons_succ, Act.put, List.setIfInBounds_toArray, List.set_cons_zero, List.set_cons_succ]
 refine wpAnyH_take (i := 5) (v := ?_) rfl (by kernel_rfl) (by kernel_rfl) (by kernel_rfl) (fun _ _ _ h => h) (Or.inl ⟨by rfl, ?_⟩) (by assumption) ?_
 rotate_left
 ·(intro w hSw; (try dsimp only at hSw); simp only [List.getElem_toArray, List.getElem_cons_zero, List.getElem_cons_succ]; go_simp; first | done | with_reducible rfl)
 simp only [List.getElem_toArray, List.getElem_cons_zero, List.getElem_cons_succ, Act.put, List.setIfInBounds_toArray, List.set_cons_zero, List.set_cons_succ]
 refine wpAnyH_take (i := 1) (v := ?_) rfl (by kernel_rfl) (by kernel_rfl) (by kernel_rfl) (fun _ _ _ h => h) (Or.inl ⟨by rfl, ?_⟩) (by assumption) ?_
 rotate_left
 ·(intro w hSw; (try dsimp only at hSw); simp only [List.getElem_toArray, List.getElem_cons_zero, List.getElem_cons_succ]; go_simp; first | done | with_reducible rfl)
 simp only [List.getElem_toArray, List.getElem_cons_zero, List.getElem_cons_succ, Act.put, List.setIfInBounds_toArray, List.set_cons_zero, List.set_cons_succ]
 refine wpAnyH_take (i := 2) (v := ?_) rfl (by kernel_rfl) (by kernel_rfl) (by kernel_rfl) (fun _ _ _ h => h) (Or.inl ⟨by rfl, ?_⟩) (by assumption) ?_
 rotate_left
 ·(intro w hSw; (try dsimp only at hSw); simp only [List.getElem_toArray, List.getElem_cons_zero, List.getElem_cons_succ]; go_simp; first | done | with_reducible rfl)
 simp only [List.getElem_toArray, List.getElem_cons_zero, List.getElem_cons_succ, Act.put, List.setIfInBounds_toArray, List.set_cons_zero, List.set_cons_succ]
 refine wpAnyH_take (i := 3) (v := ?_) rfl (by kernel_rfl) (by kernel_rfl) (by kernel_rfl) (fun _ _ _ h => h) (Or.inl ⟨by rfl, ?_⟩) (by assumption) ?_
 rotate_left
 ·(intro w hSw; (try dsimp only at hSw); simp only [List.getElem_toArray, List.getElem_cons_zero, List.getElem_cons_succ]; go_simp; first | done | with_reducible rfl)
 simp only [List.getElem_toArray, List.getElem_cons_zero, List.getElem_cons_succ, Act.put, List.setIfInBounds_toArray, List.set_cons_zero, List.set_cons_succ]
 refine wpAnyH_ready (rs := [6]) (by kernel_rfl) (by simp) ?_
 refine AllReadyH.cons rfl (fun K hK => ?_) (AllReadyH.nil)
 obtain ⟨w7, hup, hml, hmod⟩ := (HS6.out.below HBE.out).map.put undU32 undFr HMX.out (n := i) (wf32 HI32.out) (a := (({ x with b := tx } : NdV), ({ y with b := tx } : Nd))) (v := .agg #[.int .i64 x.k, .int .u64 ((tx : Int)), .slice a3 x.n1 x.c1, .slice a4 x.n2 x.c2]) (by rw [← HV.out]; exact RNd_mk _)
 simp only [List.getElem_toArray, List.getElem_cons_zero, List.getElem_cons_succ]
 go_simp
 refine hK.out _ _ ?_ (fun hHeld => ?_)
 ·exact HSS.out _ ((Mods.of_below HBE.out).trans hmod (fun i hi => .inl hi))
 clear hK K
 try simp only [Act.put, List.setIfInBounds_toArray, List.set_cons_zero, List.set_cons_succ]
 have HML := Lib.hid hml
 have HMO := Lib.hid hmod
 clear hml hmod hup
 refine wpAnyH_done (by kernel_rfl) ?_ _
 have HEND := Lib.hid hHeld.2
 have HSE := Lib.hid hHeld.1
 clear hHeld
 clear HSS HSE HEND
 go_wp2_with fail
 go_ret
 have hz3 := HB3.out.size
 have HX := HS6.out.below HBE.out
 have hsx : ∀ j ∈ obN x, w3.heap.size ≤ j := HN6.out.ge
 refine ⟨{ x with b := tx }, rfl, HX.fresh HMO.out (by rw [HTXE.out]; exact HML.out) (fun p hp => ?_), ?_, fun j hj => by have := hsx j hj; omega⟩
 ·rcases mem_putA hp with rfl | hp
  ·refine ⟨?_, fun j hj hj2 => ?_⟩
   ·have h6 := HN6.out.below HBE.out
    exact ⟨h6.k, by show tx = y0.b; rw [HTXE.out], h6.n1, h6.n2, ownsRow_base h6.r1 (Nat.zero_le _), ownsRow_base h6.r2 (Nat.zero_le _), h6.dj⟩
   ·have h1 := hsx j hj
    have h2 := HH.out.lt j hj2
    omega
  ·exact ⟨HX.nd p hp, HX.sep p hp⟩
 ·exact ((((Mods.of_below HB3.out).thenBelow HB4.out).trans HM6.out (fun k hk => .inr (by rw [List.mem_singleton.1 hk]; exact Nat.le_refl _))).thenBelow HBE.out).trans HMO.out (fun k hk => .inl hk)
end Go.Proofs.YtgmahhdnjikdjaaGreat
/- store.Free of a fresh block, walked. -/
namespace Go.Proofs.YtgmahhdnjikdjaaGreat
open Go.RowKit Go.Maps Wire
set_option linter.unusedVariables false
set_option linter.unusedSimpArgs false
/-- What Free leaves. -/
def FreeP (w : World) (S B pm pd mf md : Nat) (s : Su) (A D : M) (Fm Fd : List Nat) (l : List (Nat × (NdV × Nd))) (i : Nat) (e : Ending) (w' : World) : Prop := e = .returned (.int .i64 0) ∧ StF w' S B pm pd mf md s { A with now := A.now.set i 0 } D Fm Fd (delA i l) ∧ Mods (mf :: Fm) w w'
end Go.Proofs.YtgmahhdnjikdjaaGreat
