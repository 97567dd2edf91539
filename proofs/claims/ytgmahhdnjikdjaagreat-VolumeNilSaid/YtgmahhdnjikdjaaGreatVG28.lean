import Derived.Test.YtgmahhdnjikdjaaGreatVG27
import Derived.Test.YtgmahhdnjikdjaaGreatVG16
import Derived.Test.YtgmahhdnjikdjaaGreatVG21
import Derived.Test.YtgmahhdnjikdjaaGreatVG2
import Derived.Sort.QuietIn
set_option linter.unusedVariables false
set_option linter.unusedSimpArgs false
/- The law's store of layer 9 (Made); its known, walked. -/
namespace Go.Proofs.YtgmahhdnjikdjaaGreat
open Go.RowKit Go.Maps Wire
set_option linter.unusedVariables false
set_option linter.unusedSimpArgs false
theorem ia_cells {w : World} {p : Nat} {A : M} {F : List Nat} (h : IA w p A F) : ∀ k ∈ F, ∃ cs t, w.heap[k]? = some (.cells cs t (0, 0)) ∧ t ≠ 176 := by
 obtain ⟨g1, g2, c1, c2, rfl, h⟩ := h
 intro k hk
 simp only [List.mem_cons, List.not_mem_nil, or_false] at hk
 rcases hk with rfl | rfl | rfl
 ·exact ⟨_, _, h.here, by decide⟩
 ·obtain ⟨cs, hh, _⟩ := h.r1
  exact ⟨_, _, hh, by decide⟩
 ·obtain ⟨cs, hh, _⟩ := h.r2
  exact ⟨_, _, hh, by decide⟩
theorem mapL_at0 {α : Type} {P : Program} {k : TypeId} {R : Value → Option (DataW Unit × List MemPlace)} {q : IntKind} {f : α → DataW Unit} {X w' : World} {b : Nat} {F : List Nat} (h : X.heap[b]? = some (.map #[] 0)) (hm : Mods F X w') (hb : b ∉ F) : MapL w' P k R q f b ([] : List (Nat × α)) := by
 obtain ⟨es, clock, h1, h2⟩ := mapL_new X P k R q f
 have e := heap_alloc_new X (.map #[] 0)
 have e2 : some (Obj.map es clock) = some (.map #[] 0) := h1.symm.trans e
 obtain ⟨rfl, rfl⟩ := Obj.map.inj (Option.some.inj e2)
 exact ⟨#[], 0, (hm.block _ (Array.getElem?_eq_some_iff.1 h).1 hb).trans h, h2⟩
theorem stF_new {w : World} {S B pm pd mf md : Nat} {s : Su} {A D : M} {Fm Fd : List Nat} (h1 : StB w S B pm pd mf md s A D Fm Fd false) (h2 : w.heap[mf]? = some (.map #[] 0)) (h3 : w.heap[md]? = some (.map #[] 0)) (h4 : mf ≠ md) (h5 : ∀ k ∈ Fd, k ∉ Fm) : StF w S B pm pd mf md s A D Fm Fd [] := by
 have hm : ∀ k ∈ Fm, (∃ cs t, w.heap[k]? = some (.cells cs t (0, 0)) ∧ t ≠ 176) := ia_cells h1.ma
 have hd : ∀ k ∈ Fd, (∃ cs t, w.heap[k]? = some (.cells cs t (0, 0)) ∧ t ≠ 176) := ia_cells h1.da
 have hF : ∀ k ∈ Fm ++ Fd, (∃ cs t, w.heap[k]? = some (.cells cs t (0, 0)) ∧ t ≠ 176) := fun k hk => by
  rcases List.mem_append.1 hk with h | h
  ·exact hm k h
  ·exact hd k h
 have hmap : ∀ q, w.heap[q]? = some (.map #[] 0) → q ∉ Fm ++ Fd := fun q hq hk => by
  obtain ⟨cs, t, e, _⟩ := hF q hk
  rw [hq] at e
  cases e
 refine ⟨h1, mapL_at0 h2 (Mods.refl [] w) (by simp), fun p hp => (by simp at hp), fun p hp => (by simp at hp), (Array.getElem?_eq_some_iff.1 h3).1, ?_, ?_, h5⟩
 ·intro hk
  have hb := h1.box
  rcases List.mem_cons.1 hk with e | hk
  ·rw [e, h2] at hb; cases hb
  ·rcases List.mem_cons.1 hk with e | hk
   ·rw [e, h3] at hb; cases hb
   ·obtain ⟨cs, t, e, hne⟩ := hF S hk
    rw [hb] at e
    cases e
    exact hne rfl
 ·intro hk
  rcases List.mem_cons.1 hk with e | hk
  ·exact h4 e
  ·exact hmap mf h2 hk
def su9 : Su := suF 200 60 (pagesN 200 + pagesN 60)
def ar9 : M := ⟨ctK 200 (pagesN 200 + pagesN 60), ctK 200 (pagesN 200 + pagesN 60), 0, 0⟩
def dr9 : M := ⟨List.replicate 60 0, List.replicate 60 0, 0, 0⟩
/-- A store just made. -/
def Made9 (w : World) (e : Ending) (w' : World) : Prop := ∃ S B pm pd mf md Fm Fd, e = .returned (pt S) ∧ StF w' S B pm pd mf md su9 ar9 dr9 Fm Fd [] ∧ Below w.heap.size w w' ∧ ∀ k ∈ stF S mf md Fm Fd, w.heap.size ≤ k
theorem mk9 : MkOk 1048 200 60 := by constructor <;> decide
theorem ok_b {y : Nd} (h : y.Ok) (b : Nat) : Nd.Ok { y with b := b } := ⟨h.k, h.n, h.m, h.up, h.ku, h.vu⟩
end Go.Proofs.YtgmahhdnjikdjaaGreat
/- store.NewData, walked. -/
namespace Go.Proofs.YtgmahhdnjikdjaaGreat
open Go.RowKit Go.Maps Wire
set_option linter.unusedVariables false
set_option linter.unusedSimpArgs false
theorem undIs2 : Tryz.prog.underlying 174 = some (.map 22 196) := by kernel_rfl
theorem bIs2 (W : World) : (Instr.build 196 #[(0, .bool true)]).run Tryz.prog W = .ok (.agg #[.bool true]) W := run_build W 196 _ _ (by kernel_rfl)
theorem infoBk {c : List UInt8} (h : c.length = 256) : (Tryz.prog.info? 78).map (·.size) = some (bV c).length := by rw [bV_len, h]; kernel_rfl
theorem ia_not {w : World} {p q : Nat} {A : M} {F : List Nat} (h : IA w p A F) (hq : ∃ es clock, w.heap[q]? = some (.map es clock)) : q ∉ F := fun hh => by
 obtain ⟨cs, t, e, _⟩ := ia_cells h q hh
 obtain ⟨es, ck, e2⟩ := hq
 rw [e] at e2
 cases e2
/-- The map of its fresh data blocks changed. -/
theorem StF.freshD {w w' : World} {S B pm pd mf md : Nat} {s : Su} {A D : M} {Fm Fd : List Nat} {l : List (Nat × (NdV × Nd))} (h : StF w S B pm pd mf md s A D Fm Fd l) (hm : Mods [md] w w') (hq : ∃ es clock, w.heap[md]? = some (.map es clock)) : StF w' S B pm pd mf md s A D Fm Fd l :=
 ⟨⟨(hm.block _ (Array.getElem?_eq_some_iff.1 h.st.box).1 (fun hh => h.S_ne.2.1 (List.mem_singleton.1 hh))).trans h.st.box, h.st.ma.same (fun j hj => hm.block j (h.st.ma.lt j hj) (fun hh => ia_not h.st.ma hq (by rw [← List.mem_singleton.1 hh]; exact hj))), h.st.da.same (fun j hj => hm.block j (h.st.da.lt j hj) (fun hh => ia_not h.st.da hq (by rw [← List.mem_singleton.1 hh]; exact hj))), h.st.mok, h.st.dok, h.st.ml, h.st.dl, h.st.wf⟩, h.map.mods hm (fun hh => h.mf_ne.1 (List.mem_singleton.1 hh)), fun p hp => (h.nd p hp).at_ (fun j hj => hm.block j ((h.nd p hp).lt j hj) (fun hh => h.sep p hp j hj (by simp [stF, List.mem_singleton.1 hh]))), h.sep, Nat.lt_of_lt_of_le h.mdl hm.size, h.nS, h.nm, h.dj⟩
/-- A store's disk lies apart from what else is the store's. -/
structure DkF (n0 : Nat) (w : World) (S B mf md : Nat) (Fm Fd : List Nat) (l : List (Nat × (NdV × Nd))) (iv jv : Value) (d : Dk) : Prop where
 at_ : DkAt n0 w B iv jv d
 s1 : ∀ k ∈ stF S mf md Fm Fd, k ∉ dF B iv jv
 s2 : ∀ p ∈ l, ∀ j ∈ obN p.2.1, j ∉ dF B iv jv
/-- What NewData leaves. -/
def NewDP (n0 : Nat) (w : World) (S B pm pd mf md : Nat) (s : Su) (A D : M) (Fm Fd : List Nat) (l : List (Nat × (NdV × Nd))) (ld : List (Nat × Bool)) (iv jv : Value) (d : Dk) (i : Nat) (k : Nat) (b : List UInt8) (e : Ending) (w' : World) : Prop :=
 e = .returned (.tuple #[.int .u32 (i : Int), .int .i64 0]) ∧ StF w' S B pm pd mf md s A (allocM D i) Fm Fd l ∧ IsM w' md (putA i true ld) ∧ ∃ jv', DkF n0 w' S B mf md Fm Fd l iv jv' (d.wrK k b) ∧ Mods (md :: (Fd ++ dF B iv jv)) w w'
set_option maxRecDepth 100000 in
set_option maxHeartbeats 12800000 in
theorem snewdata_at {n0 : Nat} {w : World} {S B pm pd mf md : Nat} {s : Su} {A D : M} {Fm Fd : List Nat} {l : List (Nat × (NdV × Nd))} {ld : List (Nat × Bool)} {iv jv : Value} {d : Dk} (h : StF w S B pm pd mf md s A D Fm Fd l) (hdk : DkF n0 w S B mf md Fm Fd l iv jv d) (hn0 : n0 ≤ w.heap.size) (hl : d.left < 0) (hdd : d.dead = false) (him : d.img.length ≤ 1000000) (hjl : d.jr.length ≤ 900000) (hmd : IsM w md ld) (hld : ld.length ≤ 100000)
  (b : List UInt8) (hb : b.length = 256) (i : Nat) (hf : find D 0 = some i) (mt : Nat) (hmt : s.mt = (mt : Int)) (hfit : (2 + mt + i) * 4 + 4 ≤ d.img.length) :
  Calls Tryz.prog 49 #[.pointer (some ⟨S, 0, none⟩), .agg (bV b).toArray] w (NewDP n0 w S B pm pd mf md s A D Fm Fd l ld iv jv d i (2 + mt + i) b) := by
 have hi9 : i < D.now.length := find_lt h.st.dok.pos _ _ _ hf
 have hm9 := h.st.dok.max
 obtain ⟨w1, hw1⟩ : ∃ W, w.alloc (.cells (bV b).toArray 78) = W := ⟨_, rfl⟩
 have hb1 : Below w.heap.size w w1 := by rw [← hw1]; exact balloc (Below.refl _ _) _
 have hx1 : w1.heap[w.heap.size]? = some (.cells (bV b).toArray 78 (0, 0)) := by rw [← hw1]; exact heap_alloc_new _ _
 have HX1 := Lib.hid hx1
 have HB1 := Lib.hid hb1
 have HH1 := Lib.hid (h.below hb1)
 have CR := sready_at HH1.out.st
 have CA := alloc_any HH1.out.st.da h.st.dok
 unfold AllocP at CA
 rw [hf] at CA
 dsimp only at CA
 have c21 := cellOf HH1.out.st.box 21 (v := .pointer (some ⟨pd, 0, none⟩)) rfl
 have HH := Lib.hid h
 have HDK := Lib.hid hdk
 have HMD := Lib.hid hmd
 have HFA := Lib.hid (And.intro hn0 (And.intro hl (And.intro hdd (And.intro him (And.intro hjl (And.intro hld (And.intro hb (And.intro hi9 (And.intro hmt hfit)))))))))
 unfold pt at CA
 clear h hdk hmd hf hn0 hl hdd him hjl hld hb1 hx1 hmt
 go_enter Tryz.func49, Tryz.ntmps49
 go_wp2_with fail
 (try rw [hw1])
 clear hw1
 refine CR.mono ?_
 rintro e w2 ⟨rfl, rfl⟩
 clear CR
 go_wp2_with fail
 refine CA.mono ?_
 rintro e w3 ⟨rfl, hia, hlf⟩
 have H3 := Lib.hid (HH1.out.dataA hlf.1 hia (alM_ok HH.out.st.dok hi9) (by simp [allocM]))
 have HM3 : Hid (Mods Fd w w3) := Lib.hid ((Mods.of_below HB1.out).trans hlf.1 (fun k hk => .inl hk))
 have HFL : Hid (∀ k ∈ stF S mf md Fm Fd, k < w.heap.size) := Lib.hid HH.out.lt
 have HX3 : Hid (w3.heap[w.heap.size]? = some (.cells (bV b).toArray 78 (0, 0))) := Lib.hid ((hlf.1.block _ (Array.getElem?_eq_some_iff.1 HX1.out).1 (fun hh => by have := HFL.out _ (show w.heap.size ∈ stF S mf md Fm Fd by simp [stF, hh]); omega)).trans HX1.out)
 have HD3 : Hid (DkAt n0 w3 B iv jv d) := Lib.hid (HDK.out.at_.same (fun k hk => HM3.out.block k (HDK.out.at_.inF k hk).2 (fun hh => HDK.out.s1 k (by simp [stF, hh]) hk)))
 have HMD3 : Hid (IsM w3 md ld) := Lib.hid (HMD.out.mods HM3.out (fun hh => by
  obtain ⟨cs, t, e, _⟩ := ia_cells HH.out.st.da md hh
  obtain ⟨es, ck, e2⟩ := HMD.out.isMap
  rw [e] at e2
  cases e2))
 clear CA hia hlf c21
 dsimp only
 go_upto_region 7 with fail
 have HXA : Hid (w.heap.size < w3.heap.size ∧ w.heap.size ∉ dF B iv jv) := Lib.hid ⟨(Array.getElem?_eq_some_iff.1 HX3.out).1, HD3.out.apart HX3.out (by decide) (by decide) (by decide)⟩
 have CB : Hid (∀ X, Calls Tryz.prog 91 #[.int .i64 (mt : Int), .int .i64 (i : Int)] X fun e w' => e = .returned (.int .i64 (2 + (mt : Int) + (i : Int))) ∧ Below X.heap.size X w') := Lib.hid (fun X => (sblocks_any X mt i (by have := HFA.out; omega) (by have := HFA.out; omega)).mono fun e w' hp => ⟨hp.1, by rw [hp.2]; exact Below.refl _ _⟩)
 have CW : Hid (∀ X, DkAt n0 X B iv jv d → n0 ≤ X.heap.size → Calls Tryz.prog 29 #[.pointer (some ⟨B, 0, none⟩), .int .i64 (2 + (mt : Int) + (i : Int)), .agg (bV b).toArray] X fun e w' => e = .returned (.int .i64 0) ∧ ∃ jv', DkAt n0 w' B iv jv' (d.wrK (2 + mt + i) b) ∧ Chg (dF B iv jv) X w' (dF B iv jv')) := Lib.hid (fun X hX hs => by
  have h9 := swrite_at n0 X B iv jv d hX hs HFA.out.2.1 HFA.out.2.2.1 (2 + mt + i) b HFA.out.2.2.2.2.2.2.1 HFA.out.2.2.2.2.2.2.2.2.2 HFA.out.2.2.2.1 HFA.out.2.2.2.2.1
  rw [show ((2 + mt + i : Nat) : Int) = 2 + (mt : Int) + (i : Int) by omega] at h9
  exact h9)
 have HNW : Hid (n0 ≤ w3.heap.size) := Lib.hid (Nat.le_trans HFA.out.1 HM3.out.size)
 have HC2 : Hid (w3.cell? ⟨S, 2, none⟩ = some (.int .i64 (mt : Int))) := Lib.hid (by rw [← HFA.out.2.2.2.2.2.2.2.2.1]; exact cellOf H3.out.st.box 2 rfl)
 have HSS : Hid (∀ X, Mods (dF B iv jv) w3 X → (X.cell? ⟨S, 0, none⟩ = some (.pointer (some ⟨B, 0, none⟩)) ∧ X.cell? ⟨S, 2, none⟩ = some (.int .i64 (mt : Int)) ∧ X.rangeAt w.heap.size 0 (bV b)) ∧ Mods (dF B iv jv) w3 X) := Lib.hid (fun X hb => ⟨⟨(World.cell?_of_block (hb.block _ ((Array.getElem?_eq_some_iff.1 H3.out.st.box).1) (HDK.out.s1 S (by simp [stF])))).trans (cellOf H3.out.st.box 0 rfl), (World.cell?_of_block (hb.block _ ((Array.getElem?_eq_some_iff.1 H3.out.st.box).1) (HDK.out.s1 S (by simp [stF])))).trans (HC2.out), (fun j u hj => (World.cell?_of_block (a := ⟨w.heap.size, 0 + j, none⟩) (hb.block w.heap.size HXA.out.1 HXA.out.2)).trans (cellOf HX3.out (0 + j) (by rw [Nat.zero_add]; simpa using hj)))⟩, hb⟩)
 refine wp_region_held_drew (S := fun X => (X.cell? ⟨S, 0, none⟩ = some (.pointer (some ⟨B, 0, none⟩)) ∧ X.cell? ⟨S, 2, none⟩ = some (.int .i64 (mt : Int)) ∧ X.rangeAt w.heap.size 0 (bV b)) ∧ Mods (dF B iv jv) w3 X) (by kernel_rfl) (HSS.out _ (Mods.of_below (Below.refl _ _).drew)) (fun hHeld => ?_)
 have hbe : Below w3.heap.size w3 w3.drew := (Below.refl _ _).drew
 obtain ⟨wd, hwd⟩ : ∃ y, w3.drew = y := ⟨_, rfl⟩
 rw [hwd] at hHeld hbe ⊢
 have HBE := Lib.hid hbe
 have HS0 : Hid (w3.heap.size ≤ wd.heap.size) := Lib.hid HBE.out.size
 clear hwd hbe
 refine wpAnyH_take (i := 0) (v := ?_) rfl (by kernel_rfl) (by kernel_rfl) (by kernel_rfl) (fun _ _ _ h => h) (Or.inl ⟨by rfl, ?_⟩) (by assumption) ?_
 rotate_left
 ·(intro w hSw; (try dsimp only at hSw); simp only [List.getElem_toArray, List.getElem_cons_zero, List.getElem_cons_succ]; go_simp; first | done | with_reducible rfl)
 simp only [List.getElem_toArray, List.getElem_cons_zero, List.getElem_cons_succ, Act.put, List.setIfInBounds_toArray, List.set_cons_zero, List.set_cons_succ]
 refine wpAnyH_take (i := 4) (v := ?_) rfl (by kernel_rfl) (by kernel_rfl) (by kernel_rfl) (fun _ _ _ h => h) (Or.inl ⟨by rfl, ?_⟩) (by assumption) ?_
 rotate_left
 ·(intro w hSw; (try dsimp only at hSw); simp only [List.getElem_toArray, List.getElem_cons_zero, List.getElem_cons_succ]; go_simp; first | done | with_reducible rfl)
 simp only [List.getElem_toArray, List.getElem_cons_zero, List.getElem_cons_succ, Act.put, List.setIfInBounds_toArray, List.set_cons_zero, List.set_cons_succ]
 refine wpAnyH_take (i := 9) (v := ?_) rfl (by kernel_rfl) (by kernel_rfl) (by kernel_rfl) (fun _ _ _ h => h) (Or.inl ⟨by rfl, ?_⟩) (by assumption) ?_
 rotate_left
 ·(intro w hSw; (try dsimp only at hSw); simp only [List.getElem_toArray, List.getElem_cons_zero, List.getElem_cons_succ]; go_simp; first | done | with_reducible rfl)
 simp only [List.getElem_toArray, List.getElem_cons_zero, List.getElem_cons_succ, Act.put, List.setIfInBounds_toArray, List.set_cons_zero, List.set_cons_succ]
 refine wpAnyH_take (i := 11) (v := _) rfl (by kernel_rfl) (by kernel_rfl) (by kernel_rfl) (fun _ _ _ h => h) (yieldsIf_load_mid (by rfl) 78 _ rfl (w.heap.size) (0) rfl (bV b) _ (fun w hSw => hSw.1.2.2) (Tryz.underlying78) rfl (infoBk HFA.out.2.2.2.2.2.2.1)) (by assumption) ?_
 simp only [List.getElem_toArray, List.getElem_cons_zero, List.getElem_cons_succ, Act.put, List.setIfInBounds_toArray, List.set_cons_zero, List.set_cons_succ]
 refine wpAnyH_take (i := 1) (v := ?_) rfl (by kernel_rfl) (by kernel_rfl) (by kernel_rfl) (fun _ _ _ h => h) (Or.inl ⟨by rfl, ?_⟩) (by assumption) ?_
 rotate_left
 ·(intro w hSw; (try dsimp only at hSw); simp only [List.getElem_toArray, List.getElem_cons_zero, List.getElem_cons_succ]; go_simp; first | done | with_reducible rfl)
 simp only [List.getElem_toArray, List.getElem_cons_zero, List.getElem_cons_succ, Act.put, List.setIfInBounds_toArray, List.set_cons_zero, List.set_cons_succ]
 refine wpAnyH_take (i := 5) (v := ?_) rfl (by kernel_rfl) (by kernel_rfl) (by kernel_rfl) (fun _ _ _ h => h) (Or.inl ⟨by rfl, ?_⟩) (by assumption) ?_
 rotate_left
 ·(intro w hSw; (try dsimp only at hSw); simp only [List.getElem_toArray, List.getElem_cons_zero, List.getElem_cons_succ]; go_simp; first | done | with_reducible rfl)
 simp only [List.getElem_toArray, List.getElem_cons_zero, List.getElem_cons_succ, Act.put, List.setIfInBounds_toArray, List.set_cons_zero, List.set_cons_succ]
 refine wpAnyH_take (i := 2) (v := ?_) rfl (by kernel_rfl) (by kernel_rfl) (by kernel_rfl) (fun _ _ _ h => h) (Or.inl ⟨by rfl, ?_⟩) (by assumption) ?_
 rotate_left
 ·(intro w hSw; (try dsimp only at hSw); simp only [List.getElem_toArray, List.getElem_cons_zero, List.getElem_cons_succ]; go_simp; first | done | with_reducible rfl)
 simp only [List.getElem_toArray, List.getElem_cons_zero, List.getElem_cons_succ, Act.put, List.setIfInBounds_toArray, List.set_cons_zero, List.set_cons_succ]
 refine wpAnyH_take (i := 6) (v := ?_) rfl (by kernel_rfl) (by kernel_rfl) (by kernel_rfl) (fun _ _ _ h => h) (Or.inl ⟨by rfl, ?_⟩) (by assumption) ?_
 rotate_left
 ·(intro w hSw; (try dsimp only at hSw); simp only [List.getElem_toArray, List.getElem_cons_zero, List.getElem_cons_succ]; go_simp; first | done | with_reducible rfl)
 simp only [List.getElem_toArray, List.getElem_cons_zero, List.getElem_cons_succ, Act.put, List.setIfInBounds_toArray, List.set_cons_zero, List.set_cons_succ]
 refine wpAnyH_take (i := 3) (v := ?_) rfl (by kernel_rfl) (by kernel_rfl) (by kernel_rfl) (fun _ _ _ h => h) (Or.inl ⟨by rfl, ?_⟩) (by assumption) ?_
 rotate_left
 ·(intro w hSw; (try dsimp only at hSw); simp only [List.getElem_toArray, List.getElem_cons_zero, List.getElem_cons_succ]; go_simp; first | done | with_reducible rfl)
 simp only [List.getElem_toArray, List.getElem_cons_zero, List.getElem_cons_succ, Act.put, List.setIfInBounds_toArray, List.set_cons_zero, List.set_cons_succ]
 refine wpAnyH_take (i := 7) (v := ?_) rfl (by kernel_rfl) (by kernel_rfl) (by kernel_rfl) (fun _ _ _ h => h) (Or.inl ⟨by rfl, ?_⟩) (by assumption) ?_
 rotate_left
 ·(intro w hSw; (try dsimp only at hSw); simp only [List.getElem_toArray, List.getElem_cons_zero, List.getElem_cons_succ]; go_simp; first | done | with_reducible rfl)
 simp only [List.getElem_toArray, List.getElem_cons_zero, List.getElem_cons_succ, Act.put, List.setIfInBounds_toArray, List.set_cons_zero, List.set_cons_succ]
 refine wpAnyH_take (i := 8) (v := ?_) rfl (by kernel_rfl) (by kernel_rfl) (by kernel_rfl) (fun _ _ _ h => h) (Or.inl ⟨by rfl, ?_⟩) (by assumption) ?_
 rotate_left
 ·(intro w hSw; (try dsimp only at hSw); simp only [List.getElem_toArray, List.getElem_cons_zero, List.getElem_cons_succ]; go_simp; first | done | with_reducible rfl)
 simp only [List.getElem_toArray, List.getElem_cons_zero, List.getElem_cons_succ, Act.put, List.setIfInBounds_toArray, List.set_cons_zero, List.set_cons_succ]
 refine wpAnyH_ready (rs := [10]) (by kernel_rfl) (by simp) ?_
 refine AllReadyH.cons rfl (fun K hK => ?_) (AllReadyH.nil)
 simp only [List.getElem_toArray, List.getElem_cons_zero, List.getElem_cons_succ]
 go_simp
 refine (CB.out _).mono ?_
 rintro e y10 ⟨rfl, hb10⟩
 dsimp only
 have HBE := Lib.hid (bthen HBE.out hb10)
 have hSp := HSS.out _ (Mods.of_below HBE.out)
 clear hHeld
 refine hK.out _ _ hSp (fun hHeld => ?_)
 clear hSp hK K
 try simp only [Act.put, List.setIfInBounds_toArray, List.set_cons_zero, List.set_cons_succ]
 have HC10 := Lib.hid hb10
 clear hb10
 refine wpAnyH_ready (rs := [12]) (by kernel_rfl) (by simp) ?_
 refine AllReadyH.cons rfl (fun K hK => ?_) (AllReadyH.nil)
 simp only [List.getElem_toArray, List.getElem_cons_zero, List.getElem_cons_succ]
 go_simp
 refine (CW.out _ (HD3.out.below HBE.out) (Nat.le_trans HNW.out HBE.out.size)).mono ?_
 rintro e w9 ⟨rfl, jv2, hd2, hc2⟩
 dsimp only
 refine hK.out _ _ ?_ (fun hHeld => ?_)
 ·exact HSS.out _ ((Mods.of_below HBE.out).trans hc2.1 (fun k hk => .inl hk))
 clear hK K
 try simp only [Act.put, List.setIfInBounds_toArray, List.set_cons_zero, List.set_cons_succ]
 have HD9 := Lib.hid hd2
 have HM9 : Hid (Mods (dF B iv jv) w3 w9) := Lib.hid ((Mods.of_below HBE.out).trans hc2.1 (fun k hk => .inl hk))
 have HC9 : Hid (∀ k ∈ dF B iv jv2, k ∈ dF B iv jv ∨ w3.heap.size ≤ k) := Lib.hid (fun k hk => by rcases hc2.2 k hk with h1 | h1; exact .inl h1; exact .inr (Nat.le_trans HBE.out.size h1))
 clear hd2 hc2
 refine wpAnyH_take (i := 13) (v := ?_) rfl (by kernel_rfl) (by kernel_rfl) (by kernel_rfl) (fun _ _ _ h => h) (Or.inl ⟨by rfl, ?_⟩) (by assumption) ?_
 rotate_left
 ·(intro w hSw; (try dsimp only at hSw); simp only [List.getElem_toArray, List.getElem_cons_zero, List.getElem_cons_succ]; go_simp; first | done | with_reducible rfl)
 simp only [List.getElem_toArray, List.getElem_cons_zero, List.getElem_cons_succ, Act.put, List.setIfInBounds_toArray, List.set_cons_zero, List.set_cons_succ]
 refine wpAnyH_done (by kernel_rfl) ?_ _
 have HEND := Lib.hid hHeld.2
 have HSE := Lib.hid hHeld.1
 clear hHeld
 clear HSS HSE HEND
 have H9 : Hid (StF w9 S B pm pd mf md s A (allocM D i) Fm Fd l) := Lib.hid (H3.out.other HM9.out HDK.out.s1 HDK.out.s2)
 have HML := Lib.hid (HMD3.out.mods HM9.out (HDK.out.s1 md (by simp [stF])))
 have HF9 : Hid (DkF n0 w9 S B mf md Fm Fd l iv jv2 (d.wrK (2 + mt + i) b)) := Lib.hid ⟨HD9.out, fun k hk hh => by
  rcases HC9.out k hh with h1 | h1
  ·exact HDK.out.s1 k hk h1
  ·have h2 := H3.out.lt k hk
   omega, fun p hp k hk hh => by
  rcases HC9.out k hh with h1 | h1
  ·exact HDK.out.s2 p hp k hk h1
  ·have h2 := (H3.out.nd p hp).lt k hk
   omega⟩
 have c23 := cellOf H9.out.st.box 23 (v := .map (some md)) rfl
 have hi4 : i < 4294967296 := by have := HFA.out.2.2.2.2.2.2.2.1; have := HH.out.st.dok.max; omega
 have hi4' : (i : Int) < 4294967296 := by omega
 have hii : IntKind.u32.wrap (i : Int) = (i : Int) := IntWalk.u32_in _ ⟨by omega, by omega⟩
 have hbi := bIs2
 obtain ⟨wz, hup, hml, hmo⟩ := HML.out.put undU32 undIs2 (n := i) (by have := HFA.out.2.2.2.2.2.1; unfold maxLen; omega) (wf32 hi4) (v := .agg #[.bool true]) (a := true) (ps := []) (RIs_mk true)
 have HMZ := Lib.hid hml
 have HMO := Lib.hid hmo
 clear hml hmo
 go_wp2_with fail
 go_ret2
 refine ⟨rfl, ?_, HMZ.out, jv2, ⟨HF9.out.at_.same (fun k hk => HMO.out.block k (HF9.out.at_.inF k hk).2 (fun hh => HF9.out.s1 md (by simp [stF]) (by rw [← List.mem_singleton.1 hh]; exact hk))), HF9.out.s1, HF9.out.s2⟩, ?_⟩
 ·exact H9.out.freshD HMO.out HML.out.isMap
 ·exact ((HM3.out.mono (fun k hk => List.mem_cons_of_mem _ (List.mem_append_left _ hk))).trans HM9.out (fun k hk => .inl (List.mem_cons_of_mem _ (List.mem_append_right _ hk)))).trans HMO.out (fun k hk => .inl (by rw [List.mem_singleton.1 hk]; exact List.mem_cons_self ..))
end Go.Proofs.YtgmahhdnjikdjaaGreat
/- store.Shadow of a fresh block that is named more than once: a leaf with one value, walked. -/
namespace Go.Proofs.YtgmahhdnjikdjaaGreat
open Go.RowKit Go.Maps Wire
set_option linter.unusedVariables false
set_option linter.unusedSimpArgs false
theorem below_grownS {w w' : World} (hb : Below w.heap.size w w') : w.grownBy w' none := ⟨hb.os, hb.tape, hb.output, hb.size, fun k hk _ => hb.block k hk⟩
set_option maxRecDepth 100000 in
set_option maxHeartbeats 3200000 in
theorem names_any (w : World) (k b : Int) (u v : Value) (hu : ∃ a n c, u = .slice a n c) (hv : ∃ a n c, v = .slice a n c) : Calls Tryz.prog 85 #[.agg #[.int .i64 k, .int .u64 b, u, v]] w fun e w' => e = .returned (.func (.func 133) #[] #[.pointer (some ⟨w.heap.size, 0, none⟩)]) ∧ w.alloc (.cells #[.int .i64 k, .int .u64 b, u, v] 159) = w' := by
 obtain ⟨a1, n1, c1, rfl⟩ := hu
 obtain ⟨a2, n2, c2, rfl⟩ := hv
 go_enter Tryz.func85, Tryz.ntmps85
 go_wp2_with fail
 go_ret
 exact ⟨rfl, rfl⟩
set_option maxRecDepth 100000 in
set_option maxHeartbeats 6400000 in
theorem names_stops (n : Nat) (hn : 1 ≤ n) (p g c v bb : Nat) (a1 : Value) (w : World) (hp : w.heap[p]? = some (.cells #[.int .i64 2, .int .u64 (bb : Int), a1, .slice (some ⟨g, 0, none⟩) 1 c] 159 (0, 0))) (hg : w.cell? ⟨g, 0, none⟩ = some (.int .u64 (v : Int))) (hgl : g < w.heap.size) (hv : v < 4294967296) :
  SeqStopsK Fence.wide n Tryz.prog 133 #[.pointer (some ⟨p, 0, none⟩)] (fun _ : Unit => #[.int .u32 (v : Int), .bool true]) (fun _ _ => True) (fun ys => ys = [()]) (fun pre => pre <+: [()]) 1 w := by
 intro ly J Jx W hW hJ hJx hY h0
 have hro : Fence.wide.round = none := rfl
 have hp2 := (hW.block p (Array.getElem?_eq_some_iff.1 hp).1).trans hp
 have k0 := cellOf hp2 0 (v := .int .i64 2) rfl
 have k3 := cellOf hp2 3 (v := .slice (some ⟨g, 0, none⟩) 1 c) rfl
 have kg := (World.cell?_of_block (a := ⟨g, 0, none⟩) (hW.block g hgl)).trans hg
 have HPL : Hid (p < W.heap.size) := Lib.hid (Array.getElem?_eq_some_iff.1 hp2).1
 have HJ := Lib.hid hJ
 have H0 := Lib.hid h0
 have HY := Lib.hid hY
 have hwv : IntKind.u32.wrap (v : Int) = (v : Int) := by rw [IntKind.wrap_u32]; omega
 clear hp hp2 hg hgl hW hJ h0 hJx hY
 refine callsIn_of_wp Tryz.func133 rfl trivial ?_ hro
 simp only [Tryz.ntmps133, List.size_toArray, List.length_cons, List.length_nil, Nat.reduceAdd, Nat.reduceSub, Array.replicate_succ, Array.replicate_zero, List.push_toArray, List.append_toArray, List.nil_append, List.cons_append]
 gi_wp2
 gi_loopw [10] (fun d wr => (d = .int .i64 0 ∧ wr = W) ∨ (d = .int .i64 1 ∧ J [()] wr)) (fun d _ => 1 - (Go.RowKit.intOf d).toNat)
 case atStart => exact .inl ⟨rfl, rfl⟩
 case round =>
  rcases hrel with ⟨rfl, rfl⟩ | ⟨rfl, hj⟩
  ·gi_wp2
   gi_quiet (fail)
   rename_i nq
   have hbn : Below wr.heap.size wr (wr.drewN nq) := below_drewN (Below.refl _ _) nq
   obtain ⟨W2, hW2⟩ : ∃ Y, wr.drewN nq = Y := ⟨_, rfl⟩
   rw [hW2] at hbn ⊢
   have hj2 := HJ.out [] wr W2 none H0.out (below_grownS hbn) (fun r e => by cases e)
   have k02 := (World.cell?_of_block (a := ⟨p, 0, none⟩) (hbn.block p HPL.out)).trans k0
   obtain ⟨fn, tmps, assign, body, hy, hR⟩ := HY.out [] () W2 hj2 (by simp)
   clear hW2 hbn hj2 k0 k3 kg
   gi_wp2
   refine hR.mono ?_
   rintro e W3 (⟨rfl, hJ3, _⟩ | ⟨rfl, hJx3⟩)
   ·have HJ3 := Lib.hid hJ3
    clear hJ3 hR hy k02
    gi_wp2
    go_roundw
    case rel => exact .inr ⟨rfl, HJ3.out⟩
    case measure => simp [Go.RowKit.intOf]
   ·have HJX := Lib.hid hJx3
    clear hJx3 hR hy k02
    gi_wp2
    (try simp only [Exit.inBlock, Exit.then])
    refine bodyPost_ret (results_none rfl _ _ _) rfl ?_
    exact ⟨⟨_, rfl⟩, .inr ⟨[()], List.prefix_refl _, HJX.out⟩⟩
  ·have HJ1 := Lib.hid hj
   clear hj
   gi_wp2
   go_end0
   exact ⟨⟨_, rfl⟩, .inl ⟨[()], rfl, HJ1.out⟩⟩
end Go.Proofs.YtgmahhdnjikdjaaGreat
