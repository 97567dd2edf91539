import Derived.Test.YtcdobdjemlaaaaaGreatNG23
import Derived.Test.YtcdobdjemlaaaaaGreatNG16
set_option linter.unusedVariables false
set_option linter.unusedSimpArgs false
/- btree.Delete of a leaf that has just that key, walked. -/
namespace Go.Proofs.YtcdobdjemlaaaaaGreat
open Go.RowKit Go.Maps Wire
set_option linter.unusedVariables false
set_option linter.unusedSimpArgs false
theorem find_insA {α : Type} (k : Nat) (a : α) : ∀ l : List (Nat × α), (∀ y ∈ l, y.1 ≠ k) → (insA (k, a) l).find? (fun p => p.1 == k) = some (k, a)
 | [], _ => by simp [insA]
 | y :: l, h => by
  unfold insA
  split
  ·simp
  ·rw [List.find?_cons_of_neg (by simpa using h y (List.mem_cons_self ..))]
   exact find_insA k a l (fun z hz => h z (List.mem_cons_of_mem _ hz))
theorem getA_put {α : Type} (k : Nat) (a : α) (l : List (Nat × α)) : getA k (putA k a l) = some a := by
 unfold getA putA
 rw [find_insA k a _ delA_ne]
 rfl
theorem filter_insA {α : Type} (k : Nat) (a : α) : ∀ l : List (Nat × α), (insA (k, a) l).filter (fun p => !(p.1 == k)) = l.filter (fun p => !(p.1 == k))
 | [] => by simp [insA]
 | y :: l => by
  unfold insA
  split
  ·simp
  ·rw [List.filter_cons, List.filter_cons, filter_insA k a l]
theorem delA_put {α : Type} (k : Nat) (a : α) (l : List (Nat × α)) : delA k (putA k a l) = delA k l := by
 unfold putA
 show (insA (k, a) (delA k l)).filter (fun p => !(p.1 == k)) = delA k l
 rw [filter_insA]
 show (l.filter _).filter _ = l.filter _
 rw [List.filter_filter]
 congr 1
 funext p
 simp
/-- What Delete leaves. -/
def Del1P (w : World) (S B pm pd mf md : Nat) (s : Su) (A D : M) (Fm Fd : List Nat) (l : List (Nat × (NdV × Nd))) (i v : Nat) (e : Ending) (w' : World) : Prop :=
 e = .returned (.tuple #[.int .u32 0, .int .u64 (v : Int), .bool true, .int .i64 0]) ∧ StF w' S B pm pd mf md s { A with now := A.now.set i 0 } D Fm Fd (delA i l) ∧ Mods (mf :: Fm) w w'
set_option maxRecDepth 100000 in
set_option maxHeartbeats 6400000 in
theorem tdelete_one {w : World} {S B pm pd mf md : Nat} {s : Su} {A D : M} {Fm Fd : List Nat} {l : List (Nat × (NdV × Nd))} (h : StF w S B pm pd mf md s A D Fm Fd l) (i : Nat) (h0 : i ≠ 0) (hi9 : i < A.now.length) (hc : ctN A.now i = 1) (x : NdV) (y : Nd) (hg : getA i l = some (x, y)) (hy : y.Ok) (hk : y.k ≠ 1) (hlen : l.length ≤ 9000) (key v : Nat) (hks : y.keys = [key]) (hvs : y.vals = [v]) :
  Calls Tryz.prog 32 #[.pointer (some ⟨S, 0, none⟩), .int .u32 (i : Int), .int .u64 (key : Int)] w (Del1P w S B pm pd mf md s A D Fm Fd l i v) := by
 have hm9 := h.st.mok.max
 have hfi : findI y.keys key = 0 := by rw [hks]; simp [findI]
 have hf : y.keys[findI y.keys key]? = some key := by rw [hfi, hks]; rfl
 have hv : y.vals[findI y.keys key]? = some v := by rw [hfi, hvs]; rfl
 have hat : y.at_ key = some v := by unfold Nd.at_; rw [if_pos hf]; exact hv
 have CG : Calls Tryz.prog 30 #[.pointer (some ⟨S, 0, none⟩), .int .u32 (i : Int), .int .u64 (key : Int)] w fun e w' => e = .returned (.tuple #[.int .u64 (v : Int), .bool true, .int .i64 0]) ∧ Below w.heap.size w w' := (tget_leaf h i h0 hi9 (by omega) x y hg hy hk key).mono fun e w' hp => by
  unfold GetP at hp
  rw [hat] at hp
  exact hp
 have CD : Hid (∀ X, Below w.heap.size w X → Calls Tryz.prog 89 #[.pointer (some ⟨S, 0, none⟩), .int .u32 (i : Int), .int .u64 (key : Int), .int .i64 0] X fun e w' => ∃ x1, e = .returned (.tuple #[.agg #[.int .u32 (i : Int), .int .u32 0, .int .u64 0, .int .u64 0, .int .u64 (v : Int), .bool true], .int .i64 0, .int .i64 0]) ∧ StF w' S B pm pd mf md s A D Fm Fd (putA i (x1, y.cut 0) l) ∧ Mods [mf] X w') := Lib.hid (fun X hX => (tdrop_leaf (h.below hX) i h0 hi9 hc x y hg hy hk (by omega) key v hf hv).mono fun e w' hp => by
  obtain ⟨x1, he, h1, h2, _⟩ := hp
  rw [hfi] at he h1
  refine ⟨x1, ?_, h1, h2⟩
  rw [he]
  have e1 : (y.cut 0).keys = [] := by show y.keys.eraseIdx 0 = []; rw [hks]; rfl
  rw [e1, hks]
  rfl)
 have HLT := Lib.hid h.lt
 have HPR := Lib.hid (And.intro h0 (And.intro hi9 (And.intro hc hlen)))
 have HCL : Hid ((y.cut 0).keys.length ≤ 1000 ∧ (y.cut 0).vals.length ≤ 1000) := Lib.hid (by
  constructor
  ·show (y.keys.eraseIdx 0).length ≤ 1000; rw [hks]; exact Nat.zero_le _
  ·show (y.vals.eraseIdx 0).length ≤ 1000; rw [hvs]; exact Nat.zero_le _)
 clear h hi9 hc hlen hf hv hat hfi hg hy hk hks hvs
 go_enter Tryz.func32, Tryz.ntmps32
 go_wp2_with fail
 refine CG.mono ?_
 rintro e w1 ⟨rfl, hb1⟩
 have C := CD.out w1 hb1
 have HB1 := Lib.hid hb1
 clear CG CD hb1
 dsimp only
 go_wp2_with fail
 refine C.mono ?_
 rintro e w2 ⟨x1, rfl, hst, hms⟩
 have HS2 := Lib.hid hst
 have HM2 : Hid (Mods (mf :: Fm) w w2) := Lib.hid ((Mods.of_below HB1.out).trans hms (fun k hk => .inl (by rw [List.mem_singleton.1 hk]; exact List.mem_cons_self ..)))
 clear C hst hms
 dsimp only
 go_upto_region 7 with fail
 obtain ⟨w3, hw3⟩ : ∃ W, w2.alloc (.cells #[.int .u32 (i : Int), .int .u32 0, .int .u64 0, .int .u64 0, .int .u64 (v : Int), .bool true] 136) = W := ⟨_, rfl⟩
 rw [hw3]
 have hb3 : Below w2.heap.size w2 w3 := by rw [← hw3]; exact balloc (Below.refl _ _) _
 have hx3 : w3.heap[w2.heap.size]? = some (.cells #[.int .u32 (i : Int), .int .u32 0, .int .u64 0, .int .u64 0, .int .u64 (v : Int), .bool true] 136 (0, 0)) := by rw [← hw3]; exact heap_alloc_new _ _
 have HX3 := Lib.hid hx3
 have HS3 := Lib.hid (HS2.out.below hb3)
 have HM3 := Lib.hid (HM2.out.thenBelow hb3)
 have HGQ : Hid (w.heap.size ≤ w2.heap.size) := Lib.hid HM2.out.size
 obtain ⟨g, hg⟩ : ∃ g, w2.heap.size = g := ⟨_, rfl⟩
 rw [hg] at HX3 HGQ ⊢
 have CN := snode_in HS3.out i h0 HPR.out.2.1 (by rw [HPR.out.2.2.1]; decide) x1 (y.cut 0) (getA_put i (x1, y.cut 0) l) HCL.out.1 HCL.out.2
 have t0 := cellOf HX3.out 0 (v := .int .u32 (i : Int)) rfl
 clear hw3 hb3 hx3 hg
 go_wp2_with fail
 refine CN.mono ?_
 rintro e w4 ⟨x2, rfl, hnd, hb4⟩
 obtain ⟨a1, a2, e1, e2, e3⟩ := ndA_eq x2
 rw [e1]
 clear e1 e2 e3 hnd
 obtain ⟨kd, hkd⟩ : ∃ z, x2.k = z := ⟨_, rfl⟩
 obtain ⟨bb, hbb⟩ : ∃ z, x2.b = z := ⟨_, rfl⟩
 obtain ⟨n1, hn1⟩ : ∃ z, x2.n1 = z := ⟨_, rfl⟩
 obtain ⟨n2, hn2⟩ : ∃ z, x2.n2 = z := ⟨_, rfl⟩
 obtain ⟨c1, hc1⟩ : ∃ z, x2.c1 = z := ⟨_, rfl⟩
 obtain ⟨c2, hc2⟩ : ∃ z, x2.c2 = z := ⟨_, rfl⟩
 rw [hkd, hbb, hn1, hn2, hc1, hc2]
 clear hkd hbb hn1 hn2 hc1 hc2
 obtain ⟨w5, hw5⟩ : ∃ W, w4.alloc (.cells #[.int .i64 kd, .int .u64 (bb : Int), .slice a1 n1 c1, .slice a2 n2 c2] 40) = W := ⟨_, rfl⟩
 have hb5 : Below w4.heap.size w4 w5 := by rw [← hw5]; exact balloc (Below.refl _ _) _
 have hb35 := bthn hb4 hb5
 have HX5 := Lib.hid ((hb35.block _ (Array.getElem?_eq_some_iff.1 HX3.out).1).trans HX3.out)
 have HS5 := Lib.hid (HS3.out.below hb35)
 have HM5 := Lib.hid (HM3.out.thenBelow hb35)
 clear CN hb4 hb5 hb35 t0
 dsimp only
 go_upto_region 10 with fail
 (try rw [hw5])
 have CF := sfree_in HS5.out i h0 HPR.out.2.1 HPR.out.2.2.1 x1 (y.cut 0) (getA_put i (x1, y.cut 0) l)
 have t0 := cellOf HX5.out 0 (v := .int .u32 (i : Int)) rfl
 clear hw5
 go_wp2_with fail
 refine CF.mono ?_
 rintro e w6 ⟨rfl, hst, hms⟩
 rw [delA_put] at hst
 have HX6 := Lib.hid ((hms.block _ (Array.getElem?_eq_some_iff.1 HX5.out).1 (fun hh => by
  have h1 : g < w.heap.size := HLT.out g (by
   rcases List.mem_cons.1 hh with rfl | hh
   ·simp [stF]
   ·simp [stF, hh])
  have := HGQ.out
  omega)).trans HX5.out)
 have HS6 := Lib.hid hst
 have HM6 : Hid (Mods (mf :: Fm) w w6) := Lib.hid (HM5.out.trans hms (fun k hk => .inl hk))
 clear CF hst hms t0
 have t0 := cellOf HX6.out 0 (v := .int .u32 (i : Int)) rfl
 have f0 := frozenOf HX6.out 0
 go_upto_region 17 with fail
 clear t0 f0
 obtain ⟨w7, hw7⟩ : ∃ W, w6.setCell ⟨g, 0, none⟩ (.int .u32 0) = W := ⟨_, rfl⟩
 rw [hw7]
 have HX7 : Hid (w7.heap[g]? = some (.cells #[.int .u32 0, .int .u32 0, .int .u64 0, .int .u64 0, .int .u64 (v : Int), .bool true] 136 (0, 0))) := Lib.hid (by rw [← hw7]; exact setOf HX6.out 0 _)
 have hm7 : Mods [g] w6 w7 := by rw [← hw7]; exact (Mods.refl _ _).setCell (p := ⟨g, 0, none⟩) (List.mem_singleton.2 rfl) _
 have HGL : Hid (∀ k ∈ stF S mf md Fm Fd, k ∉ [g]) := Lib.hid (fun k hk hh => by
  have := HLT.out k hk
  have := HGQ.out
  have := List.mem_singleton.1 hh
  omega)
 have HS6 := Lib.hid (HS6.out.other hm7 HGL.out (fun p hp k hk hh => by
  have e := List.mem_singleton.1 hh
  subst e
  have h1 := (HS6.out.nd p hp)
  rcases List.mem_append.1 hk with h2 | h2
  ·exact ob_tag h1.r1 HX6.out (by decide) h2
  ·exact ob_tag h1.r2 HX6.out (by decide) h2))
 have HM6 : Hid (Mods (mf :: Fm) w w7) := Lib.hid (HM6.out.trans hm7 (fun k hk => .inr (by rw [List.mem_singleton.1 hk]; exact HGQ.out)))
 clear hw7 hm7
 go_upto_region 19 with fail
 have HSS : Hid (∀ X, Below w7.heap.size w7 X → (X.cell? ⟨g, 0, none⟩ = some (.int .u32 0) ∧ X.cell? ⟨g, 4, none⟩ = some (.int .u64 (v : Int)) ∧ X.cell? ⟨g, 5, none⟩ = some (.bool true)) ∧ Below w7.heap.size w7 X) := Lib.hid (fun X hb => ⟨⟨(World.cell?_of_block (hb.block _ ((Array.getElem?_eq_some_iff.1 HX7.out).1))).trans (cellOf HX7.out 0 rfl), (World.cell?_of_block (hb.block _ ((Array.getElem?_eq_some_iff.1 HX7.out).1))).trans (cellOf HX7.out 4 rfl), (World.cell?_of_block (hb.block _ ((Array.getElem?_eq_some_iff.1 HX7.out).1))).trans (cellOf HX7.out 5 rfl)⟩, hb⟩)
 refine wp_region_held_drew (S := fun X => (X.cell? ⟨g, 0, none⟩ = some (.int .u32 0) ∧ X.cell? ⟨g, 4, none⟩ = some (.int .u64 (v : Int)) ∧ X.cell? ⟨g, 5, none⟩ = some (.bool true)) ∧ Below w7.heap.size w7 X) (by kernel_rfl) (HSS.out _ (Below.refl _ _).drew) (fun hHeld => ?_)
 have hbe : Below w7.heap.size w7 w7.drew := (Below.refl _ _).drew
 obtain ⟨wd, hwd⟩ : ∃ y, w7.drew = y := ⟨_, rfl⟩
 rw [hwd] at hHeld hbe ⊢
 have HBE := Lib.hid hbe
 have HS0 : Hid (w7.heap.size ≤ wd.heap.size) := Lib.hid HBE.out.size
 clear hwd hbe
 refine wpAnyH_take (i := 0) (v := ?_) rfl (by kernel_rfl) (by kernel_rfl) (by kernel_rfl) (fun _ _ _ h => h) (Or.inl ⟨by rfl, ?_⟩) (by assumption) ?_
 rotate_left
 ·(intro w hSw; (try dsimp only at hSw); simp only [List.getElem_toArray, List.getElem_cons_zero, List.getElem_cons_succ]; go_simp; first | done | with_reducible rfl)
 simp only [List.getElem_toArray, List.getElem_cons_zero, List.getElem_cons_succ, Act.put, List.setIfInBounds_toArray, List.set_cons_zero, List.set_cons_succ]
 refine wpAnyH_take (i := 2) (v := ?_) rfl (by kernel_rfl) (by kernel_rfl) (by kernel_rfl) (fun _ _ _ h => h) (Or.inl ⟨by rfl, ?_⟩) (by assumption) ?_
 rotate_left
 ·(intro w hSw; (try dsimp only at hSw); simp only [List.getElem_toArray, List.getElem_cons_zero, List.getElem_cons_succ]; go_simp; first | done | with_reducible rfl)
 simp only [List.getElem_toArray, List.getElem_cons_zero, List.getElem_cons_succ, Act.put, List.setIfInBounds_toArray, List.set_cons_zero, List.set_cons_succ]
 refine wpAnyH_take (i := 4) (v := ?_) rfl (by kernel_rfl) (by kernel_rfl) (by kernel_rfl) (fun _ _ _ h => h) (Or.inl ⟨by rfl, ?_⟩) (by assumption) ?_
 rotate_left
 ·(intro w hSw; (try dsimp only at hSw); simp only [List.getElem_toArray, List.getElem_cons_zero, List.getElem_cons_succ]; go_simp; first | done | with_reducible rfl)
 simp only [List.getElem_toArray, List.getElem_cons_zero, List.getElem_cons_succ, Act.put, List.setIfInBounds_toArray, List.set_cons_zero, List.set_cons_succ]
 refine wpAnyH_take (i := 1) (v := ?_) rfl (by kernel_rfl) (by kernel_rfl) (by kernel_rfl) (fun _ _ _ h => h) (Or.inl ⟨by rfl, ?_⟩) (by assumption) ?_
 rotate_left
 ·(intro w hSw; (try dsimp only at hSw); simp only [List.getElem_toArray, List.getElem_cons_zero, List.getElem_cons_succ]; go_simp; first | done | with_reducible rfl)
 simp only [List.getElem_toArray, List.getElem_cons_zero, List.getElem_cons_succ, Act.put, List.setIfInBounds_toArray, List.set_cons_zero, List.set_cons_succ]
 refine wpAnyH_take (i := 3) (v := ?_) rfl (by kernel_rfl) (by kernel_rfl) (by kernel_rfl) (fun _ _ _ h => h) (Or.inl ⟨by rfl, ?_⟩) (by assumption) ?_
 rotate_left
 ·(intro w hSw; (try dsimp only at hSw); simp only [List.getElem_toArray, List.getElem_cons_zero, List.getElem_cons_succ]; go_simp; first | done | with_reducible rfl)
 simp only [List.getElem_toArray, List.getElem_cons_zero, List.getElem_cons_succ, Act.put, List.setIfInBounds_toArray, List.set_cons_zero, List.set_cons_succ]
 refine wpAnyH_take (i := 5) (v := ?_) rfl (by kernel_rfl) (by kernel_rfl) (by kernel_rfl) (fun _ _ _ h => h) (Or.inl ⟨by rfl, ?_⟩) (by assumption) ?_
 rotate_left
 ·(intro w hSw; (try dsimp only at hSw); simp only [List.getElem_toArray, List.getElem_cons_zero, List.getElem_cons_succ]; go_simp; first | done | with_reducible rfl)
 simp only [List.getElem_toArray, List.getElem_cons_zero, List.getElem_cons_succ, Act.put, List.setIfInBounds_toArray, List.set_cons_zero, List.set_cons_succ]
 refine wpAnyH_take (i := 6) (v := ?_) rfl (by kernel_rfl) (by kernel_rfl) (by kernel_rfl) (fun _ _ _ h => h) (Or.inl ⟨by rfl, ?_⟩) (by assumption) ?_
 rotate_left
 ·(intro w hSw; (try dsimp only at hSw); simp only [List.getElem_toArray, List.getElem_cons_zero, List.getElem_cons_succ]; go_simp; first | done | with_reducible rfl)
 simp only [List.getElem_toArray, List.getElem_cons_zero, List.getElem_cons_succ, Act.put, List.setIfInBounds_toArray, List.set_cons_zero, List.set_cons_succ]
 refine wpAnyH_take (i := 7) (v := ?_) rfl (by kernel_rfl) (by kernel_rfl) (by kernel_rfl) (fun _ _ _ h => h) (Or.inl ⟨by rfl, ?_⟩) (by assumption) ?_
 rotate_left
 ·(intro w hSw; (try dsimp only at hSw); simp only [List.getElem_toArray, List.getElem_cons_zero, List.getElem_cons_succ]; go_simp; first | done | with_reducible rfl)
 simp only [List.getElem_toArray, List.getElem_cons_zero, List.getElem_cons_succ, Act.put, List.setIfInBounds_toArray, List.set_cons_zero, List.set_cons_succ]
 refine wpAnyH_take (i := 8) (v := ?_) rfl (by kernel_rfl) (by kernel_rfl) (by kernel_rfl) (fun _ _ _ h => h) (Or.inl ⟨by rfl, ?_⟩) (by assumption) ?_
 rotate_left
 ·(intro w hSw; (try dsimp only at hSw); simp only [List.getElem_toArray, List.getElem_cons_zero, List.getElem_cons_succ]; go_simp; first | done | with_reducible rfl)
 simp only [List.getElem_toArray, List.getElem_cons_zero, List.getElem_cons_succ, Act.put, List.setIfInBounds_toArray, List.set_cons_zero, List.set_cons_succ]
 refine wpAnyH_take (i := 9) (v := ?_) rfl (by kernel_rfl) (by kernel_rfl) (by kernel_rfl) (fun _ _ _ h => h) (Or.inl ⟨by rfl, ?_⟩) (by assumption) ?_
 rotate_left
 ·(intro w hSw; (try dsimp only at hSw); simp only [List.getElem_toArray, List.getElem_cons_zero, List.getElem_cons_succ]; go_simp; first | done | with_reducible rfl)
 simp only [List.getElem_toArray, List.getElem_cons_zero, List.getElem_cons_succ, Act.put, List.setIfInBounds_toArray, List.set_cons_zero, List.set_cons_succ]
 refine wpAnyH_done (by kernel_rfl) ?_ _
 have HEND := Lib.hid hHeld.2
 have HSE := Lib.hid hHeld.1
 clear hHeld
 clear HSS HSE HEND
 go_wp2_with fail
 refine bodyPost_ret (results_tmp4 rfl _ _ _) rfl ?_
 exact ⟨rfl, HS6.out.below HBE.out, HM6.out.thenBelow HBE.out⟩
end Go.Proofs.YtcdobdjemlaaaaaGreat
/- The law's store of layer 9 (Made); its known, walked. -/
namespace Go.Proofs.YtcdobdjemlaaaaaGreat
open Go.RowKit Go.Maps Wire
set_option linter.unusedVariables false
set_option linter.unusedSimpArgs false
theorem ia_cells {w : World} {p : Nat} {A : M} {F : List Nat} (h : IA w p A F) : ∀ k ∈ F, ∃ cs t, w.heap[k]? = some (.cells cs t (0, 0)) ∧ t ≠ 34 := by
 obtain ⟨g1, g2, c1, c2, rfl, h⟩ := h
 intro k hk
 simp only [List.mem_cons, List.not_mem_nil, or_false] at hk
 rcases hk with rfl | rfl | rfl
 ·exact ⟨_, _, h.here, by decide⟩
 ·obtain ⟨cs, hh, _⟩ := h.r1
  exact ⟨_, _, hh, by decide⟩
 ·obtain ⟨cs, hh, _⟩ := h.r2
  exact ⟨_, _, hh, by decide⟩
theorem mapL_at0 {α : Type} {P : Program} {k : TypeId} {R : Value → Option (DataW Unit × List MemPlace)} {q : IntKind} {f : α → DataW Unit} {X w' : World} {b : Nat} {F : List Nat} (h : X.heap[b]? = some (.map #[] 0)) (hm : Mods F X w') (hb : b ∉ F) : MapL w' P k R q f b ([] : List (Nat × α)) := by
 obtain ⟨es, clock, h1, h2⟩ := mapL_new X P k R q f
 have e := heap_alloc_new X (.map #[] 0)
 have e2 : some (Obj.map es clock) = some (.map #[] 0) := h1.symm.trans e
 obtain ⟨rfl, rfl⟩ := Obj.map.inj (Option.some.inj e2)
 exact ⟨#[], 0, (hm.block _ (Array.getElem?_eq_some_iff.1 h).1 hb).trans h, h2⟩
theorem stF_new {w : World} {S B pm pd mf md : Nat} {s : Su} {A D : M} {Fm Fd : List Nat} (h1 : StB w S B pm pd mf md s A D Fm Fd false) (h2 : w.heap[mf]? = some (.map #[] 0)) (h3 : w.heap[md]? = some (.map #[] 0)) (h4 : mf ≠ md) (h5 : ∀ k ∈ Fd, k ∉ Fm) : StF w S B pm pd mf md s A D Fm Fd [] := by
 have hm : ∀ k ∈ Fm, (∃ cs t, w.heap[k]? = some (.cells cs t (0, 0)) ∧ t ≠ 34) := ia_cells h1.ma
 have hd : ∀ k ∈ Fd, (∃ cs t, w.heap[k]? = some (.cells cs t (0, 0)) ∧ t ≠ 34) := ia_cells h1.da
 have hF : ∀ k ∈ Fm ++ Fd, (∃ cs t, w.heap[k]? = some (.cells cs t (0, 0)) ∧ t ≠ 34) := fun k hk => by
  rcases List.mem_append.1 hk with h | h
  ·exact hm k h
  ·exact hd k h
 have hmap : ∀ q, w.heap[q]? = some (.map #[] 0) → q ∉ Fm ++ Fd := fun q hq hk => by
  obtain ⟨cs, t, e, _⟩ := hF q hk
  rw [hq] at e
  cases e
 refine ⟨h1, mapL_at0 h2 (Mods.refl [] w) (by simp), fun p hp => (by simp at hp), fun p hp => (by simp at hp), (Array.getElem?_eq_some_iff.1 h3).1, ?_, ?_, h5⟩
 ·intro hk
  have hb := h1.box
  rcases List.mem_cons.1 hk with e | hk
  ·rw [e, h2] at hb; cases hb
  ·rcases List.mem_cons.1 hk with e | hk
   ·rw [e, h3] at hb; cases hb
   ·obtain ⟨cs, t, e, hne⟩ := hF S hk
    rw [hb] at e
    cases e
    exact hne rfl
 ·intro hk
  rcases List.mem_cons.1 hk with e | hk
  ·exact h4 e
  ·exact hmap mf h2 hk
def su9 : Su := suF 200 60 (pagesN 200 + pagesN 60)
def ar9 : M := ⟨ctK 200 (pagesN 200 + pagesN 60), ctK 200 (pagesN 200 + pagesN 60), 0, 0⟩
def dr9 : M := ⟨List.replicate 60 0, List.replicate 60 0, 0, 0⟩
/-- A store just made. -/
def Made9 (w : World) (e : Ending) (w' : World) : Prop := ∃ S B pm pd mf md Fm Fd, e = .returned (pt S) ∧ StF w' S B pm pd mf md su9 ar9 dr9 Fm Fd [] ∧ Below w.heap.size w w' ∧ ∀ k ∈ stF S mf md Fm Fd, w.heap.size ≤ k
theorem mk9 : MkOk 1048 200 60 := by constructor <;> decide
set_option maxRecDepth 100000 in
set_option maxHeartbeats 3200000 in
theorem made09_at (w : World) : Calls Tryz.prog 35 #[] w (Made9 w) := by
 have CN := dknew_at w 1048 (by decide) (by decide)
 have CF : Hid (∀ w1 B iv, DkAt w.heap.size w1 B iv (.slice none 0 0) (dk0 1048) → Below w.heap.size w w1 → Calls Tryz.prog 28 #[.pointer (some ⟨B, 0, none⟩), .int .i64 200, .int .i64 60] w1 fun e w' => e = .returned (.int .i64 0) ∧ MadeP w 1048 200 60 B w') := Lib.hid (fun w1 B iv h1 h2 => fmt_call w w1 1048 200 60 B iv mk9 (by decide) h1 h2)
 have CO : Hid (∀ X B, MadeP w 1048 200 60 B X → Calls Tryz.prog 27 #[.pointer (some ⟨B, 0, none⟩)] X (OpenP w X B 200 60)) := Lib.hid (fun X B hX => open_call w X _ 200 60 B mk9 (by decide) hX)
 go_enter Tryz.func35, Tryz.ntmps35
 go_wp2_with fail
 refine CN.mono ?_
 rintro e w1 ⟨B, iv, rfl, hd, hb⟩
 dsimp only
 have C := CF.out w1 B iv hd hb
 clear CN hd hb
 go_wp2_with fail
 refine C.mono ?_
 rintro e w2 ⟨rfl, hm⟩
 have HM := Lib.hid hm
 clear C hm
 have C := CO.out w2 B HM.out
 go_wp2_with fail
 refine C.mono ?_
 rintro e w3 ⟨S, pm, pd, mf, md, Fm, Fd, rfl, h1, h2, h3, h4, h5, h6, h7, h8, h9, h10, h11⟩
 have HB2 : Hid (Below w.heap.size w w2) := Lib.hid HM.out.2
 have HX : Hid (Made9 w (.returned (pt S)) w3) := Lib.hid ⟨S, B, pm, pd, mf, md, Fm, Fd, rfl, stF_new h1 h2 h3 h4 h11, bthn HB2.out h5, fun k hk => Nat.le_trans HB2.out.size (by
  rcases List.mem_cons.1 hk with rfl | hk
  ·exact h6
  rcases List.mem_cons.1 hk with rfl | hk
  ·exact h7
  rcases List.mem_cons.1 hk with rfl | hk
  ·exact h8
  rcases List.mem_append.1 hk with hk | hk
  ·exact h9 k hk
  ·exact h10 k hk)⟩
 clear C h1 h2 h3 h4 h5 h6 h7 h8 h9 h10 h11
 unfold pt at HX ⊢
 dsimp only
 go_wp2_with fail
 go_ret
 exact HX.out
theorem ok_b {y : Nd} (h : y.Ok) (b : Nat) : Nd.Ok { y with b := b } := ⟨h.k, h.n, h.m, h.up, h.ku, h.vu⟩
theorem ar9_len : ar9.now.length = 200 := by decide +kernel
theorem find9 : find ar9 0 = some 4 := by decide +kernel
theorem ct9 : ctN (allocM ar9 4).now 4 = 1 := by decide +kernel
theorem ar9_len' : (allocM ar9 4).now.length = 200 := by decide +kernel
set_option maxRecDepth 100000 in
set_option maxHeartbeats 6400000 in
theorem known09_at (w : World) : Calls Tryz.prog 37 #[] w fun e w' => e = .returned (.bool true) ∧ Below w.heap.size w w' := by
 have CM := made09_at w
 unfold Made9 pt at CM
 have f9 := find9
 have htx : su9.tx + 1 < 18446744073709551616 := by decide +kernel
 have l9 := ar9_len'
 have c9 := ct9
 have HF9 := Lib.hid (And.intro f9 (And.intro htx (And.intro l9 c9)))
 clear f9 htx l9 c9
 obtain ⟨A9, hA9⟩ : ∃ x, ar9 = x := ⟨_, rfl⟩
 obtain ⟨s9, hs9⟩ : ∃ x, su9 = x := ⟨_, rfl⟩
 rw [hA9, hs9] at CM HF9
 clear hA9 hs9
 go_enter Tryz.func37, Tryz.ntmps37
 go_wp2_with fail
 refine CM.mono ?_
 rintro e w1 ⟨S, B, pm, pd, mf, md, Fm, Fd, rfl, hst, hb, hge⟩
 have HB1 := Lib.hid hb
 have HGE := Lib.hid hge
 have CP := tput_new hst 3 5 9 (.inr rfl) (by decide) (by decide) 4 HF9.out.1 HF9.out.2.1 (by decide)
 clear CM hst hb hge
 go_wp2_with fail
 refine CP.mono ?_
 rintro e w2 ⟨x, rfl, hst, hms, hge⟩
 have HS2 := Lib.hid hst
 have HM2 := Lib.hid hms
 have HG2 := Lib.hid hge
 clear CP hst hms hge
 dsimp only
 have hok : Nd.Ok ⟨3, s9.tx + 1, [5], [9]⟩ := ok_b (nd1_ok 3 (.inr rfl) 5 9 (by decide) (by decide)) _
 have CG : Calls Tryz.prog 30 #[.pointer (some ⟨S, 0, none⟩), .int .u32 4, .int .u64 5] w2 fun e w' => e = .returned (.tuple #[.int .u64 9, .bool true, .int .i64 0]) ∧ Below w2.heap.size w2 w' := (tget_leaf HS2.out 4 (by decide) (by rw [HF9.out.2.2.1]; decide) (by rw [HF9.out.2.2.2]; decide) x ⟨3, s9.tx + 1, [5], [9]⟩ (getA_put _ _ _) hok (by show (3 : Int) ≠ 1; decide) 5).mono fun e w' hp => by
  have e1 : Nd.at_ ⟨3, s9.tx + 1, [5], [9]⟩ 5 = some 9 := by simp [Nd.at_, findI]
  unfold GetP at hp
  rw [e1] at hp
  exact hp
 have HOK := Lib.hid hok
 clear hok
 go_wp2_with fail
 refine CG.mono ?_
 rintro e w3 ⟨rfl, hb⟩
 have HS3 := Lib.hid (HS2.out.below hb)
 have HM3 := Lib.hid (HM2.out.thenBelow hb)
 clear CG hb
 dsimp only
 have CD : Calls Tryz.prog 32 #[.pointer (some ⟨S, 0, none⟩), .int .u32 4, .int .u64 5] w3 (Del1P w3 S B pm pd mf md s9 (allocM A9 4) dr9 Fm Fd (putA 4 (x, ⟨3, s9.tx + 1, [5], [9]⟩) []) 4 9) := tdelete_one HS3.out 4 (by decide) (by rw [HF9.out.2.2.1]; decide) HF9.out.2.2.2 x ⟨3, s9.tx + 1, [5], [9]⟩ (getA_put _ _ _) HOK.out (by show (3 : Int) ≠ 1; decide) (Nat.le_trans (putA_len _ _ _) (by decide)) 5 9 rfl rfl
 unfold Del1P at CD
 go_wp2_with fail
 refine CD.mono ?_
 rintro e w4 ⟨rfl, hst, hms⟩
 have HB4 : Hid (Below w.heap.size w w4) := Lib.hid (((Mods.of_below HB1.out).trans (HM3.out.trans hms (fun k hk => .inl hk)) (fun k hk => .inr (by
  rcases List.mem_cons.1 hk with rfl | hk
  ·exact HGE.out _ (by simp [stF])
  ·exact HGE.out _ (by simp [stF, hk])))).below (F := []) (fun k hk => by simp at hk) (Nat.le_refl _))
 clear CD hst hms
 dsimp only
 go_wp2_with fail
 go_ret
 exact ⟨rfl, HB4.out⟩
end Go.Proofs.YtcdobdjemlaaaaaGreat
