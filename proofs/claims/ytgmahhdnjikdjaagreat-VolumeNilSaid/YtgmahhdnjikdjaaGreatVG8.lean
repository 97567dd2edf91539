import Derived.ArgAppend
import Derived.Test.YtgmahhdnjikdjaaGreatVG7
import Derived.Lib.BufferWrite
set_option linter.unusedVariables false
set_option linter.unusedSimpArgs false
/- super: May, walked. -/
namespace Go.Proofs.YtgmahhdnjikdjaaGreat
open Go.RowKit Wire
set_option linter.unusedVariables false
set_option linter.unusedSimpArgs false
set_option maxRecDepth 100000 in
set_option maxHeartbeats 3200000 in
theorem smay_no (w : World) (s : Su) (h : s.mt < 16) : Calls Tryz.prog 89 #[suV s] w fun e w' => e = .returned (.bool false) ∧ Below w.heap.size w w' := by
 obtain ⟨tx, mt, dt, pg, tp, bs, sg, cu, ep, la, sq, bl, bq, mk⟩ := s
 dsimp only at h
 unfold suV suC
 dsimp only
 obtain ⟨p0, hp0⟩ : ∃ x, pg.getD 0 0 = x := ⟨_, rfl⟩
 obtain ⟨p1, hp1⟩ : ∃ x, pg.getD 1 0 = x := ⟨_, rfl⟩
 obtain ⟨p2, hp2⟩ : ∃ x, pg.getD 2 0 = x := ⟨_, rfl⟩
 obtain ⟨p3, hp3⟩ : ∃ x, pg.getD 3 0 = x := ⟨_, rfl⟩
 obtain ⟨p4, hp4⟩ : ∃ x, pg.getD 4 0 = x := ⟨_, rfl⟩
 obtain ⟨p5, hp5⟩ : ∃ x, pg.getD 5 0 = x := ⟨_, rfl⟩
 rw [hp0, hp1, hp2, hp3, hp4, hp5]
 clear hp0 hp1 hp2 hp3 hp4 hp5
 obtain ⟨wa, hwa⟩ : ∃ W, w.alloc (.cells #[.int .u64 (tx : Int), .int .i64 mt, .int .i64 dt, .int .u32 (p0 : Int), .int .u32 (p1 : Int), .int .u32 (p2 : Int), .int .u32 (p3 : Int), .int .u32 (p4 : Int), .int .u32 (p5 : Int), .int .u32 (tp : Int), .int .u32 (bs : Int), .int .u32 (sg : Int), .int .i64 cu, .int .u64 (ep : Int), .int .u64 (la : Int), .int .u64 (sq : Int), .int .u64 (bl : Int), .int .u64 (bq : Int), .bool mk] 72) = W := ⟨_, rfl⟩
 have hba : Below w.heap.size w wa := by rw [← hwa]; exact balloc (Below.refl _ _) _
 have hxa : wa.heap[w.heap.size]? = some (.cells #[.int .u64 (tx : Int), .int .i64 mt, .int .i64 dt, .int .u32 (p0 : Int), .int .u32 (p1 : Int), .int .u32 (p2 : Int), .int .u32 (p3 : Int), .int .u32 (p4 : Int), .int .u32 (p5 : Int), .int .u32 (tp : Int), .int .u32 (bs : Int), .int .u32 (sg : Int), .int .i64 cu, .int .u64 (ep : Int), .int .u64 (la : Int), .int .u64 (sq : Int), .int .u64 (bl : Int), .int .u64 (bq : Int), .bool mk] 72 (0, 0)) := by rw [← hwa]; exact heap_alloc_new _ _
 have HBA := Lib.hid hba
 have c1 := cellOf hxa 1 (v := .int .i64 mt) rfl
 clear hba hxa
 go_enter Tryz.func89, Tryz.ntmps89
 go_upto_region 1 with fail
 (try rw [hwa])
 clear hwa
 go_wp2_with fail
 go_ret
 exact ⟨rfl, HBA.out⟩
theorem wp_app_arg {P : Program} {o : Oper} {a : Act} {K : Act → World → Prop} {Q : Exit → Act → World → Prop} {w : World} (s x : Operand) (t : TypeId)
  (ho : o.op = .call { callee := .builtin .append, args := #[s, x], argTypes := #[t, t] })
  (e : TypeId) (z : Value) (size bytes : Nat) (ht : P.underlying t = some (.slice e)) (hinfo : (P.info? e).map (fun i => (i.zero, i.size, i.bytes)) = some (some z, size, bytes))
  (hzs : z.cells.size = size) (hsz : 0 < size) (b : Addr) (n cap : Nat) (olds : List Value) (hs : a.eval s = .slice (some b) n cap) (hlo : olds.length = n * size) (holds : ∀ j u, olds[j]? = some u → w.cell? (b.add j) = some u)
  (c : Addr) (m cc : Nat) (news : List Value) (hx : a.eval x = .slice (some c) m cc) (hl : news.length = m * size) (hnews : ∀ j u, news[j]? = some u → w.cell? (c.add j) = some u)
  (hg : cap < n + m) (h63 : n + m ≤ maxLen) (hbytes : (n + m) * bytes ≤ 140737488355328)
  (h : ∀ v' w', w'.ownsRow w.heap.size e size v' (n + m) (olds ++ news) → Below w.heap.size w w' → K (a.put o.dst v') w') : o.wp P a w K Q := by
 obtain ⟨i0, hi, hz0, hz1, hz2⟩ := info_parts hinfo
 obtain ⟨v', w', hr, ho', hg'⟩ := run_append_arg_grows (P := P) w t o.type e i0 z size bytes ht hi hz0 hz1 hz2 hzs hsz b n cap olds hlo holds c m cc news hl hnews hg h63 hbytes
 exact Lib.wp_append_run w s x t t ho _ _ hs hx v' w' hr (h v' w' ho' ((Below.refl _ _).grown hg' (Nat.le_refl _) (fun _ h => by cases h)))
theorem infoU32 : (Tryz.prog.info? 22).map (fun i => (i.zero, i.size, i.bytes)) = some (some (.int .u32 0), 1, 4) := by kernel_rfl
def uV (l : List Nat) : List Value := l.map fun n => .int .u32 ((n : Nat) : Int)
theorem run_slice6 (g : Nat) : ∀ W, (Instr.sliceAt 68 (.pointer (some ⟨g, 3, none⟩)) none (some (.int .i64 6)) (some (.int .i64 6))).run Tryz.prog W = .ok (.slice (some ⟨g, 3, none⟩) 6 6) W := fun W => by
 have hl : Tryz.prog.arrayLen 68 = 6 := by kernel_rfl
 have hs : ∀ W, (sizeOf (Tryz.prog.elem 68)).run Tryz.prog W = .ok 1 W := fun W => by kernel_rfl
 rw [run_sliceAt_array_hm (P := Tryz.prog) W 68 ⟨g, 3, none⟩ (by kernel_rfl) .i64 .i64 6 6 (by omega) (by omega) (by rw [hl]; omega), hs]
 simp [Result.andThen_ok, slicedAt, Addr.add_lit]
theorem six_at {tx : Nat} {mt dt cu : Int} {p0 p1 p2 p3 p4 p5 tp bs sg ep la sq bl bq : Nat} {mk : Bool} {j : Nat} {u : Value} (h : (uV [p0, p1, p2, p3, p4, p5])[j]? = some u) : (suC tx mt dt p0 p1 p2 p3 p4 p5 tp bs sg cu ep la sq bl bq mk)[3 + j]? = some u := by
 have hj : j < 6 := (List.getElem?_eq_some_iff.1 h).1
 rcases (show j = 0 ∨ j = 1 ∨ j = 2 ∨ j = 3 ∨ j = 4 ∨ j = 5 by omega) with rfl | rfl | rfl | rfl | rfl | rfl <;> (obtain rfl := Option.some.inj h; rfl)
theorem nine_at {a b : List Nat} {cur : Array Value} {n : Nat} (h : cur.toList.take n = uV a ++ uV b) : ∀ (j : Nat) (u : Value), (uV (a ++ b))[j]? = some u → cur[j]? = some u := fun j u hj => by
 rw [show uV (a ++ b) = uV a ++ uV b by unfold uV; rw [List.map_append], ← h, List.getElem?_take] at hj
 split at hj
 ·simpa using hj
 ·cases hj
set_option maxRecDepth 100000 in
set_option maxHeartbeats 6400000 in
theorem smay_yes (w : World) (s : Su) (hw : s.Wf) (hm : s.May) : Calls Tryz.prog 89 #[suV s] w fun e w' => e = .returned (.bool true) ∧ Below w.heap.size w w' := by
 obtain ⟨tx, mt, dt, pg, tp, bs, sg, cu, ep, la, sq, bl, bq, mk⟩ := s
 obtain ⟨w1, w2, w3, w4, w5, w6, w7, w8, w9, w10, w11⟩ := hw
 obtain ⟨m1, m2, m3, m4, m5, m6, m7, m8, m9⟩ := hm
 dsimp only at w1 w2 w3 w4 w5 w6 w7 w8 w9 w10 w11 m1 m2 m3 m4 m5 m6 m7 m8 m9
 obtain ⟨p0, p1, p2, p3, p4, p5, hp⟩ : ∃ a b c d e f, pg = [a, b, c, d, e, f] := by
  match hs : pg, w2 with
  | [a, b, c, d, e, f], _ => exact ⟨a, b, c, d, e, f, rfl⟩
 subst hp
 obtain ⟨mn, rfl⟩ : ∃ n : Nat, mt = (n : Int) := ⟨mt.toNat, by omega⟩
 obtain ⟨dn, rfl⟩ : ∃ n : Nat, dt = (n : Int) := ⟨dt.toNat, by omega⟩
 obtain ⟨cn, rfl⟩ : ∃ n : Nat, cu = (n : Int) := ⟨cu.toNat, by omega⟩
 have HMM : Hid (∀ n ∈ [p0, p1, p2, p3, p4, p5, tp, bs, sg], (n : Int) < (mn : Int)) := Lib.hid m9
 clear w2 w3 m9
 show Calls _ _ #[.agg #[.int .u64 (tx : Int), .int .i64 (mn : Int), .int .i64 (dn : Int), .int .u32 (p0 : Int), .int .u32 (p1 : Int), .int .u32 (p2 : Int), .int .u32 (p3 : Int), .int .u32 (p4 : Int), .int .u32 (p5 : Int), .int .u32 (tp : Int), .int .u32 (bs : Int), .int .u32 (sg : Int), .int .i64 (cn : Int), .int .u64 (ep : Int), .int .u64 (la : Int), .int .u64 (sq : Int), .int .u64 (bl : Int), .int .u64 (bq : Int), .bool mk]] w _
 obtain ⟨wa, hwa⟩ : ∃ W, w.alloc (.cells #[.int .u64 (tx : Int), .int .i64 (mn : Int), .int .i64 (dn : Int), .int .u32 (p0 : Int), .int .u32 (p1 : Int), .int .u32 (p2 : Int), .int .u32 (p3 : Int), .int .u32 (p4 : Int), .int .u32 (p5 : Int), .int .u32 (tp : Int), .int .u32 (bs : Int), .int .u32 (sg : Int), .int .i64 (cn : Int), .int .u64 (ep : Int), .int .u64 (la : Int), .int .u64 (sq : Int), .int .u64 (bl : Int), .int .u64 (bq : Int), .bool mk] 72) = W := ⟨_, rfl⟩
 have hba : Below w.heap.size w wa := by rw [← hwa]; exact balloc (Below.refl _ _) _
 have hxa : wa.heap[w.heap.size]? = some (.cells #[.int .u64 (tx : Int), .int .i64 (mn : Int), .int .i64 (dn : Int), .int .u32 (p0 : Int), .int .u32 (p1 : Int), .int .u32 (p2 : Int), .int .u32 (p3 : Int), .int .u32 (p4 : Int), .int .u32 (p5 : Int), .int .u32 (tp : Int), .int .u32 (bs : Int), .int .u32 (sg : Int), .int .i64 (cn : Int), .int .u64 (ep : Int), .int .u64 (la : Int), .int .u64 (sq : Int), .int .u64 (bl : Int), .int .u64 (bq : Int), .bool mk] 72 (0, 0)) := by rw [← hwa]; exact heap_alloc_new _ _
 have HCS : Hid (∀ X, Below wa.heap.size wa X → X.heap[w.heap.size]? = some (.cells #[.int .u64 (tx : Int), .int .i64 (mn : Int), .int .i64 (dn : Int), .int .u32 (p0 : Int), .int .u32 (p1 : Int), .int .u32 (p2 : Int), .int .u32 (p3 : Int), .int .u32 (p4 : Int), .int .u32 (p5 : Int), .int .u32 (tp : Int), .int .u32 (bs : Int), .int .u32 (sg : Int), .int .i64 (cn : Int), .int .u64 (ep : Int), .int .u64 (la : Int), .int .u64 (sq : Int), .int .u64 (bl : Int), .int .u64 (bq : Int), .bool mk] 72 (0, 0))) := Lib.hid (fun X hX => (hX.block _ (Array.getElem?_eq_some_iff.1 hxa).1).trans hxa)
 have HQL : Hid (w.heap.size < wa.heap.size) := Lib.hid (Array.getElem?_eq_some_iff.1 hxa).1
 have HBA := Lib.hid hba
 have c0 := cellOf hxa 0 (v := .int .u64 (tx : Int)) rfl
 have c1 := cellOf hxa 1 (v := .int .i64 (mn : Int)) rfl
 have c2 := cellOf hxa 2 (v := .int .i64 (dn : Int)) rfl
 have c12 := cellOf hxa 12 (v := .int .i64 (cn : Int)) rfl
 have D9 := Lib.hid (cellOf hxa 9 (v := .int .u32 (tp : Int)) rfl)
 have D10 := Lib.hid (cellOf hxa 10 (v := .int .u32 (bs : Int)) rfl)
 have D11 := Lib.hid (cellOf hxa 11 (v := .int .u32 (sg : Int)) rfl)
 clear hba hxa
 go_enter Tryz.func89, Tryz.ntmps89
 go_upto_region 3 with fail
 (try rw [hwa])
 clear hwa c0 c1 c2 c12
 have hsl := run_slice6 w.heap.size
 have HSS : Hid (∀ X, Below wa.heap.size wa X → (X.cell? ⟨w.heap.size, 9, none⟩ = some (.int .u32 (tp : Int)) ∧ X.cell? ⟨w.heap.size, 10, none⟩ = some (.int .u32 (bs : Int)) ∧ X.cell? ⟨w.heap.size, 11, none⟩ = some (.int .u32 (sg : Int))) ∧ Below wa.heap.size wa X) := Lib.hid (fun X hb => ⟨⟨(World.cell?_of_block (hb.block _ (HQL.out))).trans (D9.out), (World.cell?_of_block (hb.block _ (HQL.out))).trans (D10.out), (World.cell?_of_block (hb.block _ (HQL.out))).trans (D11.out)⟩, hb⟩)
 refine wp_region_held_drew (S := fun X => (X.cell? ⟨w.heap.size, 9, none⟩ = some (.int .u32 (tp : Int)) ∧ X.cell? ⟨w.heap.size, 10, none⟩ = some (.int .u32 (bs : Int)) ∧ X.cell? ⟨w.heap.size, 11, none⟩ = some (.int .u32 (sg : Int))) ∧ Below wa.heap.size wa X) (by kernel_rfl) (HSS.out _ (Below.refl _ _).drew) (fun hHeld => ?_)
 have hbe : Below wa.heap.size wa wa.drew := (Below.refl _ _).drew
 obtain ⟨wd, hwd⟩ : ∃ y, wa.drew = y := ⟨_, rfl⟩
 rw [hwd] at hHeld hbe ⊢
 have HBE := Lib.hid hbe
 have HS0 : Hid (wa.heap.size ≤ wd.heap.size) := Lib.hid HBE.out.size
 clear hwd hbe
 refine wpAnyH_take (i := 0) (v := ?_) rfl (by kernel_rfl) (by kernel_rfl) (by kernel_rfl) (fun _ _ _ h => h) (Or.inl ⟨by rfl, ?_⟩) (by assumption) ?_
 rotate_left
 ·(intro w hSw; (try dsimp only at hSw); simp only [List.getElem_toArray, List.getElem_cons_zero, List.getElem_cons_succ]; go_simp; first | done | with_reducible rfl)
 simp only [List.getElem_toArray, List.getElem_cons_zero, List.getElem_cons_succ, Act.put, List.setIfInBounds_toArray, List.set_cons_zero, List.set_cons_succ]
 refine wpAnyH_take (i := 2) (v := ?_) rfl (by kernel_rfl) (by kernel_rfl) (by kernel_rfl) (fun _ _ _ h => h) (Or.inl ⟨by rfl, ?_⟩) (by assumption) ?_
 rotate_left
 ·(intro w hSw; (try dsimp only at hSw); simp only [List.getElem_toArray, List.getElem_cons_zero, List.getElem_cons_succ]; go_simp; first | done | with_reducible rfl)
 simp only [List.getElem_toArray, List.getElem_cons_zero, List.getElem_cons_succ, Act.put, List.setIfInBounds_toArray, List.set_cons_zero, List.set_cons_succ]
 refine wpAnyH_take (i := 4) (v := ?_) rfl (by kernel_rfl) (by kernel_rfl) (by kernel_rfl) (fun _ _ _ h => h) (Or.inl ⟨by rfl, ?_⟩) (by assumption) ?_
 rotate_left
 ·(intro w hSw; (try dsimp only at hSw); simp only [List.getElem_toArray, List.getElem_cons_zero, List.getElem_cons_succ]; go_simp; first | done | with_reducible rfl)
 simp only [List.getElem_toArray, List.getElem_cons_zero, List.getElem_cons_succ, Act.put, List.setIfInBounds_toArray, List.set_cons_zero, List.set_cons_succ]
 refine wpAnyH_take (i := 6) (v := ?_) rfl (by kernel_rfl) (by kernel_rfl) (by kernel_rfl) (fun _ _ _ h => h) (Or.inl ⟨by rfl, ?_⟩) (by assumption) ?_
 rotate_left
 ·(intro w hSw; (try dsimp only at hSw); simp only [List.getElem_toArray, List.getElem_cons_zero, List.getElem_cons_succ]; go_simp; first | done | with_reducible rfl)
 simp only [List.getElem_toArray, List.getElem_cons_zero, List.getElem_cons_succ, Act.put, List.setIfInBounds_toArray, List.set_cons_zero, List.set_cons_succ]
 refine wpAnyH_take (i := 11) (v := ?_) rfl (by kernel_rfl) (by kernel_rfl) (by kernel_rfl) (fun _ _ _ h => h) (Or.inl ⟨by rfl, ?_⟩) (by assumption) ?_
 rotate_left
 ·(intro w hSw; (try dsimp only at hSw); simp only [List.getElem_toArray, List.getElem_cons_zero, List.getElem_cons_succ]; go_simp; first | done | with_reducible rfl)
 simp only [List.getElem_toArray, List.getElem_cons_zero, List.getElem_cons_succ, Act.put, List.setIfInBounds_toArray, List.set_cons_zero, List.set_cons_succ]
 refine wpAnyH_take (i := 1) (v := ?_) rfl (by kernel_rfl) (by kernel_rfl) (by kernel_rfl) (fun _ _ _ h => h) (Or.inl ⟨by rfl, ?_⟩) (by assumption) ?_
 rotate_left
 ·(intro w hSw; (try dsimp only at hSw); simp only [List.getElem_toArray, List.getElem_cons_zero, List.getElem_cons_succ]; go_simp; first | done | with_reducible rfl)
 simp only [List.getElem_toArray, List.getElem_cons_zero, List.getElem_cons_succ, Act.put, List.setIfInBounds_toArray, List.set_cons_zero, List.set_cons_succ]
 refine wpAnyH_take (i := 3) (v := ?_) rfl (by kernel_rfl) (by kernel_rfl) (by kernel_rfl) (fun _ _ _ h => h) (Or.inl ⟨by rfl, ?_⟩) (by assumption) ?_
 rotate_left
 ·(intro w hSw; (try dsimp only at hSw); simp only [List.getElem_toArray, List.getElem_cons_zero, List.getElem_cons_succ]; go_simp; first | done | with_reducible rfl)
 simp only [List.getElem_toArray, List.getElem_cons_zero, List.getElem_cons_succ, Act.put, List.setIfInBounds_toArray, List.set_cons_zero, List.set_cons_succ]
 refine wpAnyH_take (i := 5) (v := ?_) rfl (by kernel_rfl) (by kernel_rfl) (by kernel_rfl) (fun _ _ _ h => h) (Or.inl ⟨by rfl, ?_⟩) (by assumption) ?_
 rotate_left
 ·(intro w hSw; (try dsimp only at hSw); simp only [List.getElem_toArray, List.getElem_cons_zero, List.getElem_cons_succ]; go_simp; first | done | with_reducible rfl)
 simp only [List.getElem_toArray, List.getElem_cons_zero, List.getElem_cons_succ, Act.put, List.setIfInBounds_toArray, List.set_cons_zero, List.set_cons_succ]
 refine wpAnyH_take (i := 7) (v := ?_) rfl (by kernel_rfl) (by kernel_rfl) (by kernel_rfl) (fun _ _ _ h => h) (Or.inl ⟨by rfl, ?_⟩) (by assumption) ?_
 rotate_left
 ·(intro w hSw; (try dsimp only at hSw); simp only [List.getElem_toArray, List.getElem_cons_zero, List.getElem_cons_succ]; go_simp; first | done | with_reducible rfl)
 simp only [List.getElem_toArray, List.getElem_cons_zero, List.getElem_cons_succ, Act.put, List.setIfInBounds_toArray, List.set_cons_zero, List.set_cons_succ]
 refine wpAnyH_ready (rs := [8]) (by kernel_rfl) (by simp) ?_
 refine AllReadyH.cons rfl (fun K hK => ?_) (AllReadyH.nil)
 simp only [List.getElem_toArray, List.getElem_cons_zero, List.getElem_cons_succ]
 go_simp
 obtain ⟨b8, hw8⟩ : ∃ b, wd.heap.size = b := ⟨_, rfl⟩
 obtain ⟨y8, hy8⟩ : ∃ y, wd.alloc (.cells #[.int .u32 (tp : Int), .int .u32 (bs : Int), .int .u32 (sg : Int)] 22) = y := ⟨_, rfl⟩
 rw [hy8, hw8]
 have hx8 : Below wd.heap.size wd y8 := by rw [← hy8]; exact balloc (Below.refl _ _) _
 have HN8 : Hid (y8.heap[b8]? = some (.cells #[.int .u32 (tp : Int), .int .u32 (bs : Int), .int .u32 (sg : Int)] 22 (0, 0))) := Lib.hid (by rw [← hy8, ← hw8]; exact heap_alloc_new _ _)
 have HG8 : Hid (wa.heap.size ≤ b8) := Lib.hid (by have := HBE.out.size; omega)
 clear hy8 hw8
 have HBE := Lib.hid (bthen HBE.out hx8)
 have hSp := HSS.out _ HBE.out
 clear hHeld
 refine hK.out _ _ hSp (fun hHeld => ?_)
 clear hSp hK K
 try simp only [Act.put, List.setIfInBounds_toArray, List.set_cons_zero, List.set_cons_succ]
 clear hx8
 refine wpAnyH_ready (rs := [9]) (by kernel_rfl) (by simp) ?_
 refine AllReadyH.cons rfl (fun K hK => ?_) (AllReadyH.nil)
 simp only [List.getElem_toArray, List.getElem_cons_zero, List.getElem_cons_succ]
 rw [if_pos (by rfl)]
 refine wp_app_arg _ _ 43 rfl 22 (.int .u32 0) 1 4 Tryz.underlying43 infoU32 rfl (by omega) ⟨w.heap.size, 3, none⟩ 6 6 (uV [p0, p1, p2, p3, p4, p5]) (by rfl) rfl (fun j u hj => by rw [Addr.add_lit]; exact cellOf (HCS.out _ HBE.out) (3 + j) (six_at hj)) ⟨b8, 0, none⟩ 3 3 (uV [tp, bs, sg]) (by rfl) rfl (fun j u hj => by rw [Addr.add_lit, Nat.zero_add]; exact cellOf HN8.out j (by simpa [uV] using hj)) (by omega) (by unfold maxLen; omega) (by omega) ?_
 intro v9 w9 ho9 hb9
 refine hK.out _ _ ?_ (fun hHeld => ?_)
 ·exact HSS.out _ (bthn HBE.out hb9)
 clear hK K
 try simp only [Act.put, List.setIfInBounds_toArray, List.set_cons_zero, List.set_cons_succ]
 have HBE := Lib.hid (bthn HBE.out hb9)
 obtain ⟨g9, c9, cur9, hv9, _, _, _, _, hh9, _, ht9⟩ := rowSome ho9 (by omega)
 subst hv9
 have HH9 := Lib.hid hh9
 have HC9 : Hid (∀ (j : Nat) (u : Value), (uV [p0, p1, p2, p3, p4, p5, tp, bs, sg])[j]? = some u → cur9[j]? = some u) := Lib.hid (nine_at ht9)
 clear ho9 hb9 hh9 ht9
 refine wpAnyH_take (i := 10) (v := ?_) rfl (by kernel_rfl) (by kernel_rfl) (by kernel_rfl) (fun _ _ _ h => h) (Or.inl ⟨by rfl, ?_⟩) (by assumption) ?_
 rotate_left
 ·(intro w hSw; (try dsimp only at hSw); simp only [List.getElem_toArray, List.getElem_cons_zero, List.getElem_cons_succ]; go_simp; first | done | with_reducible rfl)
 simp only [List.getElem_toArray, List.getElem_cons_zero, List.getElem_cons_succ, Act.put, List.setIfInBounds_toArray, List.set_cons_zero, List.set_cons_succ]
 refine wpAnyH_done (by kernel_rfl) ?_ _
 have HEND := Lib.hid hHeld.2
 have HSE := Lib.hid hHeld.1
 clear hHeld
 clear HSE HSS HEND
 have HM9 := Lib.hid HBE.out
 have HBW9 : Hid (Below wa.heap.size wa w9) := Lib.hid HBE.out
 have hcx := HCS.out w9 HBW9.out
 have e1 := cellOf hcx 1 (v := .int .i64 (mn : Int)) rfl
 clear hcx HBE
 go_wp2_with fail
 go_loopw [56] (fun v wr => ∃ k : Nat, k ≤ 9 ∧ v = .int .i64 (k : Int) ∧ w9 = wr) (fun v _ => 9 - (Go.RowKit.intOf v).toNat)
 case atStart => exact ⟨0, by omega, rfl, rfl⟩
 case round =>
  obtain ⟨k, hk, rfl, rfl⟩ := hrel
  by_cases hlt : k < 9
  ·obtain ⟨n, hn⟩ : ∃ n, [p0, p1, p2, p3, p4, p5, tp, bs, sg][k]? = some n := ⟨_, List.getElem?_eq_getElem (by simpa using hlt)⟩
   have hnm := HMM.out n (List.mem_of_getElem? hn)
   have hcn := cellOf HH9.out k (HC9.out k _ (by unfold uV; rw [List.getElem?_map, hn]; rfl))
   have hnb : decide ((mn : Int) ≤ (n : Int)) = false := decide_eq_false (by omega)
   clear hn
   go_wp2_with fail
   go_roundw
   case rel => exact ⟨k + 1, by omega, by go_num, trivial⟩
   case measure => simp [Go.RowKit.intOf]; omega
  ·obtain rfl : k = 9 := by omega
   go_wp2_with fail
   go_ret
   exact ⟨rfl, bthn HBA.out HBW9.out⟩
end Go.Proofs.YtgmahhdnjikdjaaGreat
/- super: Block, walked. -/
namespace Go.Proofs.YtgmahhdnjikdjaaGreat
open Go.RowKit Wire
set_option linter.unusedVariables false
set_option linter.unusedSimpArgs false
theorem infoSup : (Tryz.prog.info? 72).map (·.size) = some 19 := by kernel_rfl
theorem suV_list (s : Su) : ∃ L : List Value, suV s = .agg L.toArray ∧ L.length = 19 ∧ ∀ u ∈ L, u.oneCell' = true := ⟨_, rfl, rfl, fun u hu => by
 simp only [List.mem_cons, List.not_mem_nil, or_false] at hu
 rcases hu with rfl | rfl | rfl | rfl | rfl | rfl | rfl | rfl | rfl | rfl | rfl | rfl | rfl | rfl | rfl | rfl | rfl | rfl | rfl <;> rfl⟩
def su0 : List UInt8 := [0, 0, 0, 0, 86, 79, 73, 76] ++ zeros 248
theorem su0_len : su0.length = 256 := by
 unfold su0 zeros
 rw [List.length_append, List.length_replicate]
 rfl
/-- A byte of a number is laid, behind others. -/
theorem box_low2 {w : World} {q n k i j : Nat} {cur A : List UInt8} (h : BoxB w q (setL cur 8 (A ++ (low n k).take i))) (hi : i < k) (hj : j = 8 + A.length + i) : BoxB (w.setCell ⟨q, j, none⟩ (.int .u8 ((n : Int) / 2 ^ (8 * i) % 256))) q (setL cur 8 (A ++ (low n k).take (i + 1))) := by
 have h1 := h.set j (UInt8.ofNat (n / 256 ^ i % 256))
 rw [byte_val] at h1
 rw [low_take1 hi, ← List.append_assoc, setL_snoc, List.length_append, List.length_take, low_len, Nat.min_eq_left (Nat.le_of_lt hi), ← Nat.add_assoc, ← hj]
 exact h1
theorem putNs_take {l : List (Nat × Nat)} {k : Nat} {p : Nat × Nat} (h : l[k]? = some p) : putNs (l.take (k + 1)) = putNs (l.take k) ++ low p.1 p.2 := by
 rw [List.take_add_one, h]
 show putNs (l.take k ++ [p]) = _
 rw [putNs_app]
 congr 1
 show low p.1 p.2 ++ [] = _
 rw [List.append_nil]
theorem putNs_le (l : List (Nat × Nat)) (k : Nat) : (putNs (l.take k)).length ≤ (putNs l).length := by
 conv => rhs; rw [← List.take_append_drop k l, putNs_app]
 rw [List.length_append]
 omega
theorem su_end (l : List (Nat × Nat)) (h : (putNs l).length = 97) : (setL su0 8 (putNs l)).drop 4 = [86, 79, 73, 76] ++ putNs l ++ zeros 151 := by
 have e2 : zeros 248 = zeros 97 ++ zeros 151 := by
  unfold zeros
  rw [List.replicate_append_replicate]
 have e3 := setL_mid (putNs l) [0, 0, 0, 0, 86, 79, 73, 76] (zeros 97) (zeros 151) (by rw [h]; exact List.length_replicate)
 unfold su0
 rw [e2]
 refine (congrArg (List.drop 4) e3).trans ?_
 show [86, 79, 73, 76] ++ (putNs l ++ zeros 151) = _
 rw [List.append_assoc]
theorem cp_voil {w : World} {q : Nat} (h : BoxB w q (zeros 256)) : ∃ w4, (Builtin.copy_ #[153, 9] 3 #[.slice (some ⟨q, 4, none⟩) 252 252, .string ⟨#[86, 79, 73, 76]⟩]).run Tryz.prog w = .ok (.int .i64 4) w4 ∧ BoxB w4 q su0 ∧ Mods [q] w w4 := by
 have hcs : (bV (zeros 256)).toArray.size = 256 := by rw [List.size_toArray, bV_len]; exact List.length_replicate
 refine ⟨_, Lib.run_copy_row_string (P := Tryz.prog) w 153 9 3 5 q 4 252 252 ⟨#[86, 79, 73, 76]⟩ (bV (zeros 256)).toArray 78 Tryz.underlying153 (by kernel_rfl) h (by decide) (by rw [hcs]; decide), ?_, rfl, rfl, rfl, by simp [World.setRow], fun k hk hn => setRow_other w q k _ (by simpa using hn)⟩
 have h1 := setRow_heap w q (bV (zeros 256)).toArray ((bV (zeros 256)).toArray.toList.take 4 ++ Lib.byteCells (#[86, 79, 73, 76] : Array UInt8).toList ++ (bV (zeros 256)).toArray.toList.drop (4 + 4)).toArray 78 (0, 0) h
 unfold BoxB
 rw [show (bV su0).toArray = ((bV (zeros 256)).toArray.toList.take 4 ++ Lib.byteCells (#[86, 79, 73, 76] : Array UInt8).toList ++ (bV (zeros 256)).toArray.toList.drop (4 + 4)).toArray by kernel_rfl]
 exact h1
theorem nC_get : ∀ {l : List (Nat × Nat)} {k : Nat} {p : Nat × Nat}, l[k]? = some p → (nC l)[k * 2]? = some (.int .u64 (p.1 : Int)) ∧ (nC l)[k * 2 + 1]? = some (.int .u64 (p.2 : Int))
 | x :: l, 0, p, h => by obtain rfl := Option.some.inj h; exact ⟨rfl, rfl⟩
 | x :: l, k + 1, p, h => by
  obtain ⟨h1, h2⟩ := nC_get (l := l) (k := k) (p := p) (by simpa using h)
  have e : nC (x :: l) = .int .u64 (x.1 : Int) :: .int .u64 (x.2 : Int) :: nC l := rfl
  rw [e, show (k + 1) * 2 = k * 2 + 1 + 1 by omega]
  exact ⟨h1, h2⟩
set_option maxRecDepth 100000 in
set_option maxHeartbeats 12800000 in
theorem sblock_at (w : World) (s : Su) (hw : s.Wf) (hm : s.May) : Calls Tryz.prog 65 #[suV s] w fun e w' => e = .returned (.tuple #[bA s.bytes, .int .i64 0]) ∧ Below w.heap.size w w' := by
 have CMX : Hid (∀ X, Calls Tryz.prog 89 #[suV s] X fun e w' => e = .returned (.bool true) ∧ Below X.heap.size X w') := Lib.hid (fun X => smay_yes X s hw hm)
 have CNX : Hid (∀ X, Calls Tryz.prog 119 #[suV s] X fun e w' => ∃ v, e = .returned v ∧ w'.ownsRow X.heap.size 226 2 v 19 (nC s.nums) ∧ Below X.heap.size X w') := Lib.hid (fun X => snums_at X s hw hm)
 have HNK : Hid (s.nums.map (·.2) = suKs) := Lib.hid (Su.nums_ks hw.2.1)
 have HBY : Hid (s.bytes = sealB ([86, 79, 73, 76] ++ putNs s.nums ++ zeros 151)) := Lib.hid rfl
 obtain ⟨SL, hSL, hSn, hS1⟩ := suV_list s
 obtain ⟨ns, hns⟩ : ∃ x, s.nums = x := ⟨_, rfl⟩
 rw [hns] at CNX HNK HBY
 rw [hSL] at CMX CNX ⊢
 obtain ⟨R, hR⟩ : ∃ R, s.bytes = R := ⟨_, rfl⟩
 rw [hR] at HBY ⊢
 have HNL : Hid (ns.length = 19) := Lib.hid (by have := congrArg List.length HNK.out; rw [List.length_map] at this; exact this)
 have HPL : Hid ((putNs ns).length = 97) := Lib.hid (by rw [putNs_len, HNK.out]; rfl)
 clear hSL hns hR hw hm
 obtain ⟨w1, hw1⟩ : ∃ W, w.alloc (.cells SL.toArray 72) = W := ⟨_, rfl⟩
 have hb1 : Below w.heap.size w w1 := by rw [← hw1]; exact balloc (Below.refl _ _) _
 have hx1 : w1.heap[w.heap.size]? = some (.cells SL.toArray 72 (0, 0)) := by rw [← hw1]; exact heap_alloc_new _ _
 obtain ⟨w2, hw2⟩ : ∃ W, w1.alloc (.cells Tryz.zeroCells78 78) = W := ⟨_, rfl⟩
 have hb2 : Below w1.heap.size w1 w2 := by rw [← hw2]; exact balloc (Below.refl _ _) _
 have hx2 : BoxB w2 w1.heap.size (zeros 256) := by
  have e : (bV (zeros 256)).toArray = Tryz.zeroCells78 := by
   show (bV (List.replicate 256 0)).toArray = _
   kernel_rfl
  unfold BoxB
  rw [e, ← hw2]; exact heap_alloc_new _ _
 have HB2 := Lib.hid (bthn hb1 hb2)
 have HB01 := Lib.hid hb1
 have HQ : Hid (∀ X, Below w1.heap.size w1 X → X.rangeAt w.heap.size 0 SL) := Lib.hid (fun X hX => rangeOf ((hX.block _ (Array.getElem?_eq_some_iff.1 hx1).1).trans hx1))
 have HX2 := Lib.hid hx2
 have HB12 := Lib.hid hb2
 have HQL : Hid (w.heap.size < w1.heap.size) := Lib.hid (Array.getElem?_eq_some_iff.1 hx1).1
 have hs4 := run_slice4 w1.heap.size
 have HIS : Hid ((Tryz.prog.info? 72).map (·.size) = some SL.length) := Lib.hid (by rw [hSn]; exact infoSup)
 clear hb1 hx1 hb2 hx2
 go_enter Tryz.func65, Tryz.ntmps65
 go_upto_region 1 with fail
 (try rw [hw1, hw2])
 apply wp_region_lit
 repeat (first
  | (refine wpList_load_mid rfl 72 _ rfl w.heap.size 0 rfl SL _ (HQ.out _ HB12.out) Tryz.underlying72 rfl HIS.out ?_)
  | go_step)
 refine (CMX.out w2).mono ?_
 rintro e w3 ⟨rfl, hb3⟩
 dsimp only
 have HB3 := Lib.hid hb3
 have hx3 : BoxB w3 w1.heap.size (zeros 256) := (hb3.block _ (Array.getElem?_eq_some_iff.1 HX2.out).1).trans HX2.out
 obtain ⟨w4, hcp, hx4, hm4⟩ := cp_voil hx3
 have HX4 := Lib.hid hx4
 have HB13 : Hid (Below w1.heap.size w1 w3) := Lib.hid (bthn HB12.out hb3)
 have HB14 : Hid (Below w1.heap.size w1 w4) := Lib.hid (HB13.out.trans (hm4.below (fun k hk => by rw [List.mem_singleton.1 hk]; exact Nat.le_refl _) HB13.out.size))
 clear hb3 hx3 hx4 hm4 hw1 hw2
 go_upto_region 4 with fail
 apply wp_region_lit
 repeat (first
  | (refine wpList_load_mid rfl 72 _ rfl w.heap.size 0 rfl SL _ (HQ.out _ HB14.out) Tryz.underlying72 rfl HIS.out ?_)
  | go_step)
 refine (CNX.out w4).mono ?_
 rintro e w5 ⟨v5, rfl, ho5, hb5⟩
 dsimp only
 obtain ⟨g5, c5, cur5, rfl, hg5, hl5, hc51, hc52, hh5, hs5, ht5⟩ := rowSome ho5 (by omega)
 unfold maxLen at hc52
 have HX5 : Hid (BoxB w5 w1.heap.size (setL su0 8 (putNs (ns.take 0)))) := Lib.hid ((hb5.block _ (Array.getElem?_eq_some_iff.1 HX4.out).1).trans HX4.out)
 have HB15 : Hid (Below w1.heap.size w1 w5) := Lib.hid (HB14.out.trans (hb5.mono HB14.out.size))
 have HN5 : Hid (∀ (j : Nat) (u : Value), (nC ns)[j]? = some u → w5.cell? ⟨g5, j, none⟩ = some u) := Lib.hid (fun j u hj => by
  rw [← ht5, List.getElem?_take] at hj
  split at hj
  ·exact cellOf hh5 j (by simpa using hj)
  ·cases hj)
 have HG5 : Hid (g5 < w5.heap.size ∧ g5 ∉ [w1.heap.size]) := Lib.hid ⟨hl5, fun h => by
  have h1 := List.mem_singleton.1 h
  have h2 := (Array.getElem?_eq_some_iff.1 HX4.out).1
  omega⟩
 clear ho5 hb5 hg5 hl5 hh5 hs5 ht5 hcp
 go_wp2_with fail
 go_loopw [4, 20] (fun a v wr => ∃ k : Nat, k ≤ 19 ∧ v = .int .i64 (k : Int) ∧ a = .int .i64 ((8 + (putNs (ns.take k)).length : Nat) : Int) ∧ Mods [w1.heap.size] w5 wr ∧ BoxB wr w1.heap.size (setL su0 8 (putNs (ns.take k)))) (fun _ v _ => 19 - (Go.RowKit.intOf v).toNat)
 case atStart => exact ⟨0, by omega, rfl, rfl, Mods.refl _ _, HX5.out⟩
 case round =>
  obtain ⟨k, hk, rfl, rfl, hmo, hx⟩ := hrel
  have HMO := Lib.hid hmo
  have HX := Lib.hid hx
  clear hmo hx
  by_cases hlt : k < 19
  ·obtain ⟨p, hp⟩ : ∃ p, ns[k]? = some p := ⟨_, List.getElem?_eq_getElem (by rw [HNL.out]; exact hlt)⟩
   obtain ⟨n0, n1⟩ := p
   have HPT := Lib.hid (putNs_take hp)
   have HPK := Lib.hid hp
   obtain ⟨hn0, hn1⟩ := nC_get hp
   have e0 := (World.cell?_of_block (a := ⟨g5, k * 2, none⟩) (HMO.out.block g5 HG5.out.1 HG5.out.2)).trans (HN5.out _ _ hn0)
   have e1 := (World.cell?_of_block (a := ⟨g5, k * 2 + 1, none⟩) (HMO.out.block g5 HG5.out.1 HG5.out.2)).trans (HN5.out _ _ hn1)
   dsimp only at e0 e1 HPT
   clear hp hn0 hn1
   have hn8 : n1 ≤ 8 := by
    have h1 : (ns.map (·.2))[k]? = some n1 := by rw [List.getElem?_map, HPK.out]; rfl
    rw [HNK.out] at h1
    exact (by decide : ∀ x ∈ suKs, x ≤ 8) n1 (List.mem_of_getElem? h1)
   have hle := putNs_le ns (k + 1)
   rw [HPT.out, HPL.out, List.length_append, low_len] at hle
   obtain ⟨A, hA⟩ : ∃ A, putNs (ns.take k) = A := ⟨_, rfl⟩
   rw [hA] at HPT HX hle ⊢
   obtain ⟨la, hla⟩ : ∃ n, A.length = n := ⟨_, rfl⟩
   have HLA := Lib.hid hla
   rw [hla] at hle ⊢
   clear hA hla
   go_wp2_with fail
   obtain ⟨wz, hwz⟩ : ∃ W, wr.alloc (.cells #[.int .u64 (n0 : Int), .int .u64 (n1 : Int)] 226) = W := ⟨_, rfl⟩
   have hbz : Below wr.heap.size wr wz := by rw [← hwz]; exact balloc (Below.refl _ _) _
   obtain ⟨zq, hzq⟩ : ∃ x, wr.heap.size = x := ⟨_, rfl⟩
   have HZ : Hid (wz.heap[zq]? = some (.cells #[.int .u64 (n0 : Int), .int .u64 (n1 : Int)] 226 (0, 0))) := Lib.hid (by rw [← hwz, ← hzq]; exact heap_alloc_new _ _)
   have HMZ : Hid (Mods [w1.heap.size] w5 wz) := Lib.hid (HMO.out.thenBelow hbz)
   have HXZ : Hid (BoxB wz w1.heap.size (setL su0 8 (A ++ (low n0 n1).take 0))) := Lib.hid (by rw [List.take_zero, List.append_nil]; exact (hbz.block _ (Array.getElem?_eq_some_iff.1 HX.out).1).trans HX.out)
   have HZN : Hid (zq ≠ w1.heap.size) := Lib.hid (by have := (Array.getElem?_eq_some_iff.1 HX.out).1; omega)
   rw [hwz, hzq]
   clear hwz hzq hbz e0 e1
   go_loopw [4, 26] (fun a v wr => ∃ i : Nat, i ≤ n1 ∧ v = .int .u64 (i : Int) ∧ a = .int .i64 ((8 + la + i : Nat) : Int) ∧ Mods [w1.heap.size] w5 wr ∧ wr.heap[zq]? = some (.cells #[.int .u64 (n0 : Int), .int .u64 (n1 : Int)] 226 (0, 0)) ∧ BoxB wr w1.heap.size (setL su0 8 (A ++ (low n0 n1).take i))) (fun _ v _ => n1 - (Go.RowKit.intOf v).toNat)
   case atStart => exact ⟨0, by omega, rfl, rfl, HMZ.out, HZ.out, HXZ.out⟩
   case round =>
    obtain ⟨i, hi, rfl, rfl, hmo, hz, hx⟩ := hrel
    have HMO2 := Lib.hid hmo
    have HZ2 := Lib.hid hz
    have HX2' := Lib.hid hx
    by_cases hlt2 : i < n1
    ·obtain ⟨hc, hf⟩ := hx.cell (j := 8 + la + i) (by rw [setL_len, su0_len]; omega)
     have z0 := cellOf hz 0 (v := .int .u64 (n0 : Int)) rfl
     clear hmo hz hx
     go_wp2_with fail
     refine ⟨⟨i + 1, by omega, by go_num, by go_num, HMO2.out.setCell (p := ⟨w1.heap.size, 8 + la + i, none⟩) (List.mem_singleton.2 rfl) _, (Below.heap_setCell wr ⟨w1.heap.size, 8 + la + i, none⟩ _ zq HZN.out).trans HZ2.out, box_low2 HX2'.out hlt2 (by rw [HLA.out])⟩, by simp [Go.RowKit.intOf]; omega⟩
    ·obtain rfl : i = n1 := by omega
     rw [List.take_of_length_le (by rw [low_len]; exact Nat.le_refl _), ← HPT.out] at hx
     have HXN := Lib.hid hx
     have HLL : Hid ((putNs (ns.take (k + 1))).length = la + i) := Lib.hid (by rw [HPT.out, List.length_append, low_len, HLA.out])
     clear hmo hz hx
     go_wp2_with fail
     go_roundw
     case rel => exact ⟨k + 1, by omega, by go_num, by rw [HLL.out, Nat.add_assoc], HMO2.out, HXN.out⟩
     case measure => simp [Go.RowKit.intOf]; omega
  ·obtain rfl : k = 19 := by omega
   have hx := HX.out
   rw [List.take_of_length_le (by rw [HNL.out]; exact Nat.le_refl _)] at hx
   obtain ⟨C, hC⟩ : ∃ C, setL su0 8 (putNs ns) = C := ⟨_, rfl⟩
   rw [hC] at hx
   have HLC : Hid (C.length = 256) := Lib.hid (by rw [← hC, setL_len, su0_len])
   have HPE : Hid (sealB (C.drop 4) = R) := Lib.hid (by rw [← hC, su_end ns HPL.out, ← HBY.out])
   have HRL : Hid (R.length = 256) := Lib.hid (by
    rw [← HPE.out, sealB_len, List.length_drop, HLC.out])
   have HXC := Lib.hid hx
   have HBR : Hid (Below w1.heap.size w1 wr) := Lib.hid (HB15.out.trans (HMO.out.below (fun k hk => by rw [List.mem_singleton.1 hk]; exact Nat.le_refl _) HB15.out.size))
   have CC := crcsum_any wr _ 252 _ (rd_box4 hx HLC.out) (by omega)
   have HB0 := HB01
   clear hx hC
   go_wp2_with fail
   refine CC.mono ?_
   rintro e w6 ⟨rfl, hb6⟩
   obtain ⟨sm, hs⟩ : ∃ s, crcN (C.drop 4) = s := ⟨_, rfl⟩
   have hsl : sm < 4294967296 := by rw [← hs]; exact (crcN_eq _).2
   have HS := Lib.hid hs
   have HX6 : Hid (BoxB w6 w1.heap.size (setL C 0 ((low sm 4).take 0))) := Lib.hid ((hb6.block _ (Array.getElem?_eq_some_iff.1 HXC.out).1).trans HXC.out)
   have HB6 : Hid (Below w1.heap.size w1 w6) := Lib.hid (HBR.out.trans (hb6.mono HBR.out.size))
   rw [hs]
   clear CC hb6 hs
   go_wp2_with fail
   go_loopw [43] (fun v wr => ∃ i : Nat, i ≤ 4 ∧ v = .int .i64 (i : Int) ∧ Below w1.heap.size w1 wr ∧ BoxB wr w1.heap.size (setL C 0 ((low sm 4).take i))) (fun v _ => 4 - (Go.RowKit.intOf v).toNat)
   case atStart => exact ⟨0, by omega, rfl, HB6.out, HX6.out⟩
   case round =>
    obtain ⟨j, hj, rfl, hb, hx⟩ := hrel
    have HB := Lib.hid hb
    have HXJ := Lib.hid hx
    by_cases hlt : j < 4
    ·obtain ⟨hc, hf⟩ := hx.cell (j := j) (by rw [setL_len, HLC.out]; omega)
     clear hb hx
     go_wp2_with fail
     refine ⟨⟨j + 1, by omega, by go_num, HB.out.setCell (p := ⟨w1.heap.size, j, none⟩) (Nat.le_refl _) _, box_low0 HXJ.out hlt⟩, by simp [Go.RowKit.intOf]; omega⟩
    ·obtain rfl : j = 4 := by omega
     rw [List.take_of_length_le (by rw [low_len]; exact Nat.le_refl _), ← HS.out, sealB_set HLC.out, HPE.out] at hx
     have HRA : Hid (wr.rangeAt w1.heap.size 0 (bV R)) := Lib.hid (rangeOf hx)
     have hrb : (bV R).toArray.size = 256 := by rw [List.size_toArray, bV_len, HRL.out]
     have HTH : Hid (wr.there w1.heap.size 0 256) := Lib.hid (thereOf hx (by rw [hrb]; exact Nat.le_refl _))
     clear hb hx
     go_wp2_with (first
      | (refine wpList_load_mid rfl 78 _ rfl w1.heap.size 0 rfl (bV R) _ HRA.out Tryz.underlying78 rfl (by rw [bV_len, HRL.out]; exact infoBlk) ?_)
      | (refine wpList_store_mid rfl 78 _ _ rfl w1.heap.size 0 (bV R).toArray rfl rfl (by rw [hrb]; exact HTH.out) (by rw [hrb]; exact infoBlk) (blk_one R) ?_))
     refine bodyPost_ret (v := .tuple #[bA R, .int .i64 0]) (res_blk rfl _ _ w1.heap.size R _ rfl rfl (World.rangeAt_setCells_same _ _ _ _ (by rw [bV_len, HRL.out]; exact HTH.out)) HRL.out) rfl ⟨rfl, ?_⟩
     exact bthn HB0.out (belowSets (Nat.le_refl _) _ _ _ HB.out)
end Go.Proofs.YtgmahhdnjikdjaaGreat
/- super: Block, refused, walked. -/
namespace Go.Proofs.YtgmahhdnjikdjaaGreat
open Go.RowKit Wire
set_option linter.unusedVariables false
set_option linter.unusedSimpArgs false
set_option maxRecDepth 100000 in
set_option maxHeartbeats 6400000 in
theorem sblock_no (w : World) (s : Su) (h : s.mt < 16) : Calls Tryz.prog 65 #[suV s] w fun e w' => e = .returned (.tuple #[bA (zeros 256), .int .i64 2]) ∧ Below w.heap.size w w' := by
 have CMX : Hid (∀ X, Calls Tryz.prog 89 #[suV s] X fun e w' => e = .returned (.bool false) ∧ Below X.heap.size X w') := Lib.hid (fun X => smay_no X s h)
 obtain ⟨SL, hSL, hSn, hS1⟩ := suV_list s
 rw [hSL] at CMX ⊢
 clear hSL h
 obtain ⟨w1, hw1⟩ : ∃ W, w.alloc (.cells SL.toArray 72) = W := ⟨_, rfl⟩
 have hb1 : Below w.heap.size w w1 := by rw [← hw1]; exact balloc (Below.refl _ _) _
 have hx1 : w1.heap[w.heap.size]? = some (.cells SL.toArray 72 (0, 0)) := by rw [← hw1]; exact heap_alloc_new _ _
 obtain ⟨w2, hw2⟩ : ∃ W, w1.alloc (.cells Tryz.zeroCells78 78) = W := ⟨_, rfl⟩
 have hb2 : Below w1.heap.size w1 w2 := by rw [← hw2]; exact balloc (Below.refl _ _) _
 obtain ⟨R, hR⟩ : ∃ R, zeros 256 = R := ⟨_, rfl⟩
 have hx2 : BoxB w2 w1.heap.size R := by
  have e : (bV (zeros 256)).toArray = Tryz.zeroCells78 := by
   show (bV (List.replicate 256 0)).toArray = _
   kernel_rfl
  unfold BoxB
  rw [← hR, e, ← hw2]; exact heap_alloc_new _ _
 have HRL : Hid (R.length = 256) := Lib.hid (by rw [← hR]; exact List.length_replicate)
 rw [hR]
 have HB1 := Lib.hid hb1
 have HX2 := Lib.hid hx2
 have HB12 := Lib.hid hb2
 have HQ : Hid (w2.rangeAt w.heap.size 0 SL) := Lib.hid (rangeOf ((hb2.block _ (Array.getElem?_eq_some_iff.1 hx1).1).trans hx1))
 have HIS : Hid ((Tryz.prog.info? 72).map (·.size) = some SL.length) := Lib.hid (by rw [hSn]; exact infoSup)
 have hrb : (bV R).toArray.size = 256 := by rw [List.size_toArray, bV_len, HRL.out]
 clear hb1 hx1 hb2 hx2 hR
 go_enter Tryz.func65, Tryz.ntmps65
 go_upto_region 1 with fail
 (try rw [hw1, hw2])
 apply wp_region_lit
 repeat (first
  | (refine wpList_load_mid rfl 72 _ rfl w.heap.size 0 rfl SL _ HQ.out Tryz.underlying72 rfl HIS.out ?_)
  | go_step)
 refine (CMX.out w2).mono ?_
 rintro e w3 ⟨rfl, hb3⟩
 dsimp only
 have hx3 : BoxB w3 w1.heap.size R := (hb3.block _ (Array.getElem?_eq_some_iff.1 HX2.out).1).trans HX2.out
 have HRA : Hid (w3.rangeAt w1.heap.size 0 (bV R)) := Lib.hid (rangeOf hx3)
 have HTH : Hid (w3.there w1.heap.size 0 256) := Lib.hid (thereOf hx3 (by rw [hrb]; exact Nat.le_refl _))
 have HB3 : Hid (Below w1.heap.size w1 w3) := Lib.hid (bthn HB12.out hb3)
 clear hb3 hx3 hw1 hw2
 go_wp2_with (first
  | (refine wpList_load_mid rfl 78 _ rfl w1.heap.size 0 rfl (bV R) _ HRA.out Tryz.underlying78 rfl (by rw [bV_len, HRL.out]; exact infoBlk) ?_)
  | (refine wpList_store_mid rfl 78 _ _ rfl w1.heap.size 0 (bV R).toArray rfl rfl (by rw [hrb]; exact HTH.out) (by rw [hrb]; exact infoBlk) (blk_one R) ?_))
 refine bodyPost_ret (v := .tuple #[bA R, .int .i64 2]) (res_blk rfl _ _ w1.heap.size R _ rfl rfl (World.rangeAt_setCells_same _ _ _ _ (by rw [bV_len, HRL.out]; exact HTH.out)) HRL.out) rfl ⟨rfl, ?_⟩
 exact bthn HB1.out (belowSets (Nat.le_refl _) _ _ _ HB3.out)
end Go.Proofs.YtgmahhdnjikdjaaGreat
/- super: wipe, where nothing is torn, walked. -/
namespace Go.Proofs.YtgmahhdnjikdjaaGreat
open Go.RowKit Wire
set_option linter.unusedVariables false
set_option linter.unusedSimpArgs false
/-- What Of answers of a block that is not torn. -/
def OfC (b : List UInt8) (SL : List Value) (er : Int) : Prop :=
 SL.length = 19 ∧ (∀ u ∈ SL, u.oneCell' = true) ∧ (er = 0 ∨ (er = 4 ∧ b = zeros 256)) ∧ ∀ X, Calls Tryz.prog 64 #[bA b] X fun e w' => e = .returned (.tuple #[.agg SL.toArray, .int .i64 er]) ∧ Below X.heap.size X w'
set_option maxRecDepth 100000 in
set_option maxHeartbeats 12800000 in
theorem swipe_at (n0 : Nat) (w : World) (B : Nat) (iv jv : Value) (d : Dk) (h : DkAt n0 w B iv jv d) (k : Nat) (hk : k * 4 + 4 ≤ d.img.length) (hn : d.img.length ≤ 1000000) (SL : List Value) (er : Int) (ho : OfC (rdB d.img k) SL er) :
  Calls Tryz.prog 67 #[.pointer (some ⟨B, 0, none⟩), .int .i64 (k : Int)] w fun e w' => e = .returned (.int .i64 0) ∧ Below w.heap.size w w' := by
 have CR := sread_at n0 w B iv jv d h k hk hn
 have hbl := rdB_len h.secs hk
 obtain ⟨b, hb⟩ : ∃ b, rdB d.img k = b := ⟨_, rfl⟩
 rw [hb] at CR ho hbl
 obtain ⟨hSn, hS1, her, hco⟩ := ho
 have HBL := Lib.hid hbl
 have HCO := Lib.hid hco
 have HSS := Lib.hid (And.intro hSn hS1)
 have HER := Lib.hid her
 have hrb : (bV b).toArray.size = 256 := by rw [List.size_toArray, bV_len, hbl]
 clear h hk hn hb hbl hSn hS1 her hco
 go_enter Tryz.func67, Tryz.ntmps67
 go_wp2_with fail
 refine CR.mono ?_
 rintro e x1 ⟨rfl, hb1⟩
 have HB1 := Lib.hid hb1
 have hst := run_storeNew (P := Tryz.prog) x1 78 Tryz.zeroCells78 (bV b).toArray (by rw [hrb]; kernel_rfl) (fun u hu => bV_one b u (by simpa using hu))
 obtain ⟨x2, hx2⟩ : ∃ W, x1.alloc (.cells (bV b).toArray 78) = W := ⟨_, rfl⟩
 have hb2 : Below x1.heap.size x1 x2 := by rw [← hx2]; exact balloc (Below.refl _ _) _
 have hxb : BoxB x2 x1.heap.size b := by unfold BoxB; rw [← hx2]; exact heap_alloc_new _ _
 have HXB := Lib.hid hxb
 have HR2 : Hid (x2.rangeAt x1.heap.size 0 (bV b)) := Lib.hid (rangeOf hxb)
 have HB2 := Lib.hid (bthn hb1 hb2)
 have HIB : Hid ((Tryz.prog.info? 78).map (·.size) = some (bV b).length) := Lib.hid (by rw [bV_len, HBL.out]; exact infoBlk)
 rw [show bA b = .agg (bV b).toArray from rfl]
 rw [hx2] at hst
 have CO := HCO.out x2
 rw [show bA b = .agg (bV b).toArray from rfl] at CO
 clear CR hb1 hx2 hb2 hxb
 go_wp2_with (refine wpList_load_mid rfl 78 _ rfl x1.heap.size 0 rfl (bV b) _ HR2.out Tryz.underlying78 rfl HIB.out ?_)
 refine CO.mono ?_
 rintro e x3 ⟨rfl, hb3⟩
 dsimp only
 have HB3 := Lib.hid hb3
 have HX3 : Hid (BoxB x3 x1.heap.size b) := Lib.hid ((hb3.block _ (Array.getElem?_eq_some_iff.1 HXB.out).1).trans HXB.out)
 have hss : SL.toArray.size = 19 := by rw [List.size_toArray, HSS.out.1]
 clear CO hb3 hst
 rcases HER.out with rfl | ⟨rfl, hz⟩
 ·repeat (first
   | (refine wpList_store_mid rfl 72 _ _ rfl x3.heap.size 0 SL.toArray rfl rfl (thereOf (heap_alloc_new x3 _) (by rw [hss]; simp)) (by rw [hss]; exact infoSup) (Array.all_eq_true_iff_forall_mem.2 (fun v hv => HSS.out.2 v (by simpa using hv))) ?_)
   | go_step)
  go_ret
  exact ⟨rfl, bthn (bthn HB2.out HB3.out) (belowSets (Nat.le_refl _) _ _ _ (balloc (Below.refl _ _) _))⟩
 ·have hsl : ∀ W, (Instr.sliceAt 78 (.pointer (some ⟨x1.heap.size, 0, none⟩)) none (some (.int .i64 64)) none).run Tryz.prog W = .ok (.slice (some ⟨x1.heap.size, 0, none⟩) 64 256) W := fun W => by
   have hl : Tryz.prog.arrayLen 78 = 256 := by kernel_rfl
   have hs : ∀ W, (sizeOf (Tryz.prog.elem 78)).run Tryz.prog W = .ok 1 W := fun W => by kernel_rfl
   rw [run_sliceAt_array_h (P := Tryz.prog) W 78 ⟨x1.heap.size, 0, none⟩ (by kernel_rfl) .i64 64 (by omega) (by rw [hl]; omega), hs, hl]
   simp [Result.andThen_ok, slicedAt, Addr.add_lit]
  have har := run_arr x1.heap.size 0 64 256 (Nat.le_refl _)
  have hzl : (zeros 64).length = 64 := List.length_replicate
  have heq : ∀ W, (binOp .eql 152 (.agg (bV (zeros 64)).toArray) (.agg #[.int .u8 0, .int .u8 0, .int .u8 0, .int .u8 0, .int .u8 0, .int .u8 0, .int .u8 0, .int .u8 0, .int .u8 0, .int .u8 0, .int .u8 0, .int .u8 0, .int .u8 0, .int .u8 0, .int .u8 0, .int .u8 0, .int .u8 0, .int .u8 0, .int .u8 0, .int .u8 0, .int .u8 0, .int .u8 0, .int .u8 0, .int .u8 0, .int .u8 0, .int .u8 0, .int .u8 0, .int .u8 0, .int .u8 0, .int .u8 0, .int .u8 0, .int .u8 0, .int .u8 0, .int .u8 0, .int .u8 0, .int .u8 0, .int .u8 0, .int .u8 0, .int .u8 0, .int .u8 0, .int .u8 0, .int .u8 0, .int .u8 0, .int .u8 0, .int .u8 0, .int .u8 0, .int .u8 0, .int .u8 0, .int .u8 0, .int .u8 0, .int .u8 0, .int .u8 0, .int .u8 0, .int .u8 0, .int .u8 0, .int .u8 0, .int .u8 0, .int .u8 0, .int .u8 0, .int .u8 0, .int .u8 0, .int .u8 0, .int .u8 0, .int .u8 0])).run Tryz.prog W = .ok (.bool true) W := fun W => by
   have h := run_eql_bytes (P := Tryz.prog) W (t := 152) (e := 5) (n := 64) Tryz.underlying152 Tryz.underlying5 rfl rfl (zeros 64) (zeros 64) hzl hzl
   rw [beq_self_eq_true] at h
   exact h
  have HR3 : Hid (x3.rangeAt x1.heap.size 0 (bV (zeros 64))) := Lib.hid (by
   have h1 := sec_range (i := 0) (rangeOf HX3.out)
   rw [hz] at h1
   exact h1)
  have HXL : Hid (x1.heap.size < x3.heap.size) := Lib.hid (Array.getElem?_eq_some_iff.1 HX3.out).1
  obtain ⟨ZS, hZS⟩ : ∃ L, bV (zeros 64) = L := ⟨_, rfl⟩
  rw [hZS] at heq HR3
  have HZS : Hid ((Tryz.prog.info? 152).map (·.size) = some ZS.length) := Lib.hid (by rw [← hZS, bV_len, hzl]; exact infoSec)
  clear hZS hz
  repeat (first
   | (refine wpList_store_mid rfl 72 _ _ rfl x3.heap.size 0 SL.toArray rfl rfl (thereOf (heap_alloc_new x3 _) (by rw [hss]; simp)) (by rw [hss]; exact infoSup) (Array.all_eq_true_iff_forall_mem.2 (fun v hv => HSS.out.2 v (by simpa using hv))) ?_)
   | (refine wpL_load_met (by kernel_rfl) 152 _ rfl x1.heap.size 0 rfl ZS _ (rangeSt HR3.out HXL.out (belowSets (Nat.le_refl _) _ _ _ (balloc (Below.refl _ _) _))) Tryz.underlying152 rfl HZS.out ?_)
   | go_step)
  go_ret
  exact ⟨rfl, bthn (bthn HB2.out HB3.out) (belowSets (Nat.le_refl _) _ _ _ (balloc (Below.refl _ _) _))⟩
end Go.Proofs.YtgmahhdnjikdjaaGreat
