/- super: May, walked. -/
import Derived.ArgAppend
import Derived.Test.YtcdobdjemlaaaaaGreatSn0
namespace Go.Proofs.YtcdobdjemlaaaaaGreat
open Go.RowKit Wire
set_option linter.unusedVariables false
set_option linter.unusedSimpArgs false

set_option maxRecDepth 100000 in
set_option maxHeartbeats 3200000 in
theorem smay_no (w : World) (s : Su) (h : s.mt < 16) : Calls Tryz.prog 80 #[suV s] w fun e w' => e = .returned (.bool false) ∧ Below w.heap.size w w' := by
  obtain ⟨tx, mt, dt, pg, tp, bs, sg, cu, ep, la, sq, bl, bq, mk⟩ := s
  dsimp only at h
  unfold suV suC
  dsimp only
  obtain ⟨p0, hp0⟩ : ∃ x, pg.getD 0 0 = x := ⟨_, rfl⟩
  obtain ⟨p1, hp1⟩ : ∃ x, pg.getD 1 0 = x := ⟨_, rfl⟩
  obtain ⟨p2, hp2⟩ : ∃ x, pg.getD 2 0 = x := ⟨_, rfl⟩
  obtain ⟨p3, hp3⟩ : ∃ x, pg.getD 3 0 = x := ⟨_, rfl⟩
  obtain ⟨p4, hp4⟩ : ∃ x, pg.getD 4 0 = x := ⟨_, rfl⟩
  obtain ⟨p5, hp5⟩ : ∃ x, pg.getD 5 0 = x := ⟨_, rfl⟩
  rw [hp0, hp1, hp2, hp3, hp4, hp5]
  clear hp0 hp1 hp2 hp3 hp4 hp5
  obtain ⟨wa, hwa⟩ : ∃ W, w.alloc (.cells #[.int .u64 (tx : Int), .int .i64 mt, .int .i64 dt, .int .u32 (p0 : Int), .int .u32 (p1 : Int), .int .u32 (p2 : Int), .int .u32 (p3 : Int), .int .u32 (p4 : Int), .int .u32 (p5 : Int), .int .u32 (tp : Int), .int .u32 (bs : Int), .int .u32 (sg : Int), .int .i64 cu, .int .u64 (ep : Int), .int .u64 (la : Int), .int .u64 (sq : Int), .int .u64 (bl : Int), .int .u64 (bq : Int), .bool mk] 29) = W := ⟨_, rfl⟩
  have hba : Below w.heap.size w wa := by rw [← hwa]; exact balloc (Below.refl _ _) _
  have hxa : wa.heap[w.heap.size]? = some (.cells #[.int .u64 (tx : Int), .int .i64 mt, .int .i64 dt, .int .u32 (p0 : Int), .int .u32 (p1 : Int), .int .u32 (p2 : Int), .int .u32 (p3 : Int), .int .u32 (p4 : Int), .int .u32 (p5 : Int), .int .u32 (tp : Int), .int .u32 (bs : Int), .int .u32 (sg : Int), .int .i64 cu, .int .u64 (ep : Int), .int .u64 (la : Int), .int .u64 (sq : Int), .int .u64 (bl : Int), .int .u64 (bq : Int), .bool mk] 29 (0, 0)) := by rw [← hwa]; exact heap_alloc_new _ _
  have HBA := Lib.hid hba
  have c1 := cellOf hxa 1 (v := .int .i64 mt) rfl
  clear hba hxa
  go_enter Tryz.func80, Tryz.ntmps80
  go_upto_region 1 with fail
  (try rw [hwa])
  clear hwa
  go_wp2_with fail
  go_ret
  exact ⟨rfl, HBA.out⟩
theorem wp_app_arg {P : Program} {o : Oper} {a : Act} {K : Act → World → Prop} {Q : Exit → Act → World → Prop} {w : World} (s x : Operand) (t : TypeId)
    (ho : o.op = .call { callee := .builtin .append, args := #[s, x], argTypes := #[t, t] })
    (e : TypeId) (z : Value) (size bytes : Nat) (ht : P.underlying t = some (.slice e)) (hinfo : (P.info? e).map (fun i => (i.zero, i.size, i.bytes)) = some (some z, size, bytes))
    (hzs : z.cells.size = size) (hsz : 0 < size) (b : Addr) (n cap : Nat) (olds : List Value) (hs : a.eval s = .slice (some b) n cap) (hlo : olds.length = n * size) (holds : ∀ j u, olds[j]? = some u → w.cell? (b.add j) = some u)
    (c : Addr) (m cc : Nat) (news : List Value) (hx : a.eval x = .slice (some c) m cc) (hl : news.length = m * size) (hnews : ∀ j u, news[j]? = some u → w.cell? (c.add j) = some u)
    (hg : cap < n + m) (h63 : n + m ≤ maxLen) (hbytes : (n + m) * bytes ≤ 140737488355328)
    (h : ∀ v' w', w'.ownsRow w.heap.size e size v' (n + m) (olds ++ news) → Below w.heap.size w w' → K (a.put o.dst v') w') : o.wp P a w K Q := by
  obtain ⟨i0, hi, hz0, hz1, hz2⟩ := info_parts hinfo
  obtain ⟨v', w', hr, ho', hg'⟩ := run_append_arg_grows (P := P) w t o.type e i0 z size bytes ht hi hz0 hz1 hz2 hzs hsz b n cap olds hlo holds c m cc news hl hnews hg h63 hbytes
  exact Lib.wp_append_run w s x t t ho _ _ hs hx v' w' hr (h v' w' ho' ((Below.refl _ _).grown hg' (Nat.le_refl _) (fun _ h => by cases h)))
theorem infoU32 : (Tryz.prog.info? 24).map (fun i => (i.zero, i.size, i.bytes)) = some (some (.int .u32 0), 1, 4) := by kernel_rfl
def uV (l : List Nat) : List Value := l.map fun n => .int .u32 ((n : Nat) : Int)
theorem run_slice6 (g : Nat) : ∀ W, (Instr.sliceAt 25 (.pointer (some ⟨g, 3, none⟩)) none (some (.int .i64 6)) (some (.int .i64 6))).run Tryz.prog W = .ok (.slice (some ⟨g, 3, none⟩) 6 6) W := fun W => by
  have hl : Tryz.prog.arrayLen 25 = 6 := by kernel_rfl
  have hs : ∀ W, (sizeOf (Tryz.prog.elem 25)).run Tryz.prog W = .ok 1 W := fun W => by kernel_rfl
  rw [run_sliceAt_array_hm (P := Tryz.prog) W 25 ⟨g, 3, none⟩ (by kernel_rfl) .i64 .i64 6 6 (by omega) (by omega) (by rw [hl]; omega), hs]
  simp [Result.andThen_ok, slicedAt, Addr.add_lit]
theorem six_at {tx : Nat} {mt dt cu : Int} {p0 p1 p2 p3 p4 p5 tp bs sg ep la sq bl bq : Nat} {mk : Bool} {j : Nat} {u : Value} (h : (uV [p0, p1, p2, p3, p4, p5])[j]? = some u) : (suC tx mt dt p0 p1 p2 p3 p4 p5 tp bs sg cu ep la sq bl bq mk)[3 + j]? = some u := by
  have hj : j < 6 := (List.getElem?_eq_some_iff.1 h).1
  rcases (show j = 0 ∨ j = 1 ∨ j = 2 ∨ j = 3 ∨ j = 4 ∨ j = 5 by omega) with rfl | rfl | rfl | rfl | rfl | rfl <;> (obtain rfl := Option.some.inj h; rfl)
theorem nine_at {a b : List Nat} {cur : Array Value} {n : Nat} (h : cur.toList.take n = uV a ++ uV b) : ∀ (j : Nat) (u : Value), (uV (a ++ b))[j]? = some u → cur[j]? = some u := fun j u hj => by
  rw [show uV (a ++ b) = uV a ++ uV b by unfold uV; rw [List.map_append], ← h, List.getElem?_take] at hj
  split at hj
  · simpa using hj
  · cases hj
set_option maxRecDepth 100000 in
set_option maxHeartbeats 6400000 in
theorem smay_yes (w : World) (s : Su) (hw : s.Wf) (hm : s.May) : Calls Tryz.prog 80 #[suV s] w fun e w' => e = .returned (.bool true) ∧ Below w.heap.size w w' := by
  obtain ⟨tx, mt, dt, pg, tp, bs, sg, cu, ep, la, sq, bl, bq, mk⟩ := s
  obtain ⟨w1, w2, w3, w4, w5, w6, w7, w8, w9, w10, w11⟩ := hw
  obtain ⟨m1, m2, m3, m4, m5, m6, m7, m8, m9⟩ := hm
  dsimp only at w1 w2 w3 w4 w5 w6 w7 w8 w9 w10 w11 m1 m2 m3 m4 m5 m6 m7 m8 m9
  obtain ⟨p0, p1, p2, p3, p4, p5, hp⟩ : ∃ a b c d e f, pg = [a, b, c, d, e, f] := by
    match hs : pg, w2 with
    | [a, b, c, d, e, f], _ => exact ⟨a, b, c, d, e, f, rfl⟩
  subst hp
  obtain ⟨mn, rfl⟩ : ∃ n : Nat, mt = (n : Int) := ⟨mt.toNat, by omega⟩
  obtain ⟨dn, rfl⟩ : ∃ n : Nat, dt = (n : Int) := ⟨dt.toNat, by omega⟩
  obtain ⟨cn, rfl⟩ : ∃ n : Nat, cu = (n : Int) := ⟨cu.toNat, by omega⟩
  have HMM : Hid (∀ n ∈ [p0, p1, p2, p3, p4, p5, tp, bs, sg], (n : Int) < (mn : Int)) := Lib.hid m9
  clear w2 w3 m9
  show Calls _ _ #[.agg #[.int .u64 (tx : Int), .int .i64 (mn : Int), .int .i64 (dn : Int), .int .u32 (p0 : Int), .int .u32 (p1 : Int), .int .u32 (p2 : Int), .int .u32 (p3 : Int), .int .u32 (p4 : Int), .int .u32 (p5 : Int), .int .u32 (tp : Int), .int .u32 (bs : Int), .int .u32 (sg : Int), .int .i64 (cn : Int), .int .u64 (ep : Int), .int .u64 (la : Int), .int .u64 (sq : Int), .int .u64 (bl : Int), .int .u64 (bq : Int), .bool mk]] w _
  obtain ⟨wa, hwa⟩ : ∃ W, w.alloc (.cells #[.int .u64 (tx : Int), .int .i64 (mn : Int), .int .i64 (dn : Int), .int .u32 (p0 : Int), .int .u32 (p1 : Int), .int .u32 (p2 : Int), .int .u32 (p3 : Int), .int .u32 (p4 : Int), .int .u32 (p5 : Int), .int .u32 (tp : Int), .int .u32 (bs : Int), .int .u32 (sg : Int), .int .i64 (cn : Int), .int .u64 (ep : Int), .int .u64 (la : Int), .int .u64 (sq : Int), .int .u64 (bl : Int), .int .u64 (bq : Int), .bool mk] 29) = W := ⟨_, rfl⟩
  have hba : Below w.heap.size w wa := by rw [← hwa]; exact balloc (Below.refl _ _) _
  have hxa : wa.heap[w.heap.size]? = some (.cells #[.int .u64 (tx : Int), .int .i64 (mn : Int), .int .i64 (dn : Int), .int .u32 (p0 : Int), .int .u32 (p1 : Int), .int .u32 (p2 : Int), .int .u32 (p3 : Int), .int .u32 (p4 : Int), .int .u32 (p5 : Int), .int .u32 (tp : Int), .int .u32 (bs : Int), .int .u32 (sg : Int), .int .i64 (cn : Int), .int .u64 (ep : Int), .int .u64 (la : Int), .int .u64 (sq : Int), .int .u64 (bl : Int), .int .u64 (bq : Int), .bool mk] 29 (0, 0)) := by rw [← hwa]; exact heap_alloc_new _ _
  have HCS : Hid (∀ X, Below wa.heap.size wa X → X.heap[w.heap.size]? = some (.cells #[.int .u64 (tx : Int), .int .i64 (mn : Int), .int .i64 (dn : Int), .int .u32 (p0 : Int), .int .u32 (p1 : Int), .int .u32 (p2 : Int), .int .u32 (p3 : Int), .int .u32 (p4 : Int), .int .u32 (p5 : Int), .int .u32 (tp : Int), .int .u32 (bs : Int), .int .u32 (sg : Int), .int .i64 (cn : Int), .int .u64 (ep : Int), .int .u64 (la : Int), .int .u64 (sq : Int), .int .u64 (bl : Int), .int .u64 (bq : Int), .bool mk] 29 (0, 0))) := Lib.hid (fun X hX => (hX.block _ (Array.getElem?_eq_some_iff.1 hxa).1).trans hxa)
  have HQL : Hid (w.heap.size < wa.heap.size) := Lib.hid (Array.getElem?_eq_some_iff.1 hxa).1
  have HBA := Lib.hid hba
  have c0 := cellOf hxa 0 (v := .int .u64 (tx : Int)) rfl
  have c1 := cellOf hxa 1 (v := .int .i64 (mn : Int)) rfl
  have c2 := cellOf hxa 2 (v := .int .i64 (dn : Int)) rfl
  have c12 := cellOf hxa 12 (v := .int .i64 (cn : Int)) rfl
  have D9 := Lib.hid (cellOf hxa 9 (v := .int .u32 (tp : Int)) rfl)
  have D10 := Lib.hid (cellOf hxa 10 (v := .int .u32 (bs : Int)) rfl)
  have D11 := Lib.hid (cellOf hxa 11 (v := .int .u32 (sg : Int)) rfl)
  clear hba hxa
  go_enter Tryz.func80, Tryz.ntmps80
  go_upto_region 3 with fail
  (try rw [hwa])
  clear hwa c0 c1 c2 c12
  have hsl := run_slice6 w.heap.size
  have HSS : Hid (∀ X, Below wa.heap.size wa X → (X.cell? ⟨w.heap.size, 9, none⟩ = some (.int .u32 (tp : Int)) ∧ X.cell? ⟨w.heap.size, 10, none⟩ = some (.int .u32 (bs : Int)) ∧ X.cell? ⟨w.heap.size, 11, none⟩ = some (.int .u32 (sg : Int))) ∧ Below wa.heap.size wa X) := Lib.hid (fun X hb => ⟨⟨(World.cell?_of_block (hb.block _ (HQL.out))).trans (D9.out), (World.cell?_of_block (hb.block _ (HQL.out))).trans (D10.out), (World.cell?_of_block (hb.block _ (HQL.out))).trans (D11.out)⟩, hb⟩)
  refine wp_region_held_drew (S := fun X => (X.cell? ⟨w.heap.size, 9, none⟩ = some (.int .u32 (tp : Int)) ∧ X.cell? ⟨w.heap.size, 10, none⟩ = some (.int .u32 (bs : Int)) ∧ X.cell? ⟨w.heap.size, 11, none⟩ = some (.int .u32 (sg : Int))) ∧ Below wa.heap.size wa X) (by kernel_rfl) (HSS.out _ (Below.refl _ _).drew) (fun hHeld => ?_)
  have hbe : Below wa.heap.size wa wa.drew := (Below.refl _ _).drew
  obtain ⟨wd, hwd⟩ : ∃ y, wa.drew = y := ⟨_, rfl⟩
  rw [hwd] at hHeld hbe ⊢
  have HBE := Lib.hid hbe
  have HS0 : Hid (wa.heap.size ≤ wd.heap.size) := Lib.hid HBE.out.size
  clear hwd hbe
  refine wpAnyH_take (i := 0) (v := ?_) rfl (by kernel_rfl) (by kernel_rfl) (by kernel_rfl) (fun _ _ _ h => h) (Or.inl ⟨by rfl, ?_⟩) (by assumption) ?_
  rotate_left
  · (intro w hSw; (try dsimp only at hSw); simp only [List.getElem_toArray, List.getElem_cons_zero, List.getElem_cons_succ]; go_simp; first | done | with_reducible rfl)
  simp only [List.getElem_toArray, List.getElem_cons_zero, List.getElem_cons_succ, Act.put, List.setIfInBounds_toArray, List.set_cons_zero, List.set_cons_succ]
  refine wpAnyH_take (i := 2) (v := ?_) rfl (by kernel_rfl) (by kernel_rfl) (by kernel_rfl) (fun _ _ _ h => h) (Or.inl ⟨by rfl, ?_⟩) (by assumption) ?_
  rotate_left
  · (intro w hSw; (try dsimp only at hSw); simp only [List.getElem_toArray, List.getElem_cons_zero, List.getElem_cons_succ]; go_simp; first | done | with_reducible rfl)
  simp only [List.getElem_toArray, List.getElem_cons_zero, List.getElem_cons_succ, Act.put, List.setIfInBounds_toArray, List.set_cons_zero, List.set_cons_succ]
  refine wpAnyH_take (i := 4) (v := ?_) rfl (by kernel_rfl) (by kernel_rfl) (by kernel_rfl) (fun _ _ _ h => h) (Or.inl ⟨by rfl, ?_⟩) (by assumption) ?_
  rotate_left
  · (intro w hSw; (try dsimp only at hSw); simp only [List.getElem_toArray, List.getElem_cons_zero, List.getElem_cons_succ]; go_simp; first | done | with_reducible rfl)
  simp only [List.getElem_toArray, List.getElem_cons_zero, List.getElem_cons_succ, Act.put, List.setIfInBounds_toArray, List.set_cons_zero, List.set_cons_succ]
  refine wpAnyH_take (i := 6) (v := ?_) rfl (by kernel_rfl) (by kernel_rfl) (by kernel_rfl) (fun _ _ _ h => h) (Or.inl ⟨by rfl, ?_⟩) (by assumption) ?_
  rotate_left
  · (intro w hSw; (try dsimp only at hSw); simp only [List.getElem_toArray, List.getElem_cons_zero, List.getElem_cons_succ]; go_simp; first | done | with_reducible rfl)
  simp only [List.getElem_toArray, List.getElem_cons_zero, List.getElem_cons_succ, Act.put, List.setIfInBounds_toArray, List.set_cons_zero, List.set_cons_succ]
  refine wpAnyH_take (i := 11) (v := ?_) rfl (by kernel_rfl) (by kernel_rfl) (by kernel_rfl) (fun _ _ _ h => h) (Or.inl ⟨by rfl, ?_⟩) (by assumption) ?_
  rotate_left
  · (intro w hSw; (try dsimp only at hSw); simp only [List.getElem_toArray, List.getElem_cons_zero, List.getElem_cons_succ]; go_simp; first | done | with_reducible rfl)
  simp only [List.getElem_toArray, List.getElem_cons_zero, List.getElem_cons_succ, Act.put, List.setIfInBounds_toArray, List.set_cons_zero, List.set_cons_succ]
  refine wpAnyH_take (i := 1) (v := ?_) rfl (by kernel_rfl) (by kernel_rfl) (by kernel_rfl) (fun _ _ _ h => h) (Or.inl ⟨by rfl, ?_⟩) (by assumption) ?_
  rotate_left
  · (intro w hSw; (try dsimp only at hSw); simp only [List.getElem_toArray, List.getElem_cons_zero, List.getElem_cons_succ]; go_simp; first | done | with_reducible rfl)
  simp only [List.getElem_toArray, List.getElem_cons_zero, List.getElem_cons_succ, Act.put, List.setIfInBounds_toArray, List.set_cons_zero, List.set_cons_succ]
  refine wpAnyH_take (i := 3) (v := ?_) rfl (by kernel_rfl) (by kernel_rfl) (by kernel_rfl) (fun _ _ _ h => h) (Or.inl ⟨by rfl, ?_⟩) (by assumption) ?_
  rotate_left
  · (intro w hSw; (try dsimp only at hSw); simp only [List.getElem_toArray, List.getElem_cons_zero, List.getElem_cons_succ]; go_simp; first | done | with_reducible rfl)
  simp only [List.getElem_toArray, List.getElem_cons_zero, List.getElem_cons_succ, Act.put, List.setIfInBounds_toArray, List.set_cons_zero, List.set_cons_succ]
  refine wpAnyH_take (i := 5) (v := ?_) rfl (by kernel_rfl) (by kernel_rfl) (by kernel_rfl) (fun _ _ _ h => h) (Or.inl ⟨by rfl, ?_⟩) (by assumption) ?_
  rotate_left
  · (intro w hSw; (try dsimp only at hSw); simp only [List.getElem_toArray, List.getElem_cons_zero, List.getElem_cons_succ]; go_simp; first | done | with_reducible rfl)
  simp only [List.getElem_toArray, List.getElem_cons_zero, List.getElem_cons_succ, Act.put, List.setIfInBounds_toArray, List.set_cons_zero, List.set_cons_succ]
  refine wpAnyH_take (i := 7) (v := ?_) rfl (by kernel_rfl) (by kernel_rfl) (by kernel_rfl) (fun _ _ _ h => h) (Or.inl ⟨by rfl, ?_⟩) (by assumption) ?_
  rotate_left
  · (intro w hSw; (try dsimp only at hSw); simp only [List.getElem_toArray, List.getElem_cons_zero, List.getElem_cons_succ]; go_simp; first | done | with_reducible rfl)
  simp only [List.getElem_toArray, List.getElem_cons_zero, List.getElem_cons_succ, Act.put, List.setIfInBounds_toArray, List.set_cons_zero, List.set_cons_succ]
  refine wpAnyH_ready (rs := [8]) (by kernel_rfl) (by simp) ?_
  refine AllReadyH.cons rfl (fun K hK => ?_) (AllReadyH.nil)
  simp only [List.getElem_toArray, List.getElem_cons_zero, List.getElem_cons_succ]
  go_simp
  obtain ⟨b8, hw8⟩ : ∃ b, wd.heap.size = b := ⟨_, rfl⟩
  obtain ⟨y8, hy8⟩ : ∃ y, wd.alloc (.cells #[.int .u32 (tp : Int), .int .u32 (bs : Int), .int .u32 (sg : Int)] 24) = y := ⟨_, rfl⟩
  rw [hy8, hw8]
  have hx8 : Below wd.heap.size wd y8 := by rw [← hy8]; exact balloc (Below.refl _ _) _
  have HN8 : Hid (y8.heap[b8]? = some (.cells #[.int .u32 (tp : Int), .int .u32 (bs : Int), .int .u32 (sg : Int)] 24 (0, 0))) := Lib.hid (by rw [← hy8, ← hw8]; exact heap_alloc_new _ _)
  have HG8 : Hid (wa.heap.size ≤ b8) := Lib.hid (by have := HBE.out.size; omega)
  clear hy8 hw8
  have HBE := Lib.hid (bthen HBE.out hx8)
  have hSp := HSS.out _ HBE.out
  clear hHeld
  refine hK.out _ _ hSp (fun hHeld => ?_)
  clear hSp hK K
  try simp only [Act.put, List.setIfInBounds_toArray, List.set_cons_zero, List.set_cons_succ]
  clear hx8
  refine wpAnyH_ready (rs := [9]) (by kernel_rfl) (by simp) ?_
  refine AllReadyH.cons rfl (fun K hK => ?_) (AllReadyH.nil)
  simp only [List.getElem_toArray, List.getElem_cons_zero, List.getElem_cons_succ]
  rw [if_pos (by rfl)]
  refine wp_app_arg _ _ 75 rfl 24 (.int .u32 0) 1 4 Tryz.underlying75 infoU32 rfl (by omega) ⟨w.heap.size, 3, none⟩ 6 6 (uV [p0, p1, p2, p3, p4, p5]) (by rfl) rfl (fun j u hj => by rw [Addr.add_lit]; exact cellOf (HCS.out _ HBE.out) (3 + j) (six_at hj)) ⟨b8, 0, none⟩ 3 3 (uV [tp, bs, sg]) (by rfl) rfl (fun j u hj => by rw [Addr.add_lit, Nat.zero_add]; exact cellOf HN8.out j (by simpa [uV] using hj)) (by omega) (by unfold maxLen; omega) (by omega) ?_
  intro v9 w9 ho9 hb9
  refine hK.out _ _ ?_ (fun hHeld => ?_)
  · exact HSS.out _ (bthn HBE.out hb9)
  clear hK K
  try simp only [Act.put, List.setIfInBounds_toArray, List.set_cons_zero, List.set_cons_succ]
  have HBE := Lib.hid (bthn HBE.out hb9)
  obtain ⟨g9, c9, cur9, hv9, _, _, _, _, hh9, _, ht9⟩ := rowSome ho9 (by omega)
  subst hv9
  have HH9 := Lib.hid hh9
  have HC9 : Hid (∀ (j : Nat) (u : Value), (uV [p0, p1, p2, p3, p4, p5, tp, bs, sg])[j]? = some u → cur9[j]? = some u) := Lib.hid (nine_at ht9)
  clear ho9 hb9 hh9 ht9
  refine wpAnyH_take (i := 10) (v := ?_) rfl (by kernel_rfl) (by kernel_rfl) (by kernel_rfl) (fun _ _ _ h => h) (Or.inl ⟨by rfl, ?_⟩) (by assumption) ?_
  rotate_left
  · (intro w hSw; (try dsimp only at hSw); simp only [List.getElem_toArray, List.getElem_cons_zero, List.getElem_cons_succ]; go_simp; first | done | with_reducible rfl)
  simp only [List.getElem_toArray, List.getElem_cons_zero, List.getElem_cons_succ, Act.put, List.setIfInBounds_toArray, List.set_cons_zero, List.set_cons_succ]
  refine wpAnyH_done (by kernel_rfl) ?_ _
  have HEND := Lib.hid hHeld.2
  have HSE := Lib.hid hHeld.1
  clear hHeld
  clear HSE HSS HEND
  have HM9 := Lib.hid HBE.out
  have HBW9 : Hid (Below wa.heap.size wa w9) := Lib.hid HBE.out
  have hcx := HCS.out w9 HBW9.out
  have e1 := cellOf hcx 1 (v := .int .i64 (mn : Int)) rfl
  clear hcx HBE
  go_wp2_with fail
  go_loopw [56] (fun v wr => ∃ k : Nat, k ≤ 9 ∧ v = .int .i64 (k : Int) ∧ w9 = wr) (fun v _ => 9 - (Go.RowKit.intOf v).toNat)
  case atStart => exact ⟨0, by omega, rfl, rfl⟩
  case round =>
    obtain ⟨k, hk, rfl, rfl⟩ := hrel
    by_cases hlt : k < 9
    · obtain ⟨n, hn⟩ : ∃ n, [p0, p1, p2, p3, p4, p5, tp, bs, sg][k]? = some n := ⟨_, List.getElem?_eq_getElem (by simpa using hlt)⟩
      have hnm := HMM.out n (List.mem_of_getElem? hn)
      have hcn := cellOf HH9.out k (HC9.out k _ (by unfold uV; rw [List.getElem?_map, hn]; rfl))
      have hnb : decide ((mn : Int) ≤ (n : Int)) = false := decide_eq_false (by omega)
      clear hn
      go_wp2_with fail
      go_roundw
      case rel => exact ⟨k + 1, by omega, by go_num, trivial⟩
      case measure => simp [Go.RowKit.intOf]; omega
    · obtain rfl : k = 9 := by omega
      go_wp2_with fail
      go_ret
      exact ⟨rfl, bthn HBA.out HBW9.out⟩
end Go.Proofs.YtcdobdjemlaaaaaGreat
