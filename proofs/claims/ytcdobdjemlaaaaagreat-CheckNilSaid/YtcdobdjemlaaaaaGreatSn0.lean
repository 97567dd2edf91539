/- super: numbers, walked. -/
import Derived.Test.YtcdobdjemlaaaaaGreatJn1
namespace Go.Proofs.YtcdobdjemlaaaaaGreat
open Go.RowKit Wire
set_option linter.unusedVariables false
set_option linter.unusedSimpArgs false

/-- A superblock's cells. -/
def suC (tx : Nat) (mt dt : Int) (p0 p1 p2 p3 p4 p5 tp bs sg : Nat) (cu : Int) (ep la sq bl bq : Nat) (mk : Bool) : Array Value :=
  #[.int .u64 (tx : Int), .int .i64 mt, .int .i64 dt, .int .u32 (p0 : Int), .int .u32 (p1 : Int), .int .u32 (p2 : Int), .int .u32 (p3 : Int), .int .u32 (p4 : Int), .int .u32 (p5 : Int), .int .u32 (tp : Int), .int .u32 (bs : Int), .int .u32 (sg : Int), .int .i64 cu, .int .u64 (ep : Int), .int .u64 (la : Int), .int .u64 (sq : Int), .int .u64 (bl : Int), .int .u64 (bq : Int), .bool mk]
def suV (s : Su) : Value := .agg (suC s.tx s.mt s.data (s.pages.getD 0 0) (s.pages.getD 1 0) (s.pages.getD 2 0) (s.pages.getD 3 0) (s.pages.getD 4 0) (s.pages.getD 5 0) s.top s.base s.stage s.cursor s.epoch s.last s.seq s.blast s.bseq s.marked)
/-- Pairs of numbers as cells. -/
def nC (l : List (Nat × Nat)) : List Value := l.flatMap fun p => [.int .u64 (p.1 : Int), .int .u64 (p.2 : Int)]
theorem nC_app (a b : List (Nat × Nat)) : nC (a ++ b) = nC a ++ nC b := by unfold nC; rw [List.flatMap_append]
theorem nC_one : ∀ (l : List (Nat × Nat)), ∀ u ∈ nC l, u.oneCell' = true := fun l u hu => by
  unfold nC at hu
  obtain ⟨p, _, hp⟩ := List.mem_flatMap.1 hu
  rcases List.mem_cons.1 hp with rfl | hp
  · rfl
  · obtain rfl := List.mem_singleton.1 hp
    rfl
theorem infoN2 : (Tryz.prog.info? 233).map (fun i => (i.zero, i.size, i.bytes)) = some (some (.agg #[.int .u64 0, .int .u64 0]), 2, 16) := by kernel_rfl
set_option maxRecDepth 100000 in
set_option maxHeartbeats 12800000 in
theorem snums_at (w : World) (s : Su) (hw : s.Wf) (hm : s.May) : Calls Tryz.prog 159 #[suV s] w fun e w' => ∃ v, e = .returned v ∧ w'.ownsRow w.heap.size 233 2 v 19 (nC s.nums) ∧ Below w.heap.size w w' := by
  obtain ⟨tx, mt, dt, pg, tp, bs, sg, cu, ep, la, sq, bl, bq, mk⟩ := s
  obtain ⟨w1, w2, w3, w4, w5, w6, w7, w8, w9, w10, w11⟩ := hw
  obtain ⟨m1, m2, m3, m4, m5, m6, m7, m8, m9⟩ := hm
  dsimp only at w1 w2 w3 w4 w5 w6 w7 w8 w9 w10 w11 m1 m2 m3 m4 m5 m6 m7 m8 m9
  obtain ⟨p0, p1, p2, p3, p4, p5, hp⟩ : ∃ a b c d e f, pg = [a, b, c, d, e, f] := by
    match hs : pg, w2 with
    | [a, b, c, d, e, f], _ => exact ⟨a, b, c, d, e, f, rfl⟩
  subst hp
  obtain ⟨mn, rfl⟩ : ∃ n : Nat, mt = (n : Int) := ⟨mt.toNat, by omega⟩
  obtain ⟨dn, rfl⟩ : ∃ n : Nat, dt = (n : Int) := ⟨dt.toNat, by omega⟩
  obtain ⟨cn, rfl⟩ : ∃ n : Nat, cu = (n : Int) := ⟨cu.toNat, by omega⟩
  have q0 := w3 p0 (by simp)
  have q1 := w3 p1 (by simp)
  have q2 := w3 p2 (by simp)
  have q3 := w3 p3 (by simp)
  have q4 := w3 p4 (by simp)
  have q5 := w3 p5 (by simp)
  clear w2 w3 m9
  show Calls _ _ #[.agg #[.int .u64 (tx : Int), .int .i64 (mn : Int), .int .i64 (dn : Int), .int .u32 (p0 : Int), .int .u32 (p1 : Int), .int .u32 (p2 : Int), .int .u32 (p3 : Int), .int .u32 (p4 : Int), .int .u32 (p5 : Int), .int .u32 (tp : Int), .int .u32 (bs : Int), .int .u32 (sg : Int), .int .i64 (cn : Int), .int .u64 (ep : Int), .int .u64 (la : Int), .int .u64 (sq : Int), .int .u64 (bl : Int), .int .u64 (bq : Int), .bool mk]] w _
  obtain ⟨wa, hwa⟩ : ∃ W, w.alloc (.cells #[.int .u64 (tx : Int), .int .i64 (mn : Int), .int .i64 (dn : Int), .int .u32 (p0 : Int), .int .u32 (p1 : Int), .int .u32 (p2 : Int), .int .u32 (p3 : Int), .int .u32 (p4 : Int), .int .u32 (p5 : Int), .int .u32 (tp : Int), .int .u32 (bs : Int), .int .u32 (sg : Int), .int .i64 (cn : Int), .int .u64 (ep : Int), .int .u64 (la : Int), .int .u64 (sq : Int), .int .u64 (bl : Int), .int .u64 (bq : Int), .bool mk] 29) = W := ⟨_, rfl⟩
  have hba : Below w.heap.size w wa := by rw [← hwa]; exact balloc (Below.refl _ _) _
  have hxa : wa.heap[w.heap.size]? = some (.cells #[.int .u64 (tx : Int), .int .i64 (mn : Int), .int .i64 (dn : Int), .int .u32 (p0 : Int), .int .u32 (p1 : Int), .int .u32 (p2 : Int), .int .u32 (p3 : Int), .int .u32 (p4 : Int), .int .u32 (p5 : Int), .int .u32 (tp : Int), .int .u32 (bs : Int), .int .u32 (sg : Int), .int .i64 (cn : Int), .int .u64 (ep : Int), .int .u64 (la : Int), .int .u64 (sq : Int), .int .u64 (bl : Int), .int .u64 (bq : Int), .bool mk] 29 (0, 0)) := by rw [← hwa]; exact heap_alloc_new _ _
  have HCS : Hid (∀ X, Below wa.heap.size wa X → X.heap[w.heap.size]? = some (.cells #[.int .u64 (tx : Int), .int .i64 (mn : Int), .int .i64 (dn : Int), .int .u32 (p0 : Int), .int .u32 (p1 : Int), .int .u32 (p2 : Int), .int .u32 (p3 : Int), .int .u32 (p4 : Int), .int .u32 (p5 : Int), .int .u32 (tp : Int), .int .u32 (bs : Int), .int .u32 (sg : Int), .int .i64 (cn : Int), .int .u64 (ep : Int), .int .u64 (la : Int), .int .u64 (sq : Int), .int .u64 (bl : Int), .int .u64 (bq : Int), .bool mk] 29 (0, 0))) := Lib.hid (fun X hX => (hX.block _ (Array.getElem?_eq_some_iff.1 hxa).1).trans hxa)
  have HBA := Lib.hid hba
  clear hba
  have c0 := cellOf hxa 0 (v := .int .u64 (tx : Int)) rfl
  have c1 := cellOf hxa 1 (v := .int .i64 (mn : Int)) rfl
  have c2 := cellOf hxa 2 (v := .int .i64 (dn : Int)) rfl
  clear hxa
  go_enter Tryz.func159, Tryz.ntmps159
  go_upto_region 1 with fail
  (try rw [hwa])
  clear hwa
  go_wp2_with (at_builtin; go_must (refine wpList_apps rfl _ _ 231 rfl wa.heap.size 233 _ 2 16 Tryz.underlying231 infoN2 rfl (by decide) (by decide) (.slice none 0 0) 0 [] (by rfl) (World.ownsRow_nil _ _ _ _) _ 3 _ (by rfl) (rdCells (heap_alloc_new _ _) rfl (by omega)) (by simp [Value.oneCell']) (by omega) (by simp) ?_); intro v7 w7 ho7 hb7 hg7 hs7 hn7; refine Hid.out ?_)
  obtain ⟨l3, hl3⟩ : ∃ l : List (Nat × Nat), l = [(tx, 8), (mn, 4), (dn, 4)] := ⟨_, rfl⟩
  have HL3 := Lib.hid hl3
  have HO7 : Hid (w7.ownsRow wa.heap.size 233 2 v7 (3 + 0) (nC (l3 ++ (([p0, p1, p2, p3, p4, p5].take 0).map fun n => (n, 4))))) := Lib.hid (by rw [hl3]; simpa [nC] using ho7)
  have HB7 : Hid (Below wa.heap.size wa w7) := Lib.hid ((balloc (Below.refl _ _) _).trans hb7)
  have hx7 := HCS.out w7 HB7.out
  have c3 := cellOf hx7 3 (v := .int .u32 (p0 : Int)) rfl
  have c4 := cellOf hx7 4 (v := .int .u32 (p1 : Int)) rfl
  have c5 := cellOf hx7 5 (v := .int .u32 (p2 : Int)) rfl
  have c6 := cellOf hx7 6 (v := .int .u32 (p3 : Int)) rfl
  have c7 := cellOf hx7 7 (v := .int .u32 (p4 : Int)) rfl
  have c8 := cellOf hx7 8 (v := .int .u32 (p5 : Int)) rfl
  clear ho7 hb7 hg7 hs7 hn7 hx7 hl3 c0 c1 c2
  refine Lib.hid ?_
  go_wp2_with fail
  go_loopw [2, 23] (fun s v wr => ∃ k : Nat, k ≤ 6 ∧ v = .int .i64 (k : Int) ∧ wr.ownsRow wa.heap.size 233 2 s (3 + k) (nC (l3 ++ (([p0, p1, p2, p3, p4, p5].take k).map fun n => (n, 4)))) ∧ Below wa.heap.size wa wr) (fun _ v _ => 6 - (Go.RowKit.intOf v).toNat)
  case atStart => exact ⟨0, by omega, rfl, HO7.out, HB7.out⟩
  case round =>
    obtain ⟨k, hk, rfl, ho, hb⟩ := hrel
    have HO := Lib.hid ho
    have HB := Lib.hid hb
    clear ho hb
    by_cases hlt : k < 6
    · obtain ⟨pk, hpk⟩ : ∃ x, [p0, p1, p2, p3, p4, p5][k]? = some x := ⟨_, List.getElem?_eq_getElem (by simpa using hlt)⟩
      have hpb : pk < 4294967296 := by
        rcases (show k = 0 ∨ k = 1 ∨ k = 2 ∨ k = 3 ∨ k = 4 ∨ k = 5 by omega) with rfl | rfl | rfl | rfl | rfl | rfl <;> (obtain rfl := Option.some.inj hpk; assumption)
      have hix : ∀ W, (Instr.index 25 (.agg #[.int .u32 (p0 : Int), .int .u32 (p1 : Int), .int .u32 (p2 : Int), .int .u32 (p3 : Int), .int .u32 (p4 : Int), .int .u32 (p5 : Int)]) (.int .i64 (k : Int))).run Tryz.prog W = .ok (.int .u32 (pk : Int)) W := fun W => by
        rcases (show k = 0 ∨ k = 1 ∨ k = 2 ∨ k = 3 ∨ k = 4 ∨ k = 5 by omega) with rfl | rfl | rfl | rfl | rfl | rfl <;> (obtain rfl := Option.some.inj hpk; kernel_rfl)
      have HLT : Hid (l3 ++ (([p0, p1, p2, p3, p4, p5].take (k + 1)).map fun n => (n, 4)) = (l3 ++ (([p0, p1, p2, p3, p4, p5].take k).map fun n => (n, 4))) ++ [(pk, 4)]) := Lib.hid (by
        rw [List.take_add_one, hpk, List.map_append, List.append_assoc]
        rfl)
      clear hpk
      go_wp2_with (at_builtin; go_must (refine wpList_apps rfl _ _ 231 rfl wa.heap.size 233 _ 2 16 Tryz.underlying231 infoN2 rfl (by decide) (by decide) _ (3 + k) _ (by rfl) (ownsRow_below HO.out (balloc (Below.refl _ _) _)) _ 1 _ (by rfl) (rdCells (heap_alloc_new _ _) rfl (by omega)) (by simp [Value.oneCell']) (by omega) (Nat.le_trans HB.out.size (balloc (Below.refl _ _) _).size) ?_); intro v8 w8 ho8 hb8 hg8 hs8 hn8; refine Hid.out ?_)
      have HO8 : Hid (w8.ownsRow wa.heap.size 233 2 v8 (3 + (k + 1)) (nC (l3 ++ (([p0, p1, p2, p3, p4, p5].take (k + 1)).map fun n => (n, 4))))) := Lib.hid (by rw [HLT.out, nC_app, ← Nat.add_assoc]; exact ho8)
      have HB8 : Hid (Below wa.heap.size wa w8) := Lib.hid ((HB.out.trans ((balloc (Below.refl _ _) _).mono HB.out.size)).trans hb8)
      clear ho8 hb8 hg8 hs8 hn8
      refine Lib.hid ?_
      go_wp2_with fail
      go_roundw
      case rel => exact ⟨k + 1, by omega, by go_num, HO8.out, HB8.out⟩
      case measure => simp [Go.RowKit.intOf]; omega
    · obtain rfl : k = 6 := by omega
      have hx9 := HCS.out wr HB.out
      have c9 := cellOf hx9 9 (v := .int .u32 (tp : Int)) rfl
      have c10 := cellOf hx9 10 (v := .int .u32 (bs : Int)) rfl
      have c11 := cellOf hx9 11 (v := .int .u32 (sg : Int)) rfl
      have c12 := cellOf hx9 12 (v := .int .i64 (cn : Int)) rfl
      have c13 := cellOf hx9 13 (v := .int .u64 (ep : Int)) rfl
      have c14 := cellOf hx9 14 (v := .int .u64 (la : Int)) rfl
      have c15 := cellOf hx9 15 (v := .int .u64 (sq : Int)) rfl
      have c16 := cellOf hx9 16 (v := .int .u64 (bl : Int)) rfl
      have c17 := cellOf hx9 17 (v := .int .u64 (bq : Int)) rfl
      have c18 := cellOf hx9 18 (v := .bool mk) rfl
      have HLE : Hid (Su.nums ⟨tx, (mn : Int), (dn : Int), [p0, p1, p2, p3, p4, p5], tp, bs, sg, (cn : Int), ep, la, sq, bl, bq, mk⟩ = (l3 ++ (([p0, p1, p2, p3, p4, p5].take 6).map fun n => (n, 4))) ++ [(tp, 4), (bs, 4), (sg, 4), (cn, 4), (ep, 8), (la, 8), (sq, 8), (bl, 8), (bq, 8), (if mk then 1 else 0, 1)]) := Lib.hid (by rw [HL3.out]; rfl)
      clear hx9
      cases mk with
      | true =>
        go_upto_region 11 with fail
        obtain ⟨wz, hwz⟩ : ∃ W, wr.alloc (.cells #[.int .u64 (ep : Int), .int .u64 (la : Int), .int .u64 (sq : Int), .int .u64 (bl : Int), .int .u64 (bq : Int), .bool true] 27) = W := ⟨_, rfl⟩
        have hbz : Below wr.heap.size wr wz := by rw [← hwz]; exact balloc (Below.refl _ _) _
        obtain ⟨zq, hzq⟩ : ∃ x, wr.heap.size = x := ⟨_, rfl⟩
        have hxz : wz.heap[zq]? = some (.cells #[.int .u64 (ep : Int), .int .u64 (la : Int), .int .u64 (sq : Int), .int .u64 (bl : Int), .int .u64 (bq : Int), .bool true] 27 (0, 0)) := by rw [← hwz, ← hzq]; exact heap_alloc_new _ _
        have z0 := cellOf hxz 0 (v := .int .u64 (ep : Int)) rfl
        have z1 := cellOf hxz 1 (v := .int .u64 (la : Int)) rfl
        have z2 := cellOf hxz 2 (v := .int .u64 (sq : Int)) rfl
        have z3 := cellOf hxz 3 (v := .int .u64 (bl : Int)) rfl
        have z4 := cellOf hxz 4 (v := .int .u64 (bq : Int)) rfl
        have HBZ : Hid (Below wa.heap.size wa wz) := Lib.hid (HB.out.trans (hbz.mono HB.out.size))
        have hx9 := HCS.out wz HBZ.out
        have d9 := cellOf hx9 9 (v := .int .u32 (tp : Int)) rfl
        have d10 := cellOf hx9 10 (v := .int .u32 (bs : Int)) rfl
        have d11 := cellOf hx9 11 (v := .int .u32 (sg : Int)) rfl
        have d12 := cellOf hx9 12 (v := .int .i64 (cn : Int)) rfl
        have HOZ := Lib.hid (ownsRow_below HO.out hbz)
        rw [hwz, hzq]
        clear hwz hzq hxz hbz hx9 c9 c10 c11 c12 c13 c14 c15 c16 c17 c18
        go_wp2_with (at_builtin; go_must (refine wpList_apps rfl _ _ 231 rfl wa.heap.size 233 _ 2 16 Tryz.underlying231 infoN2 rfl (by decide) (by decide) _ (3 + 6) _ (by rfl) (ownsRow_below HOZ.out (balloc (Below.refl _ _) _)) _ 10 _ (by rfl) (rdCells (heap_alloc_new _ _) rfl (by omega)) (by simp [Value.oneCell']) (by omega) (Nat.le_trans HBZ.out.size (balloc (Below.refl _ _) _).size) ?_); intro v8 w8 ho8 hb8 hg8 hs8 hn8; refine Hid.out ?_)
        have HO8 : Hid (w8.ownsRow wa.heap.size 233 2 v8 19 (nC (Su.nums ⟨tx, (mn : Int), (dn : Int), [p0, p1, p2, p3, p4, p5], tp, bs, sg, (cn : Int), ep, la, sq, bl, bq, true⟩))) := Lib.hid (by rw [HLE.out, nC_app]; exact ho8)
        have HB8 : Hid (Below wa.heap.size wa w8) := Lib.hid ((HBZ.out.trans ((balloc (Below.refl _ _) _).mono HBZ.out.size)).trans hb8)
        clear ho8 hb8 hg8 hs8 hn8
        refine Lib.hid ?_
        go_wp2_with fail
        go_ret
        exact ⟨_, rfl, ownsRow_base HO8.out HBA.out.size, bthn HBA.out HB8.out⟩
      | false =>
        go_upto_region 11 with fail
        obtain ⟨wz, hwz⟩ : ∃ W, wr.alloc (.cells #[.int .u64 (ep : Int), .int .u64 (la : Int), .int .u64 (sq : Int), .int .u64 (bl : Int), .int .u64 (bq : Int), .bool false] 27) = W := ⟨_, rfl⟩
        have hbz : Below wr.heap.size wr wz := by rw [← hwz]; exact balloc (Below.refl _ _) _
        obtain ⟨zq, hzq⟩ : ∃ x, wr.heap.size = x := ⟨_, rfl⟩
        have hxz : wz.heap[zq]? = some (.cells #[.int .u64 (ep : Int), .int .u64 (la : Int), .int .u64 (sq : Int), .int .u64 (bl : Int), .int .u64 (bq : Int), .bool false] 27 (0, 0)) := by rw [← hwz, ← hzq]; exact heap_alloc_new _ _
        have z0 := cellOf hxz 0 (v := .int .u64 (ep : Int)) rfl
        have z1 := cellOf hxz 1 (v := .int .u64 (la : Int)) rfl
        have z2 := cellOf hxz 2 (v := .int .u64 (sq : Int)) rfl
        have z3 := cellOf hxz 3 (v := .int .u64 (bl : Int)) rfl
        have z4 := cellOf hxz 4 (v := .int .u64 (bq : Int)) rfl
        have HBZ : Hid (Below wa.heap.size wa wz) := Lib.hid (HB.out.trans (hbz.mono HB.out.size))
        have hx9 := HCS.out wz HBZ.out
        have d9 := cellOf hx9 9 (v := .int .u32 (tp : Int)) rfl
        have d10 := cellOf hx9 10 (v := .int .u32 (bs : Int)) rfl
        have d11 := cellOf hx9 11 (v := .int .u32 (sg : Int)) rfl
        have d12 := cellOf hx9 12 (v := .int .i64 (cn : Int)) rfl
        have HOZ := Lib.hid (ownsRow_below HO.out hbz)
        rw [hwz, hzq]
        clear hwz hzq hxz hbz hx9 c9 c10 c11 c12 c13 c14 c15 c16 c17 c18
        go_wp2_with (at_builtin; go_must (refine wpList_apps rfl _ _ 231 rfl wa.heap.size 233 _ 2 16 Tryz.underlying231 infoN2 rfl (by decide) (by decide) _ (3 + 6) _ (by rfl) (ownsRow_below HOZ.out (balloc (Below.refl _ _) _)) _ 10 _ (by rfl) (rdCells (heap_alloc_new _ _) rfl (by omega)) (by simp [Value.oneCell']) (by omega) (Nat.le_trans HBZ.out.size (balloc (Below.refl _ _) _).size) ?_); intro v8 w8 ho8 hb8 hg8 hs8 hn8; refine Hid.out ?_)
        have HO8 : Hid (w8.ownsRow wa.heap.size 233 2 v8 19 (nC (Su.nums ⟨tx, (mn : Int), (dn : Int), [p0, p1, p2, p3, p4, p5], tp, bs, sg, (cn : Int), ep, la, sq, bl, bq, false⟩))) := Lib.hid (by rw [HLE.out, nC_app]; exact ho8)
        have HB8 : Hid (Below wa.heap.size wa w8) := Lib.hid ((HBZ.out.trans ((balloc (Below.refl _ _) _).mono HBZ.out.size)).trans hb8)
        clear ho8 hb8 hg8 hs8 hn8
        refine Lib.hid ?_
        go_wp2_with fail
        go_ret
        exact ⟨_, rfl, ownsRow_base HO8.out HBA.out.size, bthn HBA.out HB8.out⟩
end Go.Proofs.YtcdobdjemlaaaaaGreat
