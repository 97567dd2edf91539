import Derived.Test.YtgmahhdnjikdjaaGreatPG24
import Derived.Test.YtgmahhdnjikdjaaGreatPG20
import Derived.Test.YtgmahhdnjikdjaaGreatPG2
import Derived.Test.YtgmahhdnjikdjaaGreatPG16
set_option linter.unusedVariables false
set_option linter.unusedSimpArgs false
/- store.Shadow of a fresh block that is named once, walked. -/
namespace Go.Proofs.YtgmahhdnjikdjaaGreat
open Go.RowKit Go.Maps Wire
set_option linter.unusedVariables false
set_option linter.unusedSimpArgs false
/-- What Shadow leaves. -/
def ShadP (w : World) (i : Nat) (y : Nd) (e : Ending) (w' : World) : Prop := ∃ x, e = .returned (.tuple #[.int .u32 (i : Int), ndA x, .int .i64 0]) ∧ NdAt w' w.heap.size x y ∧ Below w.heap.size w w'
/-- Shadow's three answers in memory. -/
structure Tri (w : World) (q1 q2 q3 : Nat) (a : Value) (L : Array Value) (c : Value) : Prop where
 h1 : w.heap[q1]? = some (.cells #[a] 22 (0, 0))
 h2 : w.heap[q2]? = some (.cells L 159 (0, 0))
 h3 : w.heap[q3]? = some (.cells #[c] 23 (0, 0))
 lt : q1 < q2 ∧ q2 < q3
theorem Tri.s1 {w : World} {q1 q2 q3 : Nat} {a c : Value} {L : Array Value} (h : Tri w q1 q2 q3 a L c) (a' : Value) : Tri (w.setCell ⟨q1, 0, none⟩ a') q1 q2 q3 a' L c :=
 ⟨setOf h.h1 0 a', (Below.heap_setCell w ⟨q1, 0, none⟩ _ q2 (by show q2 ≠ q1; have := h.lt; omega)).trans h.h2, (Below.heap_setCell w ⟨q1, 0, none⟩ _ q3 (by show q3 ≠ q1; have := h.lt; omega)).trans h.h3, h.lt⟩
theorem Tri.s3 {w : World} {q1 q2 q3 : Nat} {a c : Value} {L : Array Value} (h : Tri w q1 q2 q3 a L c) (c' : Value) : Tri (w.setCell ⟨q3, 0, none⟩ c') q1 q2 q3 a L c' :=
 ⟨(Below.heap_setCell w ⟨q3, 0, none⟩ _ q1 (by show q1 ≠ q3; have := h.lt; omega)).trans h.h1, (Below.heap_setCell w ⟨q3, 0, none⟩ _ q2 (by show q2 ≠ q3; have := h.lt; omega)).trans h.h2, setOf h.h3 0 c', h.lt⟩
theorem Tri.s2 {w : World} {q1 q2 q3 : Nat} {a c u0 u1 u2 u3 : Value} (h : Tri w q1 q2 q3 a #[u0, u1, u2, u3] c) (v0 v1 v2 v3 : Value) : Tri ((((w.setCell ⟨q2, 0, none⟩ v0).setCell ⟨q2, 1, none⟩ v1).setCell ⟨q2, 2, none⟩ v2).setCell ⟨q2, 3, none⟩ v3) q1 q2 q3 a #[v0, v1, v2, v3] c := by
 have hm : Mods [q2] w ((((w.setCell ⟨q2, 0, none⟩ v0).setCell ⟨q2, 1, none⟩ v1).setCell ⟨q2, 2, none⟩ v2).setCell ⟨q2, 3, none⟩ v3) := ((((Mods.refl _ w).setCell (p := ⟨q2, 0, none⟩) (List.mem_singleton.2 rfl) _).setCell (p := ⟨q2, 1, none⟩) (List.mem_singleton.2 rfl) _).setCell (p := ⟨q2, 2, none⟩) (List.mem_singleton.2 rfl) _).setCell (p := ⟨q2, 3, none⟩) (List.mem_singleton.2 rfl) _
 have hl := h.lt
 exact ⟨(hm.block _ (Array.getElem?_eq_some_iff.1 h.h1).1 (by simp; omega)).trans h.h1, setOf (setOf (setOf (setOf h.h2 0 v0) 1 v1) 2 v2) 3 v3, (hm.block _ (Array.getElem?_eq_some_iff.1 h.h3).1 (by simp; omega)).trans h.h3, h.lt⟩
end Go.Proofs.YtgmahhdnjikdjaaGreat
/- btree.may, walked. -/
namespace Go.Proofs.YtgmahhdnjikdjaaGreat
open Go.RowKit Go.Maps Wire
set_option linter.unusedVariables false
set_option linter.unusedSimpArgs false
set_option maxRecDepth 100000 in
set_option maxHeartbeats 6400000 in
theorem tmay_in {w : World} {S B pm pd mf md : Nat} {s : Su} {A D : M} {Fm Fd : List Nat} (h : StB w S B pm pd mf md s A D Fm Fd false) (n : Nat) (hn : n < A.now.length) : Calls Tryz.prog 73 #[.pointer (some ⟨S, 0, none⟩), .int .u32 (n : Int)] w fun e w' => e = .returned (.int .i64 0) ∧ Below w.heap.size w w' := by
 have CS := ssuper_at h
 have CB : Hid (∀ X, Below w.heap.size w X → Calls Tryz.prog 72 #[.pointer (some ⟨S, 0, none⟩)] X fun e w' => e = .returned (.bool false) ∧ X = w') := Lib.hid (fun X hX => sbroken_at (h.below hX))
 have hm9 := h.mok.max
 have hmt := h.ml
 rw [suL_v] at CS
 obtain ⟨SL, hSL⟩ : ∃ L, suL s = L := ⟨_, rfl⟩
 have HMT : Hid (SL[1]? = some (.int .i64 s.mt)) := Lib.hid (by rw [← hSL]; rfl)
 have HS19 : Hid (SL.length = 19) := Lib.hid (by rw [← hSL]; rfl)
 have HS1 : Hid (SL.toArray.all (·.oneCell') = true) := Lib.hid (by rw [← hSL]; exact Array.all_eq_true_iff_forall_mem.2 (fun v hv => suL_one s v (by simpa using hv)))
 have hss : SL.toArray.size = 19 := by rw [List.size_toArray, HS19.out]
 rw [hSL] at CS
 obtain ⟨mt, hm⟩ : ∃ x, s.mt = x := ⟨_, rfl⟩
 rw [hm] at HMT hmt
 have hn4 : (n : Int) < 4294967296 := by omega
 have hz : (mt == 0) = false := by simp; omega
 have hn1 : decide (mt ≤ (n : Int)) = false := by simp; omega
 clear h hSL hm hmt
 go_enter Tryz.func73, Tryz.ntmps73
 go_wp2_with fail
 refine CS.mono ?_
 rintro e w2 ⟨rfl, hb2⟩
 have HB2 := Lib.hid hb2
 clear CS hb2
 dsimp only
 repeat (first
  | (refine wpList_store_mid rfl 72 _ _ rfl w2.heap.size 0 SL.toArray rfl rfl (thereOf (heap_alloc_new w2 _) (by rw [hss]; simp)) (by rw [hss]; exact infoSup) HS1.out ?_; refine Hid.out ?_)
  | go_step)
 refine Lib.hid ?_
 obtain ⟨w4, hw4⟩ : ∃ W, (w2.alloc (.cells #[.int .u64 0, .int .i64 0, .int .i64 0, .int .u32 0, .int .u32 0, .int .u32 0, .int .u32 0, .int .u32 0, .int .u32 0, .int .u32 0, .int .u32 0, .int .u32 0, .int .i64 0, .int .u64 0, .int .u64 0, .int .u64 0, .int .u64 0, .int .u64 0, .bool false] 72)).setCells w2.heap.size 0 SL = W := ⟨_, rfl⟩
 have HB4 : Hid (Below w.heap.size w w4) := Lib.hid (by rw [← hw4]; exact bthn HB2.out (belowSets (Nat.le_refl _) _ _ _ (balloc (Below.refl _ _) _)))
 obtain ⟨g4, hg4⟩ : ∃ g, w2.heap.size = g := ⟨_, rfl⟩
 have HR4 : Hid (w4.rangeAt g4 0 SL) := Lib.hid (by rw [← hw4, ← hg4]; exact World.rangeAt_setCells_same _ _ _ _ (thereOf (heap_alloc_new w2 _) (by rw [HS19.out]; simp)))
 have hc1 : w4.cell? ⟨g4, 1, none⟩ = some (.int .i64 mt) := HR4.out 1 _ HMT.out
 have CB4 := CB.out w4 HB4.out
 simp only [List.toList_toArray]
 rw [hw4, hg4]
 clear hw4 hg4 CB
 go_wp2_with fail
 refine CB4.mono ?_
 rintro e w5 ⟨rfl, rfl⟩
 clear CB4
 go_wp2_with fail
 go_ret
 exact ⟨rfl, HB4.out⟩
end Go.Proofs.YtgmahhdnjikdjaaGreat
/- btree.Get of a tree that is a leaf, walked. -/
namespace Go.Proofs.YtgmahhdnjikdjaaGreat
open Go.RowKit Go.Maps Wire
set_option linter.unusedVariables false
set_option linter.unusedSimpArgs false
/-- What is under a key in a leaf. -/
def Nd.at_ (y : Nd) (x : Nat) : Option Nat := if y.keys[findI y.keys x]? = some x then y.vals[findI y.keys x]? else none
/-- What Get answers. -/
def GetP (w : World) (y : Nd) (x : Nat) (e : Ending) (w' : World) : Prop :=
 (match y.at_ x with
  | some v => e = .returned (.tuple #[.int .u64 (v : Int), .bool true, .int .i64 0])
  | none => e = .returned (.tuple #[.int .u64 0, .bool false, .int .i64 0])) ∧ Below w.heap.size w w'
end Go.Proofs.YtgmahhdnjikdjaaGreat
/- btree.first, Put into an empty tree, walked. -/
namespace Go.Proofs.YtgmahhdnjikdjaaGreat
open Go.RowKit Go.Maps Wire
set_option linter.unusedVariables false
set_option linter.unusedSimpArgs false
end Go.Proofs.YtgmahhdnjikdjaaGreat
/- btree.Put into an empty tree, walked. -/
namespace Go.Proofs.YtgmahhdnjikdjaaGreat
open Go.RowKit Go.Maps Wire
set_option linter.unusedVariables false
set_option linter.unusedSimpArgs false
end Go.Proofs.YtgmahhdnjikdjaaGreat
/- btree: what is answered of a store that is not there, and of an empty tree, walked. -/
namespace Go.Proofs.YtgmahhdnjikdjaaGreat
open Go.RowKit Go.Maps Wire
set_option linter.unusedVariables false
set_option linter.unusedSimpArgs false
theorem agg72 (w : World) : (isAgg 59).run Tryz.prog w = .ok false w := by kernel_rfl
set_option maxRecDepth 100000 in
set_option maxHeartbeats 3200000 in
theorem tall_0 {w : World} {S B pm pd mf md : Nat} {s : Su} {A D : M} {Fm Fd : List Nat} (h : StB w S B pm pd mf md s A D Fm Fd false) (k : Int) : Calls Tryz.prog 40 #[.pointer (some ⟨S, 0, none⟩), .int .u32 0, .int .u64 k] w fun e w' => e = .returned (.tuple #[.slice none 0 0, .int .i64 0]) ∧ Below w.heap.size w w' := by
 obtain ⟨a0, ha0⟩ : ∃ W, w.alloc (.cells #[.int .u64 k] 26) = W := ⟨_, rfl⟩
 have ba0 : Below w.heap.size w a0 := by rw [← ha0]; exact balloc (Below.refl _ _) _
 have xa0 : a0.heap[w.heap.size]? = some (.cells #[.int .u64 k] 26 (0, 0)) := by rw [← ha0]; exact heap_alloc_new _ _
 obtain ⟨a1, ha1⟩ : ∃ W, a0.alloc (.cells #[.slice none 0 0] 59) = W := ⟨_, rfl⟩
 have ba1 : Below a0.heap.size a0 a1 := by rw [← ha1]; exact balloc (Below.refl _ _) _
 have xa1 : a1.heap[a0.heap.size]? = some (.cells #[.slice none 0 0] 59 (0, 0)) := by rw [← ha1]; exact heap_alloc_new _ _
 have HZ : Hid (w.heap.size ≤ a0.heap.size) := Lib.hid ba0.size
 have HB0 : Hid (Below w.heap.size w a1) := Lib.hid (bthn ba0 ba1)
 have HX0 := Lib.hid xa1
 have C := tmay_in (h.below (HB0.out)) 0 h.mok.pos
 clear h ba0 xa0 ba1 xa1
 go_enter Tryz.func40, Tryz.ntmps40
 go_wp2_with fail
 (try rw [ha0])
 (try rw [ha1])
 clear ha0 ha1
 refine C.mono ?_
 rintro e w1 ⟨rfl, hb1⟩
 have HB1 := Lib.hid (bthn HB0.out hb1)
 have HX1 := Lib.hid ((hb1.block _ (Array.getElem?_eq_some_iff.1 HX0.out).1).trans HX0.out)
 have t0 := cellOf HX1.out 0 (v := .slice none 0 0) rfl
 have f0 := frozenOf HX1.out 0
 clear C hb1
 go_wp2_with fail
 obtain ⟨w2, hw2⟩ : ∃ W, w1.setCell ⟨a0.heap.size, 0, none⟩ (.slice none 0 0) = W := ⟨_, rfl⟩
 rw [hw2]
 have hx2 : w2.heap[a0.heap.size]? = some (.cells #[.slice none 0 0] 59 (0, 0)) := by rw [← hw2]; exact setOf HX1.out 0 _
 have hb2 : Below w.heap.size w w2 := by rw [← hw2]; exact HB1.out.setCell (p := ⟨a0.heap.size, 0, none⟩) HZ.out _
 refine bodyPost_ret (v := .tuple #[.slice none 0 0, .int .i64 0]) ?_ rfl ⟨rfl, hb2⟩
 rw [results_cell_tmp rfl]
 have r1 := lv_one agg72 (cellOf hx2 0 (v := .slice none 0 0) rfl)
 simp only [asAddr, Array.getD_eq_getD_getElem?, List.getElem?_toArray, List.getElem?_cons_succ, List.getElem?_cons_zero, Option.getD_some, Sem.run_pure, Result.andThen_ok, r1]
set_option maxRecDepth 100000 in
set_option maxHeartbeats 3200000 in
theorem tcheck_0 {w : World} {S B pm pd mf md : Nat} {s : Su} {A D : M} {Fm Fd : List Nat} (h : StB w S B pm pd mf md s A D Fm Fd false) (k : Int) : Calls Tryz.prog 200 #[.pointer (some ⟨S, 0, none⟩), .int .u32 0, .int .i64 k] w fun e w' => e = .returned (.int .i64 0) ∧ Below w.heap.size w w' := by
 obtain ⟨a0, ha0⟩ : ∃ W, w.alloc (.cells #[.int .u32 0] 22) = W := ⟨_, rfl⟩
 have ba0 : Below w.heap.size w a0 := by rw [← ha0]; exact balloc (Below.refl _ _) _
 have xa0 : a0.heap[w.heap.size]? = some (.cells #[.int .u32 0] 22 (0, 0)) := by rw [← ha0]; exact heap_alloc_new _ _
 obtain ⟨a1, ha1⟩ : ∃ W, a0.alloc (.cells #[.int .i64 k] 62) = W := ⟨_, rfl⟩
 have ba1 : Below a0.heap.size a0 a1 := by rw [← ha1]; exact balloc (Below.refl _ _) _
 have xa1 : a1.heap[a0.heap.size]? = some (.cells #[.int .i64 k] 62 (0, 0)) := by rw [← ha1]; exact heap_alloc_new _ _
 have HZ : Hid (w.heap.size ≤ a0.heap.size) := Lib.hid ba0.size
 have HB0 : Hid (Below w.heap.size w a1) := Lib.hid (bthn ba0 ba1)
 have HXR := Lib.hid ((ba1.block _ (Array.getElem?_eq_some_iff.1 xa0).1).trans xa0)
 have c0 := cellOf HXR.out 0 rfl
 have C := tmay_in (h.below (HB0.out)) 0 h.mok.pos
 clear h ba0 xa0 ba1 xa1
 go_enter Tryz.func200, Tryz.ntmps200
 go_wp2_with fail
 (try rw [ha0])
 (try rw [ha1])
 clear ha0 ha1
 refine C.mono ?_
 rintro e w1 ⟨rfl, hb1⟩
 have HB1 := Lib.hid (bthn HB0.out hb1)
 have d0 := cellOf ((hb1.block _ (Array.getElem?_eq_some_iff.1 HXR.out).1).trans HXR.out) 0 rfl
 clear c0
 clear C hb1
 go_wp2_with fail
 go_ret
 exact ⟨rfl, HB1.out⟩
end Go.Proofs.YtgmahhdnjikdjaaGreat
/- repair: the keys of no tree, the roots, find; volume.All of no tree; walked. -/
namespace Go.Proofs.YtgmahhdnjikdjaaGreat
open Go.RowKit Wire
set_option linter.unusedVariables false
set_option linter.unusedSimpArgs false
set_option maxRecDepth 100000 in
set_option maxHeartbeats 6400000 in
theorem vall_nil (w : World) (v : Value) (hv : ∃ a, v = .pointer a) (n er : Int) (hc : Calls Tryz.prog 40 #[v, .int .u32 n, .int .u64 0] w fun e w' => e = .returned (.tuple #[.slice none 0 0, .int .i64 er]) ∧ Below w.heap.size w w') :
  Calls Tryz.prog 14 #[v, .int .u32 n] w fun e w' => e = .returned (.tuple #[.slice none 0 0, .int .i64 er]) ∧ Below w.heap.size w w' := by
 obtain ⟨a, rfl⟩ := hv
 go_enter Tryz.func14, Tryz.ntmps14
 go_wp2_with fail
 refine hc.mono ?_
 rintro e w2 ⟨rfl, hb2⟩
 dsimp only
 have HB2 := Lib.hid hb2
 clear hc hb2
 go_wp2_with fail
 go_loopw [4, 17] (fun o v wr => o = .slice none 0 0 ∧ v = .int .i64 0 ∧ w2 = wr) (fun _ _ _ => 0)
 case atStart => exact ⟨rfl, rfl, rfl⟩
 case round =>
  obtain ⟨rfl, rfl, rfl⟩ := hrel
  go_wp2_with fail
  go_ret2
  exact ⟨rfl, HB2.out⟩
theorem res_sl {P : Program} {fn : Func} {p q : Tmp} {ty e : TypeId} {sv z : Value} (h : fn.results = #[.cell p ty, .tmp q]) (hty : P.underlying ty = some (.slice e)) (tmps : Array Value) (w : World) (a : Addr)
  (hp : tmps.getD p undef = .pointer (some a)) (hq : tmps.getD q undef = z) (hc : w.cell? a = some sv) : (results fn tmps).run P w = .ok (.tuple #[sv, z]) w := by
 have hp' : tmps[p]?.getD undef = .pointer (some a) := by simpa using hp
 have hq' : tmps[q]?.getD undef = z := by simpa using hq
 simp [results, h, hp', hq', asAddr, loadVar, isAgg, Sem.run_bind, run_underlying hty, go_sem, hc]
theorem res_ag {P : Program} {fn : Func} {p : Tmp} {ty : TypeId} (h : fn.results = #[.cell p ty]) (tmps : Array Value) (w : World) (g : Nat) (L : List Value) (d : TypeDesc) (hp : tmps.getD p undef = .pointer (some ⟨g, 0, none⟩)) (hr : w.rangeAt g 0 L) (hu : P.underlying ty = some d) (hd : d.isRow = true) (hl : (P.info? ty).map (·.size) = some L.length) :
  (results fn tmps).run P w = .ok (.agg L.toArray) w := by
 have hp' : tmps[p]?.getD undef = .pointer (some ⟨g, 0, none⟩) := by simpa using hp
 simp [results, h, hp', asAddr, run_loadVar_mid w g 0 ty L d hr hu hd hl]
theorem res_ag2 {P : Program} {fn : Func} {p q : Tmp} {ty tq : TypeId} (h : fn.results = #[.cell p ty, .cell q tq]) (tmps : Array Value) (w : World) (g g2 : Nat) (L L2 : List Value) (d d2 : TypeDesc) (hp : tmps.getD p undef = .pointer (some ⟨g, 0, none⟩)) (hq : tmps.getD q undef = .pointer (some ⟨g2, 0, none⟩)) (hr : w.rangeAt g 0 L) (hr2 : w.rangeAt g2 0 L2) (hu : P.underlying ty = some d) (hu2 : P.underlying tq = some d2) (hd : d.isRow = true) (hd2 : d2.isRow = true) (hl : (P.info? ty).map (·.size) = some L.length) (hl2 : (P.info? tq).map (·.size) = some L2.length) :
  (results fn tmps).run P w = .ok (.tuple #[.agg L.toArray, .agg L2.toArray]) w := by
 have hp' : tmps[p]?.getD undef = .pointer (some ⟨g, 0, none⟩) := by simpa using hp
 have hq' : tmps[q]?.getD undef = .pointer (some ⟨g2, 0, none⟩) := by simpa using hq
 simp [results, h, hp', hq', asAddr, run_loadVar_mid w g 0 ty L d hr hu hd hl, run_loadVar_mid w g2 0 tq L2 d2 hr2 hu2 hd2 hl2]
set_option maxRecDepth 100000 in
set_option maxHeartbeats 6400000 in
theorem rtree_0 (w : World) (V : Nat) (kd : Int) : Calls Tryz.prog 59 #[.pointer (some ⟨V, 0, none⟩), .int .u32 0, .int .i64 kd] w fun e w' => e = .returned (.tuple #[.slice none 0 0, .bool true]) ∧ Below w.heap.size w w' := by
 obtain ⟨w1, hw1⟩ : ∃ W, w.alloc (.cells #[.pointer (some ⟨V, 0, none⟩)] 124) = W := ⟨_, rfl⟩
 obtain ⟨w2, hw2⟩ : ∃ W, w1.alloc (.cells #[.int .i64 kd] 62) = W := ⟨_, rfl⟩
 obtain ⟨w3, hw3⟩ : ∃ W, w2.alloc (.cells #[.slice none 0 0] 59) = W := ⟨_, rfl⟩
 have hx3 : w3.heap[w2.heap.size]? = some (.cells #[.slice none 0 0] 59 (0, 0)) := by rw [← hw3]; exact heap_alloc_new _ _
 have HB : Hid (Below w.heap.size w (w3.setCell ⟨w2.heap.size, 0, none⟩ (.slice none 0 0))) := Lib.hid (by
  have h1 : Below w.heap.size w w2 := by rw [← hw2, ← hw1]; exact balloc (balloc (Below.refl _ _) _) _
  rw [← hw3]
  exact (balloc h1 _).setCell (p := ⟨w2.heap.size, 0, none⟩) h1.size _)
 have HC0 : Hid ((w3.setCell ⟨w2.heap.size, 0, none⟩ (.slice none 0 0)).cell? ⟨w2.heap.size, 0, none⟩ = some (.slice none 0 0)) := Lib.hid (cellOf (setOf hx3 0 _) 0 rfl)
 have c0 := cellOf hx3 0 (v := .slice none 0 0) rfl
 have f0 := frozenOf hx3 0
 clear hx3
 go_enter Tryz.func59, Tryz.ntmps59
 go_wp2_with fail
 refine bodyPost_ret (v := .tuple #[.slice none 0 0, .bool true]) (res_sl rfl Tryz.underlying59 _ _ ⟨w2.heap.size, 0, none⟩ rfl rfl HC0.out) rfl ⟨rfl, HB.out⟩
set_option maxRecDepth 100000 in
set_option maxHeartbeats 6400000 in
theorem roots_at (w : World) (V : Nat) : Calls Tryz.prog 61 #[.pointer (some ⟨V, 0, none⟩)] w fun e w' => e = .returned (.agg #[.pointer (some ⟨V, 9, none⟩), .pointer (some ⟨V, 10, none⟩), .pointer (some ⟨V, 11, none⟩)]) ∧ Below w.heap.size w w' := by
 obtain ⟨w1, hw1⟩ : ∃ W, w.alloc (.cells #[.pointer none, .pointer none, .pointer none] 137) = W := ⟨_, rfl⟩
 have HX : Hid (w1.heap[w.heap.size]? = some (.cells #[.pointer none, .pointer none, .pointer none] 137 (0, 0))) := Lib.hid (by rw [← hw1]; exact heap_alloc_new _ _)
 have HB1 : Hid (Below w.heap.size w w1) := Lib.hid (by rw [← hw1]; exact balloc (Below.refl _ _) _)
 go_enter Tryz.func61, Tryz.ntmps61
 go_upto_region 1 with fail
 (try rw [hw1])
 clear hw1
 have HSS : Hid (∀ X, Below w1.heap.size w1 X → (True) ∧ Below w1.heap.size w1 X) := Lib.hid (fun X hb => ⟨trivial, hb⟩)
 refine wp_region_late (S := fun X => (True) ∧ Below w1.heap.size w1 X) [10] (by kernel_rfl) (HSS.out _ (Below.refl _ _).drew) (fun hHeld => ?_)
 have hbe : Below w1.heap.size w1 w1.drew := (Below.refl _ _).drew
 obtain ⟨wd, hwd⟩ : ∃ y, w1.drew = y := ⟨_, rfl⟩
 rw [hwd] at hHeld hbe ⊢
 have HBE := Lib.hid hbe
 have HS0 : Hid (w1.heap.size ≤ wd.heap.size) := Lib.hid HBE.out.size
 clear hwd hbe
 refine wpAnyL_take [1, 2, 9, 10] (i := 0) (v := ?_) rfl (by kernel_rfl) (by kernel_rfl) (by kernel_rfl) (by kernel_rfl) (by kernel_rfl) (fun _ _ _ h => h) (Or.inl ⟨by rfl, ?_⟩) (by assumption) ?_
 rotate_left
 ·(intro w hSw; (try dsimp only at hSw); simp only [List.getElem_toArray, List.getElem_cons_zero, List.getElem_cons_succ]; go_simp; first | done | with_reducible rfl)
 simp only [List.getElem_toArray, List.getElem_cons_zero, List.getElem_cons_succ, Act.put, List.setIfInBounds_toArray, List.set_cons_zero, List.set_cons_succ]
 refine wpAnyL_take [4, 5, 9, 10] (i := 3) (v := ?_) rfl (by kernel_rfl) (by kernel_rfl) (by kernel_rfl) (by kernel_rfl) (by kernel_rfl) (fun _ _ _ h => h) (Or.inl ⟨by rfl, ?_⟩) (by assumption) ?_
 rotate_left
 ·(intro w hSw; (try dsimp only at hSw); simp only [List.getElem_toArray, List.getElem_cons_zero, List.getElem_cons_succ]; go_simp; first | done | with_reducible rfl)
 simp only [List.getElem_toArray, List.getElem_cons_zero, List.getElem_cons_succ, Act.put, List.setIfInBounds_toArray, List.set_cons_zero, List.set_cons_succ]
 refine wpAnyL_take [7, 8, 9, 10] (i := 6) (v := ?_) rfl (by kernel_rfl) (by kernel_rfl) (by kernel_rfl) (by kernel_rfl) (by kernel_rfl) (fun _ _ _ h => h) (Or.inl ⟨by rfl, ?_⟩) (by assumption) ?_
 rotate_left
 ·(intro w hSw; (try dsimp only at hSw); simp only [List.getElem_toArray, List.getElem_cons_zero, List.getElem_cons_succ]; go_simp; first | done | with_reducible rfl)
 simp only [List.getElem_toArray, List.getElem_cons_zero, List.getElem_cons_succ, Act.put, List.setIfInBounds_toArray, List.set_cons_zero, List.set_cons_succ]
 refine wpAnyL_take [2, 9, 10] (i := 1) (v := ?_) rfl (by kernel_rfl) (by kernel_rfl) (by kernel_rfl) (by kernel_rfl) (by kernel_rfl) (fun _ _ _ h => h) (Or.inl ⟨by rfl, ?_⟩) (by assumption) ?_
 rotate_left
 ·(intro w hSw; (try dsimp only at hSw); simp only [List.getElem_toArray, List.getElem_cons_zero, List.getElem_cons_succ]; go_simp; first | done | with_reducible rfl)
 simp only [List.getElem_toArray, List.getElem_cons_zero, List.getElem_cons_succ, Act.put, List.setIfInBounds_toArray, List.set_cons_zero, List.set_cons_succ]
 refine wpAnyL_take [5, 9, 10] (i := 4) (v := ?_) rfl (by kernel_rfl) (by kernel_rfl) (by kernel_rfl) (by kernel_rfl) (by kernel_rfl) (fun _ _ _ h => h) (Or.inl ⟨by rfl, ?_⟩) (by assumption) ?_
 rotate_left
 ·(intro w hSw; (try dsimp only at hSw); simp only [List.getElem_toArray, List.getElem_cons_zero, List.getElem_cons_succ]; go_simp; first | done | with_reducible rfl)
 simp only [List.getElem_toArray, List.getElem_cons_zero, List.getElem_cons_succ, Act.put, List.setIfInBounds_toArray, List.set_cons_zero, List.set_cons_succ]
 refine wpAnyL_take [8, 9, 10] (i := 7) (v := ?_) rfl (by kernel_rfl) (by kernel_rfl) (by kernel_rfl) (by kernel_rfl) (by kernel_rfl) (fun _ _ _ h => h) (Or.inl ⟨by rfl, ?_⟩) (by assumption) ?_
 rotate_left
 ·(intro w hSw; (try dsimp only at hSw); simp only [List.getElem_toArray, List.getElem_cons_zero, List.getElem_cons_succ]; go_simp; first | done | with_reducible rfl)
 simp only [List.getElem_toArray, List.getElem_cons_zero, List.getElem_cons_succ, Act.put, List.setIfInBounds_toArray, List.set_cons_zero, List.set_cons_succ]
 refine wpAnyL_take [9, 10] (i := 2) (v := ?_) rfl (by kernel_rfl) (by kernel_rfl) (by kernel_rfl) (by kernel_rfl) (by kernel_rfl) (fun _ _ _ h => h) (Or.inl ⟨by rfl, ?_⟩) (by assumption) ?_
 rotate_left
 ·(intro w hSw; (try dsimp only at hSw); simp only [List.getElem_toArray, List.getElem_cons_zero, List.getElem_cons_succ]; go_simp; first | done | with_reducible rfl)
 simp only [List.getElem_toArray, List.getElem_cons_zero, List.getElem_cons_succ, Act.put, List.setIfInBounds_toArray, List.set_cons_zero, List.set_cons_succ]
 refine wpAnyL_take [9, 10] (i := 5) (v := ?_) rfl (by kernel_rfl) (by kernel_rfl) (by kernel_rfl) (by kernel_rfl) (by kernel_rfl) (fun _ _ _ h => h) (Or.inl ⟨by rfl, ?_⟩) (by assumption) ?_
 rotate_left
 ·(intro w hSw; (try dsimp only at hSw); simp only [List.getElem_toArray, List.getElem_cons_zero, List.getElem_cons_succ]; go_simp; first | done | with_reducible rfl)
 simp only [List.getElem_toArray, List.getElem_cons_zero, List.getElem_cons_succ, Act.put, List.setIfInBounds_toArray, List.set_cons_zero, List.set_cons_succ]
 refine wpAnyL_take [9, 10] (i := 8) (v := ?_) rfl (by kernel_rfl) (by kernel_rfl) (by kernel_rfl) (by kernel_rfl) (by kernel_rfl) (fun _ _ _ h => h) (Or.inl ⟨by rfl, ?_⟩) (by assumption) ?_
 rotate_left
 ·(intro w hSw; (try dsimp only at hSw); simp only [List.getElem_toArray, List.getElem_cons_zero, List.getElem_cons_succ]; go_simp; first | done | with_reducible rfl)
 simp only [List.getElem_toArray, List.getElem_cons_zero, List.getElem_cons_succ, Act.put, List.setIfInBounds_toArray, List.set_cons_zero, List.set_cons_succ]
 refine wpAnyL_take [10] (i := 9) (v := ?_) rfl (by kernel_rfl) (by kernel_rfl) (by kernel_rfl) (by kernel_rfl) (by kernel_rfl) (fun _ _ _ h => h) (Or.inl ⟨by rfl, ?_⟩) (by assumption) ?_
 rotate_left
 ·(intro w hSw; (try dsimp only at hSw); simp only [List.getElem_toArray, List.getElem_cons_zero, List.getElem_cons_succ]; go_simp; first | done | with_reducible rfl)
 simp only [List.getElem_toArray, List.getElem_cons_zero, List.getElem_cons_succ, Act.put, List.setIfInBounds_toArray, List.set_cons_zero, List.set_cons_succ]
 refine wpAnyL_ready (rs := [10]) (by kernel_rfl) (by simp) ?_
 refine AllReadyL.late rfl (by kernel_rfl) (fun K hK => ?_)
 clear hHeld
 have hx := (HBE.out.block _ (Array.getElem?_eq_some_iff.1 HX.out).1).trans HX.out
 have c0 := cellOf hx 0 (v := .pointer none) rfl
 have c1 := cellOf hx 1 (v := .pointer none) rfl
 have c2 := cellOf hx 2 (v := .pointer none) rfl
 have f0 := frozenOf hx 0
 have f1 := frozenOf hx 1
 have f2 := frozenOf hx 2
 simp only [List.getElem_toArray, List.getElem_cons_zero, List.getElem_cons_succ]
 go_simp
 refine hK.out _ _ ?_
 clear hK K
 try simp only [Act.put, List.setIfInBounds_toArray, List.set_cons_zero, List.set_cons_succ]
 obtain ⟨z1, hz1⟩ : ∃ W, (((wd.setCell ⟨w.heap.size, 0, none⟩ (.pointer (some ⟨V, 9, none⟩))).setCell ⟨w.heap.size, 1, none⟩ (.pointer (some ⟨V, 10, none⟩))).setCell ⟨w.heap.size, 2, none⟩ (.pointer (some ⟨V, 11, none⟩))) = W := ⟨_, rfl⟩
 rw [hz1]
 have HZ : Hid (z1.heap[w.heap.size]? = some (.cells #[.pointer (some ⟨V, 9, none⟩), .pointer (some ⟨V, 10, none⟩), .pointer (some ⟨V, 11, none⟩)] 137 (0, 0))) := Lib.hid (by rw [← hz1]; exact setOf (setOf (setOf hx 0 _) 1 _) 2 _)
 clear hx c0 c1 c2 f0 f1 f2
 refine wpAnyL_done (by kernel_rfl) ?_ _
 clear HSS
 have HBZ : Hid (Below w.heap.size w z1) := Lib.hid (by rw [← hz1]; exact ((((HB1.out.trans (HBE.out.mono HB1.out.size)).setCell (p := ⟨w.heap.size, 0, none⟩) (Nat.le_refl _) _).setCell (p := ⟨w.heap.size, 1, none⟩) (Nat.le_refl _) _).setCell (p := ⟨w.heap.size, 2, none⟩) (Nat.le_refl _) _))
 clear hz1
 go_wp2_with fail
 refine bodyPost_ret (v := .agg #[.pointer (some ⟨V, 9, none⟩), .pointer (some ⟨V, 10, none⟩), .pointer (some ⟨V, 11, none⟩)]) (res_ag rfl _ _ w.heap.size [.pointer (some ⟨V, 9, none⟩), .pointer (some ⟨V, 10, none⟩), .pointer (some ⟨V, 11, none⟩)] _ rfl (rangeOf HZ.out) Tryz.underlying137 rfl (by kernel_rfl)) rfl ⟨rfl, HBZ.out⟩
end Go.Proofs.YtgmahhdnjikdjaaGreat
