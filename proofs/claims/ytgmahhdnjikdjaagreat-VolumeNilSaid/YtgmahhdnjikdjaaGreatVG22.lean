import Derived.Test.YtgmahhdnjikdjaaGreatVG21
import Derived.Test.YtgmahhdnjikdjaaGreatVG2
import Derived.Test.YtgmahhdnjikdjaaGreatVG17
set_option linter.unusedVariables false
set_option linter.unusedSimpArgs false
/- btree.Get of a tree that is a leaf, walked. -/
namespace Go.Proofs.YtgmahhdnjikdjaaGreat
open Go.RowKit Go.Maps Wire
set_option linter.unusedVariables false
set_option linter.unusedSimpArgs false
/-- What is under a key in a leaf. -/
def Nd.at_ (y : Nd) (x : Nat) : Option Nat := if y.keys[findI y.keys x]? = some x then y.vals[findI y.keys x]? else none
/-- What Get answers. -/
def GetP (w : World) (y : Nd) (x : Nat) (e : Ending) (w' : World) : Prop :=
 (match y.at_ x with
  | some v => e = .returned (.tuple #[.int .u64 (v : Int), .bool true, .int .i64 0])
  | none => e = .returned (.tuple #[.int .u64 0, .bool false, .int .i64 0])) ∧ Below w.heap.size w w'
theorem getP_some {w w' : World} {y : Nd} {x v : Nat} {e : Ending} (h1 : y.keys[findI y.keys x]? = some x) (h2 : y.vals[findI y.keys x]? = some v) (he : e = .returned (.tuple #[.int .u64 (v : Int), .bool true, .int .i64 0])) (hb : Below w.heap.size w w') : GetP w y x e w' := by
 unfold GetP Nd.at_
 rw [if_pos h1, h2]
 exact ⟨he, hb⟩
theorem getP_none {w w' : World} {y : Nd} {x : Nat} {e : Ending} (h1 : ¬ y.keys[findI y.keys x]? = some x) (he : e = .returned (.tuple #[.int .u64 0, .bool false, .int .i64 0])) (hb : Below w.heap.size w w') : GetP w y x e w' := by
 unfold GetP Nd.at_
 rw [if_neg h1]
 exact ⟨he, hb⟩
set_option maxRecDepth 100000 in
set_option maxHeartbeats 6400000 in
theorem tget_leaf {w : World} {S B pm pd mf md : Nat} {s : Su} {A D : M} {Fm Fd : List Nat} {l : List (Nat × (NdV × Nd))} (h : StF w S B pm pd mf md s A D Fm Fd l) (n : Nat) (h0 : n ≠ 0) (hn : n < A.now.length) (hc : ctN A.now n ≠ 0) (x : NdV) (y : Nd) (hg : getA n l = some (x, y)) (hy : y.Ok) (hk : y.k ≠ 1) (key : Nat) :
  Calls Tryz.prog 32 #[.pointer (some ⟨S, 0, none⟩), .int .u32 (n : Int), .int .u64 (key : Int)] w (GetP w y key) := by
 have hm9 := h.st.mok.max
 have CM := tmay_in h.st n hn
 have hyn := hy.n
 have hym := hy.m
 have CN : Hid (∀ X, Below w.heap.size w X → Calls Tryz.prog 74 #[.pointer (some ⟨S, 0, none⟩), .int .u32 (n : Int)] X (NodeP X y)) := Lib.hid (fun X hX => snode_in (h.below hX) n h0 hn hc x y hg (by omega) (by omega))
 have HY := Lib.hid hy
 have HYM := Lib.hid hym
 have hn0 : ((n : Int) == 0) = false := by simp; omega
 have hk1 : (y.k == 1) = false := by simp; exact hk
 clear h hg hy hc hym
 go_enter Tryz.func32, Tryz.ntmps32
 go_wp2_with fail
 refine CM.mono ?_
 rintro e w1 ⟨rfl, hb1⟩
 have HB1 := Lib.hid hb1
 clear CM hb1
 go_wp2_with fail
 go_loopw [10, 11] (fun u v wr => u = .int .u32 (n : Int) ∧ v = .int .i64 0 ∧ wr = w1) (fun _ _ _ => 0)
 case atStart => exact ⟨rfl, rfl, rfl⟩
 case round =>
  obtain ⟨rfl, rfl, rfl⟩ := hrel
  have C := CN.out wr HB1.out
  clear CN
  go_wp2_with fail
  refine C.mono ?_
  rintro e w2 ⟨x1, rfl, hnd, hb2⟩
  have HB2 := Lib.hid (bthn HB1.out hb2)
  have HN2 := Lib.hid hnd
  obtain ⟨a1, a2, e1, e2, e3⟩ := ndA_eq x1
  rw [e1]
  have HE := Lib.hid (And.intro e2 e3)
  have HKB : Hid (x1.k = y.k ∧ x1.b = y.b ∧ x1.n1 = y.keys.length ∧ x1.n2 = y.vals.length) := Lib.hid ⟨hnd.k, hnd.b, hnd.n1, hnd.n2⟩
  obtain ⟨rk, rb, rn1, rn2⟩ := HKB.out
  rw [rk, rb, rn1, rn2]
  clear C hnd hb2 e1 e2 e3 rk rb rn1 rn2
  dsimp only
  go_upto_region 8 with fail
  obtain ⟨kd, hkd⟩ : ∃ z, y.k = z := ⟨_, rfl⟩
  obtain ⟨bb, hbb⟩ : ∃ z, y.b = z := ⟨_, rfl⟩
  obtain ⟨n1, hn1⟩ : ∃ z, y.keys.length = z := ⟨_, rfl⟩
  obtain ⟨n2, hn2⟩ : ∃ z, y.vals.length = z := ⟨_, rfl⟩
  obtain ⟨c1, hc1⟩ : ∃ z, x1.c1 = z := ⟨_, rfl⟩
  obtain ⟨c2, hc2⟩ : ∃ z, x1.c2 = z := ⟨_, rfl⟩
  rw [hkd] at hk1
  rw [hkd, hbb, hn1, hn2, hc1, hc2]
  obtain ⟨w3, hw3⟩ : ∃ W, w2.alloc (.cells #[.int .i64 kd, .int .u64 (bb : Int), .slice a1 n1 c1, .slice a2 n2 c2] 159) = W := ⟨_, rfl⟩
  rw [hw3]
  have hb3 : Below w2.heap.size w2 w3 := by rw [← hw3]; exact balloc (Below.refl _ _) _
  have hx3 : w3.heap[w2.heap.size]? = some (.cells #[.int .i64 kd, .int .u64 (bb : Int), .slice a1 n1 c1, .slice a2 n2 c2] 159 (0, 0)) := by rw [← hw3]; exact heap_alloc_new _ _
  have hr1 : Rd w3 1 (.slice a1 n1 c1) n1 (qV y.keys) := by
   have := (Rd.of_own HN2.out.r1).below hb3
   rw [HE.out.1, HKB.out.2.2.1, hn1, hc1] at this
   exact this
  have hr2 : Rd w3 1 (.slice a2 n2 c2) n2 (qV y.vals) := by
   have := (Rd.of_own HN2.out.r2).below hb3
   rw [HE.out.2, HKB.out.2.2.2, hn2, hc2] at this
   exact this
  have CF := find_at w3 y (.slice a1 n1 c1) (.slice a2 n2 c2) (by omega) (rises_up HY.out.up) (by rw [hn1]; exact hr1) key
  rw [hkd, hbb] at CF
  have d0 := cellOf hx3 0 (v := .int .i64 kd) rfl
  have d1 := cellOf hx3 1 (v := .int .u64 (bb : Int)) rfl
  have d2 := cellOf hx3 2 (v := .slice a1 n1 c1) rfl
  have d3 := cellOf hx3 3 (v := .slice a2 n2 c2) rfl
  have HX3 := Lib.hid hx3
  have HR2 := Lib.hid hr2
  have HB3 := Lib.hid (bthn HB2.out hb3)
  obtain ⟨q, hq⟩ : ∃ q, w2.heap.size = q := ⟨_, rfl⟩
  rw [hq] at d0 d1 d2 d3 HX3 ⊢
  have HNN := Lib.hid (And.intro hn1 hn2)
  clear hw3 hb3 hx3 hr1 hr2 hkd hbb hc1 hc2 hn1 hn2 hq
  go_wp2_with fail
  refine CF.mono ?_
  rintro e w4 ⟨rfl, hb4⟩
  have HB4 := Lib.hid (bthn HB3.out hb4)
  have HX4 := Lib.hid ((hb4.block _ (Array.getElem?_eq_some_iff.1 HX3.out).1).trans HX3.out)
  have HR4 := Lib.hid (HR2.out.below hb4)
  have d3 := cellOf HX4.out 3 (v := .slice a2 n2 c2) rfl
  clear CF d0 d1 d2 hb4
  by_cases hf : y.keys[findI y.keys key]? = some key
  ·have hdt : decide (y.keys[findI y.keys key]? = some key) = true := decide_eq_true hf
   have hil := (List.getElem?_eq_some_iff.1 hf).1
   obtain ⟨v, hv⟩ : ∃ v, y.vals[findI y.keys key]? = some v := ⟨_, List.getElem?_eq_getElem (by rw [HYM.out]; exact hil)⟩
   have HF := Lib.hid hf
   have HV := Lib.hid hv
   rw [hdt]
   obtain ⟨i, hi⟩ : ∃ i, findI y.keys key = i := ⟨_, rfl⟩
   rw [hi] at hil hv ⊢
   obtain ⟨b0, off, rfl, hbl, hcell⟩ := rd_at HR4.out (by rw [HYM.out]; omega)
   have e1 := hcell i v hv
   have hin : (i : Int) < (n2 : Int) := by have := HYM.out; have := HNN.out; omega
   clear hf hdt hv hcell hbl hil
   go_wp2_with fail
   go_ret3
   exact getP_some HF.out HV.out rfl HB4.out
  ·have hdt : decide (y.keys[findI y.keys key]? = some key) = false := decide_eq_false hf
   have HF := Lib.hid hf
   rw [hdt]
   clear hf hdt
   go_wp2_with fail
   go_ret3
   exact getP_none HF.out rfl HB4.out
end Go.Proofs.YtgmahhdnjikdjaaGreat
/- btree.first, Put into an empty tree, walked. -/
namespace Go.Proofs.YtgmahhdnjikdjaaGreat
open Go.RowKit Go.Maps Wire
set_option linter.unusedVariables false
set_option linter.unusedSimpArgs false
set_option maxRecDepth 100000 in
set_option maxHeartbeats 3200000 in
theorem tfirst_at (w : World) (y : Nd) (v1 v2 : Value) (h1 : Rd w 1 v1 y.keys.length (qV y.keys)) :
  Calls Tryz.prog 128 #[.agg #[.int .i64 y.k, .int .u64 (y.b : Int), v1, v2]] w fun e w' => e = .returned (.int .u64 (y.keys.getD 0 0 : Nat)) ∧ Below w.heap.size w w' := by
 obtain ⟨a1, c1, rfl, _⟩ := id h1
 obtain ⟨kd, hkd⟩ : ∃ x, y.k = x := ⟨_, rfl⟩
 obtain ⟨bb, hbb⟩ : ∃ x, y.b = x := ⟨_, rfl⟩
 obtain ⟨ks, hks⟩ : ∃ x, y.keys = x := ⟨_, rfl⟩
 rw [hkd, hbb]
 rw [hks] at h1 ⊢
 obtain ⟨n, hnn⟩ : ∃ n, ks.length = n := ⟨_, rfl⟩
 rw [hnn] at h1 ⊢
 obtain ⟨w1, hw1⟩ : ∃ W, w.alloc (.cells #[.int .i64 kd, .int .u64 (bb : Int), .slice a1 n c1, v2] 159) = W := ⟨_, rfl⟩
 have hb1 : Below w.heap.size w w1 := by rw [← hw1]; exact balloc (Below.refl _ _) _
 have hx1 : w1.heap[w.heap.size]? = some (.cells #[.int .i64 kd, .int .u64 (bb : Int), .slice a1 n c1, v2] 159 (0, 0)) := by rw [← hw1]; exact heap_alloc_new _ _
 have HB1 := Lib.hid hb1
 have d2 := cellOf hx1 2 (v := .slice a1 n c1) rfl
 have HR := Lib.hid (h1.below hb1)
 clear hb1 hx1 h1 hkd hbb hks
 cases ks with
 | nil =>
  have hn0 : n = 0 := hnn.symm
  subst hn0
  go_enter Tryz.func128, Tryz.ntmps128
  go_wp2_with fail
  (try rw [hw1])
  go_wp2_with fail
  go_ret
  exact ⟨rfl, HB1.out⟩
 | cons k ks =>
  obtain ⟨b0, off, rfl, hbl, hcell⟩ := rd_at HR.out (by simp)
  have e1 := hcell 0 k rfl
  rw [Nat.add_zero] at e1
  have hn1 : ((n : Int) == 0) = false := by simp at hnn ⊢; omega
  have hn2 : (0 : Int) < (n : Int) := by simp at hnn; omega
  clear hcell hbl hnn
  go_enter Tryz.func128, Tryz.ntmps128
  go_wp2_with fail
  (try rw [hw1])
  go_wp2_with fail
  go_ret
  exact ⟨rfl, HB1.out⟩
end Go.Proofs.YtgmahhdnjikdjaaGreat
/- btree.Put into an empty tree, walked. -/
namespace Go.Proofs.YtgmahhdnjikdjaaGreat
open Go.RowKit Go.Maps Wire
set_option linter.unusedVariables false
set_option linter.unusedSimpArgs false
theorem rd_one {X : World} {b v : Nat} (hx : X.heap[b]? = some (.cells #[.int .u64 (v : Int)] 26 (0, 0))) : Rd X 1 (.slice (some ⟨b, 0, none⟩) 1 1) 1 (qV [v]) := by
 refine ⟨_, _, rfl, rfl, by decide, ⟨fun h => by (cases h), by decide, by decide⟩, fun j u hu => ?_⟩
 refine ⟨b, 0, rfl, (Array.getElem?_eq_some_iff.1 hx).1, ?_⟩
 cases j with
 | zero => cases hu; exact cellOf hx 0 rfl
 | succ j => simp [qV] at hu
theorem nd_built (k : Int) (a b : Option Addr) : Tryz.prog.built 159 [(0, .int .i64 k), (2, .slice a 1 1), (3, .slice b 1 1)] = some #[.int .i64 k, .int .u64 0, .slice a 1 1, .slice b 1 1] := by kernel_rfl
theorem nd1_ok (k : Nat) (hk : k = 2 ∨ k = 3) (key val : Nat) (h1 : key < 18446744073709551616) (h2 : val < 18446744073709551616) : Nd.Ok ⟨(k : Int), 0, [key], [val]⟩ :=
 ⟨by show 1 ≤ (k : Int) ∧ (k : Int) ≤ 3; omega, by simp, rfl, fun i a b _ h => by simp at h, fun x hx => by rw [List.mem_singleton.1 hx]; exact h1, fun x hx => by rw [List.mem_singleton.1 hx]; exact h2⟩
theorem results_tmp4 {fn : Func} {t u v x : Tmp} (h : fn.results = #[.tmp t, .tmp u, .tmp v, .tmp x]) (tmps : Array Value) (P : Program) (w : World) :
  (results fn tmps).run P w = .ok (.tuple #[tmps.getD t undef, tmps.getD u undef, tmps.getD v undef, tmps.getD x undef]) w := by
 simp [results, h, Sem.run_bind, Result.andThen]
set_option maxRecDepth 100000 in
set_option maxHeartbeats 6400000 in
theorem tput_new {w : World} {S B pm pd mf md : Nat} {s : Su} {A D : M} {Fm Fd : List Nat} {l : List (Nat × (NdV × Nd))} (h : StF w S B pm pd mf md s A D Fm Fd l) (k key val : Nat) (hk : k = 2 ∨ k = 3) (hkey : key < 18446744073709551616) (hval : val < 18446744073709551616) (i : Nat) (hf : find A 0 = some i) (htx : s.tx + 1 < 18446744073709551616) (hlen : l.length ≤ 10000) :
  Calls Tryz.prog 33 #[.pointer (some ⟨S, 0, none⟩), .int .u32 0, .int .i64 (k : Int), .int .u64 (key : Int), .int .u64 (val : Int)] w fun e w' => ∃ x, e = .returned (.tuple #[.int .u32 (i : Int), .int .u64 0, .bool false, .int .i64 0]) ∧ StF w' S B pm pd mf md s (allocM A i) D Fm Fd (putA i (x, ⟨(k : Int), s.tx + 1, [key], [val]⟩) l) ∧ Mods (mf :: Fm) w w' ∧ ∀ j ∈ obN x, w.heap.size ≤ j := by
 have hpos := h.st.mok.pos
 have CM := tmay_in h.st 0 hpos
 have HH := Lib.hid h
 have HF := Lib.hid hf
 have HTX := Lib.hid htx
 have HLN := Lib.hid hlen
 have HKV := Lib.hid (And.intro hkey hval)
 have HK := Lib.hid hk
 clear h hf htx hlen hkey hval hpos
 rcases hk with rfl | rfl
 all_goals (
  go_enter Tryz.func33, Tryz.ntmps33
  go_wp2_with fail
  refine CM.mono ?_
  rintro e w1 ⟨rfl, hb1⟩
  have HB1 := Lib.hid hb1
  clear CM hb1
  dsimp only
  go_upto_region 7 with fail
  apply wp_region_lit
  iterate 18 go_step
  refine wpL_build (by kernel_rfl) 159 _ rfl _ (by simp only [List.map_toArray, List.map_cons, List.map_nil]; rfl) _ (nd_built _ _ _) ?_
  obtain ⟨w2, hw2⟩ : ∃ W, w1.alloc (.cells #[.int .u64 (key : Int)] 26) = W := ⟨_, rfl⟩
  have hb2 : Below w1.heap.size w1 w2 := by rw [← hw2]; exact balloc (Below.refl _ _) _
  have hx2 : w2.heap[w1.heap.size]? = some (.cells #[.int .u64 (key : Int)] 26 (0, 0)) := by rw [← hw2]; exact heap_alloc_new _ _
  rw [hw2]
  obtain ⟨w3, hw3⟩ : ∃ W, w2.alloc (.cells #[.int .u64 (val : Int)] 26) = W := ⟨_, rfl⟩
  have hb3 : Below w2.heap.size w2 w3 := by rw [← hw3]; exact balloc (Below.refl _ _) _
  have hx3 : w3.heap[w2.heap.size]? = some (.cells #[.int .u64 (val : Int)] 26 (0, 0)) := by rw [← hw3]; exact heap_alloc_new _ _
  rw [hw3]
  have hq : w2.heap.size = w1.heap.size + 1 := by rw [← hw2]; exact Array.size_push _
  rw [hq] at hx3
  have hx23 := (hb3.block _ (Array.getElem?_eq_some_iff.1 hx2).1).trans hx2
  have HB3 := Lib.hid (bthn HB1.out (bthn hb2 hb3))
  have CW : Hid (∀ (kk : Int) (hok : Nd.Ok ⟨kk, 0, [key], [val]⟩), _) := Lib.hid (fun kk hok => snew_in (HH.out.below HB3.out) ⟨kk, 0, [key], [val]⟩ (.slice (some ⟨w1.heap.size, 0, none⟩) 1 1) (.slice (some ⟨w1.heap.size + 1, 0, none⟩) 1 1) hok (fun X hX => rd_one ((hX.block _ (Array.getElem?_eq_some_iff.1 hx23).1 (fun hh => by have := HH.out.st.ma.lt _ hh; have := HB1.out.size; omega)).trans hx23)) (fun X hX => rd_one ((hX.block _ (Array.getElem?_eq_some_iff.1 hx3).1 (fun hh => by have := HH.out.st.ma.lt _ hh; have := HB1.out.size; omega)).trans hx3)) i HF.out HTX.out HLN.out)
  clear hw2 hb2 hx2 hw3 hb3 hx3 hx23 hq
  dsimp only [Act.put]
  go_wp2_with fail)
 ·have C := CW.out 2 (nd1_ok 2 (.inl rfl) key val HKV.out.1 HKV.out.2)
  clear CW

  refine C.mono ?_
  rintro e w4 ⟨x, rfl, hst, hms, hge⟩
  have HS4 := Lib.hid hst
  have HM4 := Lib.hid hms
  have HG4 := Lib.hid hge
  clear C hst hms hge
  go_wp2_with fail
  refine bodyPost_ret (results_tmp4 rfl _ _ _) rfl ?_
  exact ⟨x, rfl, HS4.out, (Mods.of_below HB3.out).trans HM4.out (fun k hk => .inl hk), fun j hj => Nat.le_trans HB3.out.size (HG4.out j hj)⟩
 ·have C := CW.out 3 (nd1_ok 3 (.inr rfl) key val HKV.out.1 HKV.out.2)
  clear CW

  refine C.mono ?_
  rintro e w4 ⟨x, rfl, hst, hms, hge⟩
  have HS4 := Lib.hid hst
  have HM4 := Lib.hid hms
  have HG4 := Lib.hid hge
  clear C hst hms hge
  go_wp2_with fail
  refine bodyPost_ret (results_tmp4 rfl _ _ _) rfl ?_
  exact ⟨x, rfl, HS4.out, (Mods.of_below HB3.out).trans HM4.out (fun k hk => .inl hk), fun j hj => Nat.le_trans HB3.out.size (HG4.out j hj)⟩
end Go.Proofs.YtgmahhdnjikdjaaGreat
/- btree: what is answered of a store that is not there, and of an empty tree, walked. -/
namespace Go.Proofs.YtgmahhdnjikdjaaGreat
open Go.RowKit Go.Maps Wire
set_option linter.unusedVariables false
set_option linter.unusedSimpArgs false
theorem results_t4 {fn : Func} {t u v x : Tmp} (h : fn.results = #[.tmp t, .tmp u, .tmp v, .tmp x]) (tmps : Array Value) (P : Program) (w : World) :
  (results fn tmps).run P w = .ok (.tuple #[tmps.getD t undef, tmps.getD u undef, tmps.getD v undef, tmps.getD x undef]) w := by
 simp [results, h, Sem.run_bind, Result.andThen]
theorem agg72 (w : World) : (isAgg 59).run Tryz.prog w = .ok false w := by kernel_rfl
set_option maxRecDepth 100000 in
set_option maxHeartbeats 6400000 in
theorem tmay_no (w : World) (v : Value) (h : StV w v) (n : Int) : Calls Tryz.prog 73 #[v, .int .u32 n] w fun e w' => e = .returned (.int .i64 1) ∧ Below w.heap.size w w' := by
 have CS := ssuper_no w v h
 obtain ⟨SL, hSL⟩ : ∃ L, suZ = L := ⟨_, rfl⟩
 have HMT : Hid (SL[1]? = some (.int .i64 0)) := Lib.hid (by rw [← hSL]; rfl)
 have HS19 : Hid (SL.length = 19) := Lib.hid (by rw [← hSL]; rfl)
 have HS1 : Hid (SL.toArray.all (·.oneCell') = true) := Lib.hid (by rw [← hSL]; kernel_rfl)
 have hss : SL.toArray.size = 19 := by rw [List.size_toArray, HS19.out]
 rw [hSL] at CS
 obtain ⟨a, rfl⟩ := h.ptr
 clear h hSL
 go_enter Tryz.func73, Tryz.ntmps73
 go_wp2_with fail
 refine CS.mono ?_
 rintro e w2 ⟨rfl, hb2⟩
 have HB2 := Lib.hid hb2
 clear CS hb2
 dsimp only
 repeat (first
  | (refine wpList_store_mid rfl 72 _ _ rfl w2.heap.size 0 SL.toArray rfl rfl (thereOf (heap_alloc_new w2 _) (by rw [hss]; simp)) (by rw [hss]; exact infoSup) HS1.out ?_; refine Hid.out ?_)
  | go_step)
 refine Lib.hid ?_
 obtain ⟨w4, hw4⟩ : ∃ W, (w2.alloc (.cells #[.int .u64 0, .int .i64 0, .int .i64 0, .int .u32 0, .int .u32 0, .int .u32 0, .int .u32 0, .int .u32 0, .int .u32 0, .int .u32 0, .int .u32 0, .int .u32 0, .int .i64 0, .int .u64 0, .int .u64 0, .int .u64 0, .int .u64 0, .int .u64 0, .bool false] 72)).setCells w2.heap.size 0 SL = W := ⟨_, rfl⟩
 have HB4 : Hid (Below w.heap.size w w4) := Lib.hid (by rw [← hw4]; exact bthn HB2.out (belowSets (Nat.le_refl _) _ _ _ (balloc (Below.refl _ _) _)))
 obtain ⟨g4, hg4⟩ : ∃ g, w2.heap.size = g := ⟨_, rfl⟩
 have HR4 : Hid (w4.rangeAt g4 0 SL) := Lib.hid (by rw [← hw4, ← hg4]; exact World.rangeAt_setCells_same _ _ _ _ (thereOf (heap_alloc_new w2 _) (by rw [HS19.out]; simp)))
 have hc1 : w4.cell? ⟨g4, 1, none⟩ = some (.int .i64 0) := HR4.out 1 _ HMT.out
 simp only [List.toList_toArray]
 rw [hw4, hg4]
 clear hw4 hg4
 go_wp2_with fail
 go_ret
 exact ⟨rfl, HB4.out⟩
set_option maxRecDepth 100000 in
set_option maxHeartbeats 3200000 in
theorem tall_no (w : World) (v : Value) (h : StV w v) (r : Int) (k : Int) : Calls Tryz.prog 40 #[v, .int .u32 r, .int .u64 k] w fun e w' => e = .returned (.tuple #[.slice none 0 0, .int .i64 1]) ∧ Below w.heap.size w w' := by
 obtain ⟨a0, ha0⟩ : ∃ W, w.alloc (.cells #[.int .u64 k] 26) = W := ⟨_, rfl⟩
 have ba0 : Below w.heap.size w a0 := by rw [← ha0]; exact balloc (Below.refl _ _) _
 have xa0 : a0.heap[w.heap.size]? = some (.cells #[.int .u64 k] 26 (0, 0)) := by rw [← ha0]; exact heap_alloc_new _ _
 obtain ⟨a1, ha1⟩ : ∃ W, a0.alloc (.cells #[.slice none 0 0] 59) = W := ⟨_, rfl⟩
 have ba1 : Below a0.heap.size a0 a1 := by rw [← ha1]; exact balloc (Below.refl _ _) _
 have xa1 : a1.heap[a0.heap.size]? = some (.cells #[.slice none 0 0] 59 (0, 0)) := by rw [← ha1]; exact heap_alloc_new _ _
 have HZ : Hid (w.heap.size ≤ a0.heap.size) := Lib.hid ba0.size
 have HB0 : Hid (Below w.heap.size w a1) := Lib.hid (bthn ba0 ba1)
 have HX0 := Lib.hid xa1
 have C := tmay_no a1 v (h.below (HB0.out)) r
 obtain ⟨a, rfl⟩ := h.ptr
 clear h ba0 xa0 ba1 xa1
 go_enter Tryz.func40, Tryz.ntmps40
 go_wp2_with fail
 (try rw [ha0])
 (try rw [ha1])
 clear ha0 ha1
 refine C.mono ?_
 rintro e w1 ⟨rfl, hb1⟩
 have HB1 := Lib.hid (bthn HB0.out hb1)
 have HX1 := Lib.hid ((hb1.block _ (Array.getElem?_eq_some_iff.1 HX0.out).1).trans HX0.out)
 have t0 := cellOf HX1.out 0 (v := .slice none 0 0) rfl
 have f0 := frozenOf HX1.out 0
 clear C hb1
 go_wp2_with fail
 obtain ⟨w2, hw2⟩ : ∃ W, w1.setCell ⟨a0.heap.size, 0, none⟩ (.slice none 0 0) = W := ⟨_, rfl⟩
 rw [hw2]
 have hx2 : w2.heap[a0.heap.size]? = some (.cells #[.slice none 0 0] 59 (0, 0)) := by rw [← hw2]; exact setOf HX1.out 0 _
 have hb2 : Below w.heap.size w w2 := by rw [← hw2]; exact HB1.out.setCell (p := ⟨a0.heap.size, 0, none⟩) HZ.out _
 refine bodyPost_ret (v := .tuple #[.slice none 0 0, .int .i64 1]) ?_ rfl ⟨rfl, hb2⟩
 rw [results_cell_tmp rfl]
 have r1 := lv_one agg72 (cellOf hx2 0 (v := .slice none 0 0) rfl)
 simp only [asAddr, Array.getD_eq_getD_getElem?, List.getElem?_toArray, List.getElem?_cons_succ, List.getElem?_cons_zero, Option.getD_some, Sem.run_pure, Result.andThen_ok, r1]
set_option maxRecDepth 100000 in
set_option maxHeartbeats 3200000 in
theorem tget_0 {w : World} {S B pm pd mf md : Nat} {s : Su} {A D : M} {Fm Fd : List Nat} (h : StB w S B pm pd mf md s A D Fm Fd false) (k : Int) : Calls Tryz.prog 32 #[.pointer (some ⟨S, 0, none⟩), .int .u32 0, .int .u64 k] w fun e w' => e = .returned (.tuple #[.int .u64 0, .bool false, .int .i64 0]) ∧ Below w.heap.size w w' := by
 have HB0 : Hid (Below w.heap.size w w) := Lib.hid (Below.refl _ _)
 have C := tmay_in (h.below (HB0.out)) 0 h.mok.pos
 clear h 
 go_enter Tryz.func32, Tryz.ntmps32
 go_wp2_with fail
 refine C.mono ?_
 rintro e w1 ⟨rfl, hb1⟩
 have HB1 := Lib.hid (bthn HB0.out hb1)
 clear C hb1
 go_wp2_with fail
 go_loopw [10, 11] (fun u v wr => u = .int .u32 0 ∧ wr = w1) (fun _ _ _ => 0)
 case atStart => exact ⟨rfl, rfl⟩
 case round =>
  obtain ⟨rfl, rfl⟩ := hrel
  go_wp2_with fail
  go_ret3
  exact ⟨rfl, HB1.out⟩
end Go.Proofs.YtgmahhdnjikdjaaGreat
/- volume: what is answered of a store that is not there, walked. -/
namespace Go.Proofs.YtgmahhdnjikdjaaGreat
open Go.RowKit Go.Maps Wire
set_option linter.unusedVariables false
set_option linter.unusedSimpArgs false
set_option maxRecDepth 100000 in
set_option maxHeartbeats 6400000 in
theorem vmay_no (w : World) (v : Value) (h : StV w v) (n k z : Int) : Calls Tryz.prog 31 #[v, .int .u32 n, .int .u64 k, .int .i64 z] w fun e w' => e = .returned (.int .i64 1) ∧ Below w.heap.size w w' := by
 have CS := ssuper_no w v h
 obtain ⟨SL, hSL⟩ : ∃ L, suZ = L := ⟨_, rfl⟩
 have HMT : Hid (SL[1]? = some (.int .i64 0)) := Lib.hid (by rw [← hSL]; rfl)
 have HS19 : Hid (SL.length = 19) := Lib.hid (by rw [← hSL]; rfl)
 have HS1 : Hid (SL.toArray.all (·.oneCell') = true) := Lib.hid (by rw [← hSL]; kernel_rfl)
 have hss : SL.toArray.size = 19 := by rw [List.size_toArray, HS19.out]
 rw [hSL] at CS
 obtain ⟨a, rfl⟩ := h.ptr
 clear h hSL
 go_enter Tryz.func31, Tryz.ntmps31
 go_wp2_with fail
 refine CS.mono ?_
 rintro e w2 ⟨rfl, hb2⟩
 have HB2 := Lib.hid hb2
 clear CS hb2
 dsimp only
 repeat (first
  | (refine wpList_store_mid rfl 72 _ _ rfl w2.heap.size 0 SL.toArray rfl rfl (thereOf (heap_alloc_new w2 _) (by rw [hss]; simp)) (by rw [hss]; exact infoSup) HS1.out ?_; refine Hid.out ?_)
  | go_step)
 refine Lib.hid ?_
 obtain ⟨w4, hw4⟩ : ∃ W, (w2.alloc (.cells #[.int .u64 0, .int .i64 0, .int .i64 0, .int .u32 0, .int .u32 0, .int .u32 0, .int .u32 0, .int .u32 0, .int .u32 0, .int .u32 0, .int .u32 0, .int .u32 0, .int .i64 0, .int .u64 0, .int .u64 0, .int .u64 0, .int .u64 0, .int .u64 0, .bool false] 72)).setCells w2.heap.size 0 SL = W := ⟨_, rfl⟩
 have HB4 : Hid (Below w.heap.size w w4) := Lib.hid (by rw [← hw4]; exact bthn HB2.out (belowSets (Nat.le_refl _) _ _ _ (balloc (Below.refl _ _) _)))
 obtain ⟨g4, hg4⟩ : ∃ g, w2.heap.size = g := ⟨_, rfl⟩
 have HR4 : Hid (w4.rangeAt g4 0 SL) := Lib.hid (by rw [← hw4, ← hg4]; exact World.rangeAt_setCells_same _ _ _ _ (thereOf (heap_alloc_new w2 _) (by rw [HS19.out]; simp)))
 have hc1 : w4.cell? ⟨g4, 1, none⟩ = some (.int .i64 0) := HR4.out 1 _ HMT.out
 simp only [List.toList_toArray]
 rw [hw4, hg4]
 clear hw4 hg4
 go_wp2_with fail
 go_ret
 exact ⟨rfl, HB4.out⟩
set_option maxRecDepth 100000 in
set_option maxHeartbeats 3200000 in
theorem vget_no (w : World) (v : Value) (h : StV w v) (t k : Int) : Calls Tryz.prog 6 #[v, .int .u32 t, .int .u64 k] w fun e w' => e = .returned (.tuple #[.int .u32 0, .int .i64 0, .bool false, .int .i64 1]) ∧ Below w.heap.size w w' := by
 have C : Hid (∀ X, Below w.heap.size w X → Calls Tryz.prog 31 #[v, .int .u32 t, .int .u64 k, .int .i64 0] X fun e w' => e = .returned (.int .i64 1) ∧ Below X.heap.size X w') := Lib.hid (fun X hX => vmay_no X v (h.below hX) t k 0)
 obtain ⟨a, rfl⟩ := h.ptr
 clear h
 go_enter Tryz.func6, Tryz.ntmps6
 go_wp2_with fail
 refine (C.out _ (by repeat (first | exact Below.refl _ _ | apply balloc))).mono ?_
 rintro e w1 ⟨rfl, hb1⟩
 have HB1 : Hid (Below w.heap.size w w1) := Lib.hid (bthn (by repeat (first | exact Below.refl _ _ | apply balloc)) hb1)
 clear C hb1
 dsimp only
 go_wp2_with fail
 refine bodyPost_ret (results_t4 rfl _ _ _) rfl ?_
 exact ⟨rfl, HB1.out⟩
set_option maxRecDepth 100000 in
set_option maxHeartbeats 3200000 in
theorem vthere_no (w : World) (v : Value) (h : StV w v) (t k : Int) : Calls Tryz.prog 35 #[v, .int .u32 t, .int .u64 k] w fun e w' => e = .returned (.tuple #[.int .u32 0, .int .i64 0, .int .i64 1]) ∧ Below w.heap.size w w' := by
 have C : Hid (∀ X, Below w.heap.size w X → Calls Tryz.prog 6 #[v, .int .u32 t, .int .u64 k] X fun e w' => e = .returned (.tuple #[.int .u32 0, .int .i64 0, .bool false, .int .i64 1]) ∧ Below X.heap.size X w') := Lib.hid (fun X hX => vget_no X v (h.below hX) t k)
 obtain ⟨a, rfl⟩ := h.ptr
 clear h
 go_enter Tryz.func35, Tryz.ntmps35
 go_wp2_with fail
 refine (C.out _ (by repeat (first | exact Below.refl _ _ | apply balloc))).mono ?_
 rintro e w1 ⟨rfl, hb1⟩
 have HB1 : Hid (Below w.heap.size w w1) := Lib.hid (bthn (by repeat (first | exact Below.refl _ _ | apply balloc)) hb1)
 clear C hb1
 dsimp only
 go_wp2_with fail
 go_ret3
 exact ⟨rfl, HB1.out⟩
set_option maxRecDepth 100000 in
set_option maxHeartbeats 3200000 in
theorem vin_no (w : World) (v : Value) (h : StV w v) (t k b : Int) : Calls Tryz.prog 43 #[v, .int .u32 t, .int .u64 k, .int .i64 b] w fun e w' => e = .returned (.tuple #[.int .u32 0, .int .i64 1]) ∧ Below w.heap.size w w' := by
 have C : Hid (∀ X, Below w.heap.size w X → Calls Tryz.prog 35 #[v, .int .u32 t, .int .u64 k] X fun e w' => e = .returned (.tuple #[.int .u32 0, .int .i64 0, .int .i64 1]) ∧ Below X.heap.size X w') := Lib.hid (fun X hX => vthere_no X v (h.below hX) t k)
 obtain ⟨a, rfl⟩ := h.ptr
 clear h
 go_enter Tryz.func43, Tryz.ntmps43
 go_wp2_with fail
 refine (C.out _ (by repeat (first | exact Below.refl _ _ | apply balloc))).mono ?_
 rintro e w1 ⟨rfl, hb1⟩
 have HB1 : Hid (Below w.heap.size w w1) := Lib.hid (bthn (by repeat (first | exact Below.refl _ _ | apply balloc)) hb1)
 clear C hb1
 dsimp only
 go_wp2_with fail
 go_ret2
 exact ⟨rfl, HB1.out⟩
set_option maxRecDepth 100000 in
set_option maxHeartbeats 3200000 in
theorem vcreate_no (w : World) (v : Value) (h : StV w v) (t k z : Int) : Calls Tryz.prog 7 #[v, .int .u32 t, .int .u64 k, .int .i64 z] w fun e w' => e = .returned (.tuple #[.int .u32 0, .int .i64 1]) ∧ Below w.heap.size w w' := by
 have C : Hid (∀ X, Below w.heap.size w X → Calls Tryz.prog 31 #[v, .int .u32 t, .int .u64 k, .int .i64 z] X fun e w' => e = .returned (.int .i64 1) ∧ Below X.heap.size X w') := Lib.hid (fun X hX => vmay_no X v (h.below hX) t k z)
 obtain ⟨a, rfl⟩ := h.ptr
 clear h
 go_enter Tryz.func7, Tryz.ntmps7
 go_wp2_with fail
 refine (C.out _ (by repeat (first | exact Below.refl _ _ | apply balloc))).mono ?_
 rintro e w1 ⟨rfl, hb1⟩
 have HB1 : Hid (Below w.heap.size w w1) := Lib.hid (bthn (by repeat (first | exact Below.refl _ _ | apply balloc)) hb1)
 clear C hb1
 dsimp only
 go_wp2_with fail
 go_ret2
 exact ⟨rfl, HB1.out⟩
set_option maxRecDepth 100000 in
set_option maxHeartbeats 3200000 in
theorem vdelete_no (w : World) (v : Value) (h : StV w v) (t k : Int) : Calls Tryz.prog 8 #[v, .int .u32 t, .int .u64 k] w fun e w' => e = .returned (.tuple #[.int .u32 0, .int .i64 1]) ∧ Below w.heap.size w w' := by
 have C : Hid (∀ X, Below w.heap.size w X → Calls Tryz.prog 35 #[v, .int .u32 t, .int .u64 k] X fun e w' => e = .returned (.tuple #[.int .u32 0, .int .i64 0, .int .i64 1]) ∧ Below X.heap.size X w') := Lib.hid (fun X hX => vthere_no X v (h.below hX) t k)
 obtain ⟨a, rfl⟩ := h.ptr
 clear h
 go_enter Tryz.func8, Tryz.ntmps8
 go_wp2_with fail
 refine (C.out _ (by repeat (first | exact Below.refl _ _ | apply balloc))).mono ?_
 rintro e w1 ⟨rfl, hb1⟩
 have HB1 : Hid (Below w.heap.size w w1) := Lib.hid (bthn (by repeat (first | exact Below.refl _ _ | apply balloc)) hb1)
 clear C hb1
 dsimp only
 go_wp2_with fail
 go_ret2
 exact ⟨rfl, HB1.out⟩
set_option maxRecDepth 100000 in
set_option maxHeartbeats 3200000 in
theorem vresize_no (w : World) (v : Value) (h : StV w v) (t k z : Int) : Calls Tryz.prog 9 #[v, .int .u32 t, .int .u64 k, .int .i64 z] w fun e w' => e = .returned (.tuple #[.int .u32 0, .int .i64 1]) ∧ Below w.heap.size w w' := by
 have C : Hid (∀ X, Below w.heap.size w X → Calls Tryz.prog 31 #[v, .int .u32 t, .int .u64 k, .int .i64 z] X fun e w' => e = .returned (.int .i64 1) ∧ Below X.heap.size X w') := Lib.hid (fun X hX => vmay_no X v (h.below hX) t k z)
 obtain ⟨a, rfl⟩ := h.ptr
 clear h
 go_enter Tryz.func9, Tryz.ntmps9
 go_wp2_with fail
 refine (C.out _ (by repeat (first | exact Below.refl _ _ | apply balloc))).mono ?_
 rintro e w1 ⟨rfl, hb1⟩
 have HB1 : Hid (Below w.heap.size w w1) := Lib.hid (bthn (by repeat (first | exact Below.refl _ _ | apply balloc)) hb1)
 clear C hb1
 dsimp only
 go_wp2_with fail
 go_ret2
 exact ⟨rfl, HB1.out⟩
set_option maxRecDepth 100000 in
set_option maxHeartbeats 3200000 in
theorem vsnap_no (w : World) (v : Value) (h : StV w v) (t k z : Int) : Calls Tryz.prog 10 #[v, .int .u32 t, .int .u64 k, .int .u64 z] w fun e w' => e = .returned (.tuple #[.int .u32 0, .int .i64 1]) ∧ Below w.heap.size w w' := by
 have C : Hid (∀ X, Below w.heap.size w X → Calls Tryz.prog 31 #[v, .int .u32 t, .int .u64 k, .int .i64 0] X fun e w' => e = .returned (.int .i64 1) ∧ Below X.heap.size X w') := Lib.hid (fun X hX => vmay_no X v (h.below hX) t k 0)
 obtain ⟨a, rfl⟩ := h.ptr
 clear h
 go_enter Tryz.func10, Tryz.ntmps10
 go_wp2_with fail
 refine (C.out _ (by repeat (first | exact Below.refl _ _ | apply balloc))).mono ?_
 rintro e w1 ⟨rfl, hb1⟩
 have HB1 : Hid (Below w.heap.size w w1) := Lib.hid (bthn (by repeat (first | exact Below.refl _ _ | apply balloc)) hb1)
 clear C hb1
 dsimp only
 go_wp2_with fail
 go_ret2
 exact ⟨rfl, HB1.out⟩
set_option maxRecDepth 100000 in
set_option maxHeartbeats 3200000 in
theorem vfind_no (w : World) (v : Value) (h : StV w v) (t k b : Int) : Calls Tryz.prog 11 #[v, .int .u32 t, .int .u64 k, .int .i64 b] w fun e w' => e = .returned (.tuple #[.int .u32 0, .bool false, .int .i64 1]) ∧ Below w.heap.size w w' := by
 have C : Hid (∀ X, Below w.heap.size w X → Calls Tryz.prog 43 #[v, .int .u32 t, .int .u64 k, .int .i64 b] X fun e w' => e = .returned (.tuple #[.int .u32 0, .int .i64 1]) ∧ Below X.heap.size X w') := Lib.hid (fun X hX => vin_no X v (h.below hX) t k b)
 obtain ⟨a, rfl⟩ := h.ptr
 clear h
 go_enter Tryz.func11, Tryz.ntmps11
 go_wp2_with fail
 refine (C.out _ (by repeat (first | exact Below.refl _ _ | apply balloc))).mono ?_
 rintro e w1 ⟨rfl, hb1⟩
 have HB1 : Hid (Below w.heap.size w w1) := Lib.hid (bthn (by repeat (first | exact Below.refl _ _ | apply balloc)) hb1)
 clear C hb1
 dsimp only
 go_wp2_with fail
 go_ret3
 exact ⟨rfl, HB1.out⟩
set_option maxRecDepth 100000 in
set_option maxHeartbeats 3200000 in
theorem vmap_no (w : World) (v : Value) (h : StV w v) (t k b d : Int) : Calls Tryz.prog 12 #[v, .int .u32 t, .int .u64 k, .int .i64 b, .int .u32 d] w fun e w' => e = .returned (.tuple #[.int .u32 0, .int .i64 1]) ∧ Below w.heap.size w w' := by
 have C : Hid (∀ X, Below w.heap.size w X → Calls Tryz.prog 31 #[v, .int .u32 t, .int .u64 k, .int .i64 0] X fun e w' => e = .returned (.int .i64 1) ∧ Below X.heap.size X w') := Lib.hid (fun X hX => vmay_no X v (h.below hX) t k 0)
 obtain ⟨a, rfl⟩ := h.ptr
 clear h
 go_enter Tryz.func12, Tryz.ntmps12
 go_wp2_with fail
 refine (C.out _ (by repeat (first | exact Below.refl _ _ | apply balloc))).mono ?_
 rintro e w1 ⟨rfl, hb1⟩
 have HB1 : Hid (Below w.heap.size w w1) := Lib.hid (bthn (by repeat (first | exact Below.refl _ _ | apply balloc)) hb1)
 clear C hb1
 dsimp only
 go_wp2_with fail
 go_ret2
 exact ⟨rfl, HB1.out⟩
set_option maxRecDepth 100000 in
set_option maxHeartbeats 3200000 in
theorem vunmap_no (w : World) (v : Value) (h : StV w v) (t k b : Int) : Calls Tryz.prog 13 #[v, .int .u32 t, .int .u64 k, .int .i64 b] w fun e w' => e = .returned (.tuple #[.int .u32 0, .bool false, .int .i64 1]) ∧ Below w.heap.size w w' := by
 have C : Hid (∀ X, Below w.heap.size w X → Calls Tryz.prog 43 #[v, .int .u32 t, .int .u64 k, .int .i64 b] X fun e w' => e = .returned (.tuple #[.int .u32 0, .int .i64 1]) ∧ Below X.heap.size X w') := Lib.hid (fun X hX => vin_no X v (h.below hX) t k b)
 obtain ⟨a, rfl⟩ := h.ptr
 clear h
 go_enter Tryz.func13, Tryz.ntmps13
 go_wp2_with fail
 refine (C.out _ (by repeat (first | exact Below.refl _ _ | apply balloc))).mono ?_
 rintro e w1 ⟨rfl, hb1⟩
 have HB1 : Hid (Below w.heap.size w w1) := Lib.hid (bthn (by repeat (first | exact Below.refl _ _ | apply balloc)) hb1)
 clear C hb1
 dsimp only
 go_wp2_with fail
 go_ret3
 exact ⟨rfl, HB1.out⟩
end Go.Proofs.YtgmahhdnjikdjaaGreat
/- volume's functions where all is well, walked. -/
namespace Go.Proofs.YtgmahhdnjikdjaaGreat
open Go.RowKit Go.Maps Wire
set_option linter.unusedVariables false
set_option linter.unusedSimpArgs false
set_option maxRecDepth 100000 in
set_option maxHeartbeats 6400000 in
theorem vmay_in {w : World} {S B pm pd mf md : Nat} {s : Su} {A D : M} {Fm Fd : List Nat} (h : StB w S B pm pd mf md s A D Fm Fd false) (n : Nat) (hn : n < A.now.length) (k : Nat) (hk1 : 1 ≤ k) (hk2 : k < 4294967296) (z : Int) (hz1 : 0 ≤ z) (hz2 : z ≤ 256) : Calls Tryz.prog 31 #[.pointer (some ⟨S, 0, none⟩), .int .u32 (n : Int), .int .u64 (k : Int), .int .i64 z] w fun e w' => e = .returned (.int .i64 0) ∧ Below w.heap.size w w' := by
 have CS := ssuper_at h
 have CB : Hid (∀ X, Below w.heap.size w X → Calls Tryz.prog 72 #[.pointer (some ⟨S, 0, none⟩)] X fun e w' => e = .returned (.bool false) ∧ X = w') := Lib.hid (fun X hX => sbroken_at (h.below hX))
 have hm9 := h.mok.max
 have hmt := h.ml
 rw [suL_v] at CS
 obtain ⟨SL, hSL⟩ : ∃ L, suL s = L := ⟨_, rfl⟩
 have HMT : Hid (SL[1]? = some (.int .i64 s.mt)) := Lib.hid (by rw [← hSL]; rfl)
 have HS19 : Hid (SL.length = 19) := Lib.hid (by rw [← hSL]; rfl)
 have HS1 : Hid (SL.toArray.all (·.oneCell') = true) := Lib.hid (by rw [← hSL]; exact Array.all_eq_true_iff_forall_mem.2 (fun v hv => suL_one s v (by simpa using hv)))
 have hss : SL.toArray.size = 19 := by rw [List.size_toArray, HS19.out]
 rw [hSL] at CS
 obtain ⟨mt, hm⟩ : ∃ x, s.mt = x := ⟨_, rfl⟩
 rw [hm] at HMT hmt
 have hn4 : (n : Int) < 4294967296 := by omega
 have hz : (mt == 0) = false := by simp; omega
 have hn1 : decide (mt ≤ (n : Int)) = false := by simp; omega
 have k1 : decide ((k : Int) < 1) = false := by simp; omega
 have k2 : decide ((4294967296 : Int) ≤ (k : Int)) = false := by simp; omega
 have z1 : decide (z < 0) = false := by simp; omega
 have z2 : decide ((256 : Int) < z) = false := by simp; omega
 clear h hSL hm hmt
 go_enter Tryz.func31, Tryz.ntmps31
 go_wp2_with fail
 refine CS.mono ?_
 rintro e w2 ⟨rfl, hb2⟩
 have HB2 := Lib.hid hb2
 clear CS hb2
 dsimp only
 repeat (first
  | (refine wpList_store_mid rfl 72 _ _ rfl w2.heap.size 0 SL.toArray rfl rfl (thereOf (heap_alloc_new w2 _) (by rw [hss]; simp)) (by rw [hss]; exact infoSup) HS1.out ?_; refine Hid.out ?_)
  | go_step)
 refine Lib.hid ?_
 obtain ⟨w4, hw4⟩ : ∃ W, (w2.alloc (.cells #[.int .u64 0, .int .i64 0, .int .i64 0, .int .u32 0, .int .u32 0, .int .u32 0, .int .u32 0, .int .u32 0, .int .u32 0, .int .u32 0, .int .u32 0, .int .u32 0, .int .i64 0, .int .u64 0, .int .u64 0, .int .u64 0, .int .u64 0, .int .u64 0, .bool false] 72)).setCells w2.heap.size 0 SL = W := ⟨_, rfl⟩
 have HB4 : Hid (Below w.heap.size w w4) := Lib.hid (by rw [← hw4]; exact bthn HB2.out (belowSets (Nat.le_refl _) _ _ _ (balloc (Below.refl _ _) _)))
 obtain ⟨g4, hg4⟩ : ∃ g, w2.heap.size = g := ⟨_, rfl⟩
 have HR4 : Hid (w4.rangeAt g4 0 SL) := Lib.hid (by rw [← hw4, ← hg4]; exact World.rangeAt_setCells_same _ _ _ _ (thereOf (heap_alloc_new w2 _) (by rw [HS19.out]; simp)))
 have hc1 : w4.cell? ⟨g4, 1, none⟩ = some (.int .i64 mt) := HR4.out 1 _ HMT.out
 have CB4 := CB.out w4 HB4.out
 simp only [List.toList_toArray]
 rw [hw4, hg4]
 clear hw4 hg4 CB
 go_wp2_with fail
 refine CB4.mono ?_
 rintro e w5 ⟨rfl, rfl⟩
 clear CB4
 go_wp2_with fail
 go_ret
 exact ⟨rfl, HB4.out⟩
set_option maxRecDepth 100000 in
set_option maxHeartbeats 3200000 in
theorem vvalue_at (w : World) (r : Int) (hr : r = 0 ∨ r = 5 ∨ r = 6) : Calls Tryz.prog 34 #[.int .u32 r, .int .i64 8] w fun e w' => e = .returned (.int .u64 (r * 4294967296 + 8)) ∧ w = w' := by
 rcases hr with rfl | rfl | rfl
 all_goals (
  go_enter Tryz.func34, Tryz.ntmps34
  go_wp2_with fail
  go_ret
  exact ⟨rfl, rfl⟩)
set_option maxRecDepth 100000 in
set_option maxHeartbeats 3200000 in
theorem vget_by {w : World} {S B pm pd mf md : Nat} {s : Su} {A D : M} {Fm Fd : List Nat} (h : StB w S B pm pd mf md s A D Fm Fd false) (n : Nat) (hn : n < A.now.length) (k : Nat) (hk1 : 1 ≤ k) (hk2 : k < 4294967296) (r : Int) (hr : r = 0 ∨ r = 5 ∨ r = 6)
  (hg : ∀ X, Below w.heap.size w X → Calls Tryz.prog 32 #[.pointer (some ⟨S, 0, none⟩), .int .u32 (n : Int), .int .u64 (k : Int)] X fun e w' => e = .returned (.tuple #[.int .u64 (r * 4294967296 + 8), .bool true, .int .i64 0]) ∧ Below X.heap.size X w') :
  Calls Tryz.prog 6 #[.pointer (some ⟨S, 0, none⟩), .int .u32 (n : Int), .int .u64 (k : Int)] w fun e w' => e = .returned (.tuple #[.int .u32 r, .int .i64 8, .bool true, .int .i64 0]) ∧ Below w.heap.size w w' := by
 have C := vmay_in h n hn k hk1 hk2 0 (by decide) (by decide)
 have HG := Lib.hid hg
 clear h hg
 rcases hr with rfl | rfl | rfl
 all_goals (
  go_enter Tryz.func6, Tryz.ntmps6
  go_wp2_with fail
  refine C.mono ?_
  rintro e w1 ⟨rfl, hb1⟩
  have HB1 := Lib.hid hb1
  have C2 := HG.out w1 hb1
  clear C hb1
  go_wp2_with fail
  refine C2.mono ?_
  rintro e w2 ⟨rfl, hb2⟩
  have HB2 := Lib.hid (bthn HB1.out hb2)
  clear C2 hb2
  dsimp only
  go_wp2_with fail
  refine bodyPost_ret (results_t4 rfl _ _ _) rfl ?_
  exact ⟨rfl, HB2.out⟩)
end Go.Proofs.YtgmahhdnjikdjaaGreat
