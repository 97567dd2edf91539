/- How an argument that is a message, or an item, looks. (Printed by mkopensm.py.) -/
import Derived.Test.YtgkelbdgdhkeoaaSOP
import Derived.Test.YtgkelbdgdhkeoaaSMsg1
namespace Go.Proofs.Ytgkelbdgdhkeoaa
open Go.ChangeShapes Go.WideShapes Go.ChangeAt Go.RowKit Go.Deep
set_option linter.unusedVariables false
set_option linter.unusedSimpArgs false
open Wire Cmd
section
variable {H : Type} {enc : TypeId × Value → H} {w : World} {base : Nat} {held : Bool}
theorem cellsMk : Try.prog.cellsOf 69 = 1 := by kernel_rfl
theorem cellsIk : Try.prog.cellsOf 75 = 1 := by kernel_rfl
theorem cellsFr : Try.prog.cellsOf 72 = 1 := by kernel_rfl
theorem cellsSt : Try.prog.cellsOf 71 = 6 := by kernel_rfl
theorem cellsNa : Try.prog.cellsOf 74 = 2 := by kernel_rfl
theorem cellsIt : Try.prog.cellsOf 79 = 268 := by kernel_rfl
theorem cellsMs : Try.prog.cellsOf 81 = 290 := by kernel_rfl
theorem drop_parts (cs : List Value) (i n : Nat) : cs.drop i = (cs.drop i).take n ++ cs.drop (i + n) := by
 rw [← List.drop_drop, List.take_append_drop]
set_option maxRecDepth 100000 in
theorem st_of_trod {fuel : Nat} {cs : List Value} {x : DataW H × List MemPlace} (hf : DataW.trod enc Try.prog w base (fun _ => true) held fuel 71 cs = some x) :
  ∃ x : St0, x.Ok ∧ cs = stL x := by
 obtain ⟨xs, n, _, _, hlen, hxl, hi⟩ := DataW.trod_struct Try.underlying71 hf
 have hx5 : xs.length = 6 := hxl
 rw [cellsSt] at hlen
 have f0 : DataW.trod enc Try.prog w base (fun _ => true) held n 23 ((cs.drop 0).take (Try.prog.cellsOf 23)) = xs[0]? := hi 0 _ rfl
 rw [cellsU64] at f0
 have f1 : DataW.trod enc Try.prog w base (fun _ => true) held n 23 ((cs.drop 1).take (Try.prog.cellsOf 23)) = xs[1]? := hi 1 _ rfl
 rw [cellsU64] at f1
 have f2 : DataW.trod enc Try.prog w base (fun _ => true) held n 23 ((cs.drop 2).take (Try.prog.cellsOf 23)) = xs[2]? := hi 2 _ rfl
 rw [cellsU64] at f2
 have f3 : DataW.trod enc Try.prog w base (fun _ => true) held n 23 ((cs.drop 3).take (Try.prog.cellsOf 23)) = xs[3]? := hi 3 _ rfl
 rw [cellsU64] at f3
 have f4 : DataW.trod enc Try.prog w base (fun _ => true) held n 23 ((cs.drop 4).take (Try.prog.cellsOf 23)) = xs[4]? := hi 4 _ rfl
 rw [cellsU64] at f4
 have f5 : DataW.trod enc Try.prog w base (fun _ => true) held n 4 ((cs.drop 5).take (Try.prog.cellsOf 4)) = xs[5]? := hi 5 _ rfl
 rw [cellsBool] at f5
 rw [List.getElem?_eq_getElem (by omega)] at f0 f1 f2 f3 f4 f5
 obtain ⟨n0, e0, _, w0⟩ := DataW.trod_int Try.underlying23 f0
 have r0 := wf_u64 w0
 obtain ⟨n1, e1, _, w1⟩ := DataW.trod_int Try.underlying23 f1
 have r1 := wf_u64 w1
 obtain ⟨n2, e2, _, w2⟩ := DataW.trod_int Try.underlying23 f2
 have r2 := wf_u64 w2
 obtain ⟨n3, e3, _, w3⟩ := DataW.trod_int Try.underlying23 f3
 have r3 := wf_u64 w3
 obtain ⟨n4, e4, _, w4⟩ := DataW.trod_int Try.underlying23 f4
 have r4 := wf_u64 w4
 obtain ⟨n5, e5, _⟩ := DataW.trod_bool Try.underlying4 f5
 have hcs : cs = cs.drop 0 := rfl
 refine ⟨⟨n0.toNat, n1.toNat, n2.toNat, n3.toNat, n4.toNat, n5⟩, ⟨by show n0.toNat < _; omega, by show n1.toNat < _; omega, by show n2.toNat < _; omega, by show n3.toNat < _; omega, by show n4.toNat < _; omega⟩, ?_⟩
 have p0 : cs.drop 0 = (cs.drop 0).take 1 ++ cs.drop 1 := drop_parts cs 0 1
 rw [e0] at p0
 have p1 : cs.drop 1 = (cs.drop 1).take 1 ++ cs.drop 2 := drop_parts cs 1 1
 rw [e1] at p1
 have p2 : cs.drop 2 = (cs.drop 2).take 1 ++ cs.drop 3 := drop_parts cs 2 1
 rw [e2] at p2
 have p3 : cs.drop 3 = (cs.drop 3).take 1 ++ cs.drop 4 := drop_parts cs 3 1
 rw [e3] at p3
 have p4 : cs.drop 4 = (cs.drop 4).take 1 ++ cs.drop 5 := drop_parts cs 4 1
 rw [e4] at p4
 have p5 : cs.drop 5 = (cs.drop 5).take 1 ++ cs.drop 6 := drop_parts cs 5 1
 rw [e5] at p5
 have pz : cs.drop 6 = [] := List.drop_eq_nil_of_le (by omega)
 have p0' : cs = _ := p0
 rw [p0', p1, p2, p3, p4, p5, pz]
 have a0 : ((n0.toNat : Nat) : Int) = n0 := by omega
 have a1 : ((n1.toNat : Nat) : Int) = n1 := by omega
 have a2 : ((n2.toNat : Nat) : Int) = n2 := by omega
 have a3 : ((n3.toNat : Nat) : Int) = n3 := by omega
 have a4 : ((n4.toNat : Nat) : Int) = n4 := by omega
 unfold stL
 dsimp only
 rw [a0, a1, a2, a3, a4]
 rfl
set_option maxRecDepth 100000 in
theorem na_of_trod {fuel : Nat} {cs : List Value} {x : DataW H × List MemPlace} (hf : DataW.trod enc Try.prog w base (fun _ => true) held fuel 74 cs = some x) :
  ∃ a b : Nat, a < 18446744073709551616 ∧ b < 18446744073709551616 ∧ cs = [.int .u64 (a : Int), .int .u64 (b : Int)] := by
 obtain ⟨xs, n, _, _, hlen, hxl, hi⟩ := DataW.trod_struct Try.underlying74 hf
 have hx5 : xs.length = 2 := hxl
 rw [cellsNa] at hlen
 have f0 : DataW.trod enc Try.prog w base (fun _ => true) held n 23 ((cs.drop 0).take (Try.prog.cellsOf 23)) = xs[0]? := hi 0 _ rfl
 rw [cellsU64] at f0
 have f1 : DataW.trod enc Try.prog w base (fun _ => true) held n 23 ((cs.drop 1).take (Try.prog.cellsOf 23)) = xs[1]? := hi 1 _ rfl
 rw [cellsU64] at f1
 rw [List.getElem?_eq_getElem (by omega)] at f0 f1
 obtain ⟨n0, e0, _, w0⟩ := DataW.trod_int Try.underlying23 f0
 have r0 := wf_u64 w0
 obtain ⟨n1, e1, _, w1⟩ := DataW.trod_int Try.underlying23 f1
 have r1 := wf_u64 w1
 have hcs : cs = cs.drop 0 := rfl
 refine ⟨n0.toNat, n1.toNat, by omega, by omega, ?_⟩
 have p0 : cs.drop 0 = (cs.drop 0).take 1 ++ cs.drop 1 := drop_parts cs 0 1
 rw [e0] at p0
 have p1 : cs.drop 1 = (cs.drop 1).take 1 ++ cs.drop 2 := drop_parts cs 1 1
 rw [e1] at p1
 have pz : cs.drop 2 = [] := List.drop_eq_nil_of_le (by omega)
 have p0' : cs = _ := p0
 rw [p0', p1, pz]
 have a0 : ((n0.toNat : Nat) : Int) = n0 := by omega
 have a1 : ((n1.toNat : Nat) : Int) = n1 := by omega
 rw [a0, a1]
 rfl
set_option maxRecDepth 100000 in
theorem it_of_trod {fuel : Nat} {cs : List Value} {x : DataW H × List MemPlace} (hf : DataW.trod enc Try.prog w base (fun _ => true) held fuel 79 cs = some x) :
  ∃ (i : It0) (sl : Value), i.Ok ∧ cs = itL i sl ∧ Rd w 1 sl i.op.data.length (bV i.op.data) := by
 obtain ⟨xs, n, _, _, hlen, hxl, hi⟩ := DataW.trod_struct Try.underlying79 hf
 have hx5 : xs.length = 7 := hxl
 rw [cellsIt] at hlen
 have f0 : DataW.trod enc Try.prog w base (fun _ => true) held n 75 ((cs.drop 0).take (Try.prog.cellsOf 75)) = xs[0]? := hi 0 _ rfl
 rw [cellsIk] at f0
 have f1 : DataW.trod enc Try.prog w base (fun _ => true) held n 23 ((cs.drop 1).take (Try.prog.cellsOf 23)) = xs[1]? := hi 1 _ rfl
 rw [cellsU64] at f1
 have f2 : DataW.trod enc Try.prog w base (fun _ => true) held n 3 ((cs.drop 2).take (Try.prog.cellsOf 3)) = xs[2]? := hi 2 _ rfl
 rw [cellsI] at f2
 have f3 : DataW.trod enc Try.prog w base (fun _ => true) held n 3 ((cs.drop 3).take (Try.prog.cellsOf 3)) = xs[3]? := hi 3 _ rfl
 rw [cellsI] at f3
 have f4 : DataW.trod enc Try.prog w base (fun _ => true) held n 77 ((cs.drop 4).take (Try.prog.cellsOf 77)) = xs[4]? := hi 4 _ rfl
 rw [cellsBlk] at f4
 have f5 : DataW.trod enc Try.prog w base (fun _ => true) held n 26 ((cs.drop 260).take (Try.prog.cellsOf 26)) = xs[5]? := hi 5 _ rfl
 rw [cellsOp] at f5
 have f6 : DataW.trod enc Try.prog w base (fun _ => true) held n 3 ((cs.drop 267).take (Try.prog.cellsOf 3)) = xs[6]? := hi 6 _ rfl
 rw [cellsI] at f6
 rw [List.getElem?_eq_getElem (by omega)] at f0 f1 f2 f3 f4 f5 f6
 obtain ⟨n0, e0, _, w0⟩ := DataW.trod_int Try.underlying75 f0
 have r0 := wf_i64 w0
 obtain ⟨n1, e1, _, w1⟩ := DataW.trod_int Try.underlying23 f1
 have r1 := wf_u64 w1
 obtain ⟨n2, e2, _, w2⟩ := DataW.trod_int Try.underlying3 f2
 have r2 := wf_i64 w2
 obtain ⟨n3, e3, _, w3⟩ := DataW.trod_int Try.underlying3 f3
 have r3 := wf_i64 w3
 obtain ⟨e4, l4⟩ := block_of_trod f4
 obtain ⟨o5, s5, k5, e5, h5⟩ := op_of_trod f5
 obtain ⟨n6, e6, _, w6⟩ := DataW.trod_int Try.underlying3 f6
 have r6 := wf_i64 w6
 have hcs : cs = cs.drop 0 := rfl
 obtain ⟨D, hD⟩ : ∃ D, ((cs.drop 4).take 256).map byteOf = D := ⟨_, rfl⟩
 rw [hD] at e4
 have l4b : D.length = 256 := by rw [← hD, List.length_map]; exact l4
 refine ⟨⟨n0, n1.toNat, n2, n3, D, o5, n6⟩, s5, ⟨r0, by show n1.toNat < _; omega, r2, r3, l4b, k5, r6⟩, ?_, h5⟩
 have p0 : cs.drop 0 = (cs.drop 0).take 1 ++ cs.drop 1 := drop_parts cs 0 1
 rw [e0] at p0
 have p1 : cs.drop 1 = (cs.drop 1).take 1 ++ cs.drop 2 := drop_parts cs 1 1
 rw [e1] at p1
 have p2 : cs.drop 2 = (cs.drop 2).take 1 ++ cs.drop 3 := drop_parts cs 2 1
 rw [e2] at p2
 have p3 : cs.drop 3 = (cs.drop 3).take 1 ++ cs.drop 4 := drop_parts cs 3 1
 rw [e3] at p3
 have p4 : cs.drop 4 = (cs.drop 4).take 256 ++ cs.drop 260 := drop_parts cs 4 256
 rw [e4] at p4
 have p5 : cs.drop 260 = (cs.drop 260).take 7 ++ cs.drop 267 := drop_parts cs 260 7
 rw [e5] at p5
 have p6 : cs.drop 267 = (cs.drop 267).take 1 ++ cs.drop 268 := drop_parts cs 267 1
 rw [e6] at p6
 have pz : cs.drop 268 = [] := List.drop_eq_nil_of_le (by omega)
 have p0' : cs = _ := p0
 rw [p0', p1, p2, p3, p4, p5, p6, pz]
 have a1 : ((n1.toNat : Nat) : Int) = n1 := by omega
 unfold itL
 dsimp only
 rw [a1]
 rfl
set_option maxRecDepth 100000 in
theorem ms_of_trod {fuel : Nat} {cs : List Value} {x : DataW H × List MemPlace} (hf : DataW.trod enc Try.prog w base (fun _ => true) held fuel 81 cs = some x) :
  ∃ (m : Ms0) (s1 s2 : Value), m.Ok ∧ cs = msL m s1 s2 ∧ Rd w 1 s1 m.op.data.length (bV m.op.data) ∧ Rd w 1 s2 m.item.op.data.length (bV m.item.op.data) := by
 obtain ⟨xs, n, _, _, hlen, hxl, hi⟩ := DataW.trod_struct Try.underlying81 hf
 have hx5 : xs.length = 11 := hxl
 rw [cellsMs] at hlen
 have f0 : DataW.trod enc Try.prog w base (fun _ => true) held n 69 ((cs.drop 0).take (Try.prog.cellsOf 69)) = xs[0]? := hi 0 _ rfl
 rw [cellsMk] at f0
 have f1 : DataW.trod enc Try.prog w base (fun _ => true) held n 23 ((cs.drop 1).take (Try.prog.cellsOf 23)) = xs[1]? := hi 1 _ rfl
 rw [cellsU64] at f1
 have f2 : DataW.trod enc Try.prog w base (fun _ => true) held n 71 ((cs.drop 2).take (Try.prog.cellsOf 71)) = xs[2]? := hi 2 _ rfl
 rw [cellsSt] at f2
 have f3 : DataW.trod enc Try.prog w base (fun _ => true) held n 4 ((cs.drop 8).take (Try.prog.cellsOf 4)) = xs[3]? := hi 3 _ rfl
 rw [cellsBool] at f3
 have f4 : DataW.trod enc Try.prog w base (fun _ => true) held n 23 ((cs.drop 9).take (Try.prog.cellsOf 23)) = xs[4]? := hi 4 _ rfl
 rw [cellsU64] at f4
 have f5 : DataW.trod enc Try.prog w base (fun _ => true) held n 26 ((cs.drop 10).take (Try.prog.cellsOf 26)) = xs[5]? := hi 5 _ rfl
 rw [cellsOp] at f5
 have f6 : DataW.trod enc Try.prog w base (fun _ => true) held n 3 ((cs.drop 17).take (Try.prog.cellsOf 3)) = xs[6]? := hi 6 _ rfl
 rw [cellsI] at f6
 have f7 : DataW.trod enc Try.prog w base (fun _ => true) held n 23 ((cs.drop 18).take (Try.prog.cellsOf 23)) = xs[7]? := hi 7 _ rfl
 rw [cellsU64] at f7
 have f8 : DataW.trod enc Try.prog w base (fun _ => true) held n 72 ((cs.drop 19).take (Try.prog.cellsOf 72)) = xs[8]? := hi 8 _ rfl
 rw [cellsFr] at f8
 have f9 : DataW.trod enc Try.prog w base (fun _ => true) held n 74 ((cs.drop 20).take (Try.prog.cellsOf 74)) = xs[9]? := hi 9 _ rfl
 rw [cellsNa] at f9
 have f10 : DataW.trod enc Try.prog w base (fun _ => true) held n 79 ((cs.drop 22).take (Try.prog.cellsOf 79)) = xs[10]? := hi 10 _ rfl
 rw [cellsIt] at f10
 rw [List.getElem?_eq_getElem (by omega)] at f0 f1 f2 f3 f4 f5 f6 f7 f8 f9 f10
 obtain ⟨n0, e0, _, w0⟩ := DataW.trod_int Try.underlying69 f0
 have r0 := wf_i64 w0
 obtain ⟨n1, e1, _, w1⟩ := DataW.trod_int Try.underlying23 f1
 have r1 := wf_u64 w1
 obtain ⟨x2, k2, e2⟩ := st_of_trod f2
 obtain ⟨n3, e3, _⟩ := DataW.trod_bool Try.underlying4 f3
 obtain ⟨n4, e4, _, w4⟩ := DataW.trod_int Try.underlying23 f4
 have r4 := wf_u64 w4
 obtain ⟨o5, s5, k5, e5, h5⟩ := op_of_trod f5
 obtain ⟨n6, e6, _, w6⟩ := DataW.trod_int Try.underlying3 f6
 have r6 := wf_i64 w6
 obtain ⟨n7, e7, _, w7⟩ := DataW.trod_int Try.underlying23 f7
 have r7 := wf_u64 w7
 obtain ⟨n8, e8, _, w8⟩ := DataW.trod_int Try.underlying72 f8
 have r8 := wf_i64 w8
 obtain ⟨x9, y9, k9, l9, e9⟩ := na_of_trod f9
 obtain ⟨i10, s10, k10, e10, h10⟩ := it_of_trod f10
 have hcs : cs = cs.drop 0 := rfl
 refine ⟨⟨n0, n1.toNat, x2, n3, n4.toNat, o5, n6, n7.toNat, n8, x9, y9, i10⟩, s5, s10, ⟨r0, by show n1.toNat < _; omega, k2, by show n4.toNat < _; omega, k5, r6, by show n7.toNat < _; omega, r8, k9, l9, k10⟩, ?_, h5, h10⟩
 have p0 : cs.drop 0 = (cs.drop 0).take 1 ++ cs.drop 1 := drop_parts cs 0 1
 rw [e0] at p0
 have p1 : cs.drop 1 = (cs.drop 1).take 1 ++ cs.drop 2 := drop_parts cs 1 1
 rw [e1] at p1
 have p2 : cs.drop 2 = (cs.drop 2).take 6 ++ cs.drop 8 := drop_parts cs 2 6
 rw [e2] at p2
 have p3 : cs.drop 8 = (cs.drop 8).take 1 ++ cs.drop 9 := drop_parts cs 8 1
 rw [e3] at p3
 have p4 : cs.drop 9 = (cs.drop 9).take 1 ++ cs.drop 10 := drop_parts cs 9 1
 rw [e4] at p4
 have p5 : cs.drop 10 = (cs.drop 10).take 7 ++ cs.drop 17 := drop_parts cs 10 7
 rw [e5] at p5
 have p6 : cs.drop 17 = (cs.drop 17).take 1 ++ cs.drop 18 := drop_parts cs 17 1
 rw [e6] at p6
 have p7 : cs.drop 18 = (cs.drop 18).take 1 ++ cs.drop 19 := drop_parts cs 18 1
 rw [e7] at p7
 have p8 : cs.drop 19 = (cs.drop 19).take 1 ++ cs.drop 20 := drop_parts cs 19 1
 rw [e8] at p8
 have p9 : cs.drop 20 = (cs.drop 20).take 2 ++ cs.drop 22 := drop_parts cs 20 2
 rw [e9] at p9
 have p10 : cs.drop 22 = (cs.drop 22).take 268 ++ cs.drop 290 := drop_parts cs 22 268
 rw [e10] at p10
 have pz : cs.drop 290 = [] := List.drop_eq_nil_of_le (by omega)
 have p0' : cs = _ := p0
 rw [p0', p1, p2, p3, p4, p5, p6, p7, p8, p9, p10, pz]
 have a1 : ((n1.toNat : Nat) : Int) = n1 := by omega
 have a4 : ((n4.toNat : Nat) : Int) = n4 := by omega
 have a7 : ((n7.toNat : Nat) : Int) = n7 := by omega
 unfold msL
 dsimp only
 rw [a1, a4, a7]
 simp [opL, oC]
set_option maxRecDepth 100000 in
theorem open_ms {b0 : Nat} {v : Value} {d : DataW H} {p : List MemPlace}
  (hv : Value.okWide Try.prog w .any b0 81 v) (h : DataW.Trod enc Try.prog w base (fun _ => true) held 81 v d p) : ∃ (m : Ms0) (s1 s2 : Value), v = .agg (msL m s1 s2).toArray ∧ m.Ok ∧ Rd w 1 s1 m.op.data.length (bV m.op.data) ∧ Rd w 1 s2 m.item.op.data.length (bV m.item.op.data) := by
 obtain ⟨cs, rfl, _⟩ := okWide_struct Try.underlying81 hv
 obtain ⟨fuel, hf⟩ := h
 have hc : (Value.agg cs).cells.toList = cs.toList := rfl
 rw [hc] at hf
 obtain ⟨m, s1, s2, ok, e, h1, h2⟩ := ms_of_trod hf
 exact ⟨m, s1, s2, by rw [← e], ok, h1, h2⟩
end
end Go.Proofs.Ytgkelbdgdhkeoaa
