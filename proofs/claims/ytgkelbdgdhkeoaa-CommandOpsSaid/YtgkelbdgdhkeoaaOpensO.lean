/- How an argument that is an operation, or an answer, looks. -/
import Derived.Test.YtgkelbdgdhkeoaaOpensV
import Derived.Test.YtgkelbdgdhkeoaaCmd1
namespace Go.Proofs.Ytgkelbdgdhkeoaa
open Go.ChangeShapes Go.WideShapes Go.ChangeAt Go.RowKit Go.Deep
set_option linter.unusedVariables false
open Wire Cmd

section
variable {H : Type} {enc : TypeId × Value → H} {w : World} {base : Nat} {held : Bool}
theorem cellsOp : Try.prog.cellsOf 26 = 7 := by kernel_rfl
theorem cellsOK : Try.prog.cellsOf 22 = 1 := by kernel_rfl
theorem cellsI : Try.prog.cellsOf 3 = 1 := by kernel_rfl

set_option maxRecDepth 100000 in
theorem op_of_trod {fuel : Nat} {cs : List Value} {x : DataW H × List MemPlace} (hf : DataW.trod enc Try.prog w base (fun _ => true) held fuel 26 cs = some x) :
    ∃ (o : Op0) (sl : Value), o.Ok ∧ cs = (oC o sl).toList ∧ Rd w 1 sl o.data.length (bV o.data) := by
  obtain ⟨xs, n, _, _, hlen, hxl, hi⟩ := DataW.trod_struct Try.underlying26 hf
  have hx5 : xs.length = 7 := hxl
  rw [cellsOp] at hlen
  have f0 : DataW.trod enc Try.prog w base (fun _ => true) held n 22 ((cs.drop 0).take (Try.prog.cellsOf 22)) = xs[0]? := hi 0 _ rfl
  rw [cellsOK] at f0
  have f1 : DataW.trod enc Try.prog w base (fun _ => true) held n 23 ((cs.drop 1).take (Try.prog.cellsOf 23)) = xs[1]? := hi 1 _ rfl
  rw [cellsU64] at f1
  have f2 : DataW.trod enc Try.prog w base (fun _ => true) held n 23 ((cs.drop 2).take (Try.prog.cellsOf 23)) = xs[2]? := hi 2 _ rfl
  rw [cellsU64] at f2
  have f3 : DataW.trod enc Try.prog w base (fun _ => true) held n 3 ((cs.drop 3).take (Try.prog.cellsOf 3)) = xs[3]? := hi 3 _ rfl
  rw [cellsI] at f3
  have f4 : DataW.trod enc Try.prog w base (fun _ => true) held n 3 ((cs.drop 4).take (Try.prog.cellsOf 3)) = xs[4]? := hi 4 _ rfl
  rw [cellsI] at f4
  have f5 : DataW.trod enc Try.prog w base (fun _ => true) held n 3 ((cs.drop 5).take (Try.prog.cellsOf 3)) = xs[5]? := hi 5 _ rfl
  rw [cellsI] at f5
  have f6 : DataW.trod enc Try.prog w base (fun _ => true) held n 24 ((cs.drop 6).take (Try.prog.cellsOf 24)) = xs[6]? := hi 6 _ rfl
  rw [cellsBs] at f6
  rw [List.getElem?_eq_getElem (by omega)] at f0 f1 f2 f3 f4 f5 f6
  obtain ⟨n0, e0, _, w0⟩ := DataW.trod_int Try.underlying22 f0
  obtain ⟨n1, e1, _, w1⟩ := DataW.trod_int Try.underlying23 f1
  obtain ⟨n2, e2, _, w2⟩ := DataW.trod_int Try.underlying23 f2
  obtain ⟨n3, e3, _, w3⟩ := DataW.trod_int Try.underlying3 f3
  obtain ⟨n4, e4, _, w4⟩ := DataW.trod_int Try.underlying3 f4
  obtain ⟨n5, e5, _, w5⟩ := DataW.trod_int Try.underlying3 f5
  have h0 := take1 e0
  have h1 := take1 e1
  have h2 := take1 e2
  have h3 := take1 e3
  have h4 := take1 e4
  have h5 := take1 e5
  obtain ⟨sl, hs⟩ : ∃ sl, cs[6]? = some sl := ⟨_, List.getElem?_eq_getElem (by omega)⟩
  have e6 : (cs.drop 6).take 1 = [sl] := by
    rw [List.drop_eq_getElem_cons (by omega)]
    have : cs[6] = sl := by rw [List.getElem?_eq_getElem (by omega)] at hs; exact Option.some.inj hs
    rw [this]; rfl
  rw [e6] at f6
  obtain ⟨m, bs, hrd⟩ := bytes_of_trod f6
  have hm : bs.length = m := by obtain ⟨_, _, _, hl, _⟩ := hrd; simpa [bV] using hl
  have r0 := wf_i64 w0
  have r1 := wf_u64 w1
  have r2 := wf_u64 w2
  have r3 := wf_i64 w3
  have r4 := wf_i64 w4
  have r5 := wf_i64 w5
  refine ⟨⟨n0, n1.toNat, n2.toNat, n3, n4, n5, bs⟩, sl, ⟨r0, by show n1.toNat < _; omega, by show n2.toNat < _; omega, r3, r4, r5⟩, ?_, by rw [hm]; exact hrd⟩
  have q : ∀ i (hi : i < cs.length) v, cs[i]? = some v → cs.drop i = v :: cs.drop (i + 1) := fun i hi v h => by
    rw [List.drop_eq_getElem_cons hi]
    rw [List.getElem?_eq_getElem hi] at h
    rw [Option.some.inj h]
  have d0 := q 0 (by omega) _ h0
  rw [List.drop_zero] at d0
  rw [d0, q 1 (by omega) _ h1, q 2 (by omega) _ h2, q 3 (by omega) _ h3, q 4 (by omega) _ h4, q 5 (by omega) _ h5, q 6 (by omega) _ hs, List.drop_eq_nil_of_le (by omega)]
  have a1 : ((n1.toNat : Nat) : Int) = n1 := by omega
  have a2 : ((n2.toNat : Nat) : Int) = n2 := by omega
  unfold oC
  rw [a1, a2]

set_option maxRecDepth 100000 in
theorem open_op {b0 : Nat} {v : Value} {d : DataW H} {p : List MemPlace}
    (hv : Value.okWide Try.prog w .any b0 26 v) (h : DataW.Trod enc Try.prog w base (fun _ => true) held 26 v d p) : ∃ (o : Op0) (sl : Value), v = .agg (oC o sl) ∧ o.Ok ∧ Rd w 1 sl o.data.length (bV o.data) := by
  obtain ⟨cs, rfl, _⟩ := okWide_struct Try.underlying26 hv
  obtain ⟨fuel, hf⟩ := h
  have hc : (Value.agg cs).cells.toList = cs.toList := rfl
  rw [hc] at hf
  obtain ⟨o, sl, ok, e, hr⟩ := op_of_trod hf
  exact ⟨o, sl, by rw [Array.toList_inj.1 e], ok, hr⟩
end
end Go.Proofs.Ytgkelbdgdhkeoaa
