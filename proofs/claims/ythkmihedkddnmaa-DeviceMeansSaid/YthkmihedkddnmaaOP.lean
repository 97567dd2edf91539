/- Several texts in one: Opens OpensV OpensO OpensA. -/
import Derived.Lib.SmallJoins
import Derived.Test.YthkmihedkddnmaaFrame
import Derived.Test.YthkmihedkddnmaaWA
import Derived.Deep.Slices
import Derived.OpenShut
import Derived.Test.YthkmihedkddnmaaWB
import Derived.Test.YthkmihedkddnmaaCA
import Derived.Test.YthkmihedkddnmaaCB
namespace Go.Proofs.Ythkmihedkddnmaa
open Go.ChangeShapes Go.WideShapes Go.ChangeAt Go.RowKit
set_option linter.unusedVariables false

theorem wf_i64 {n : Int} (h : (Lit.int .i64 n).wf = true) : -9223372036854775808 ≤ n ∧ n ≤ 9223372036854775807 := by
  simpa [Lit.wf, IntKind.min, IntKind.max, IntKind.signed, IntKind.bits] using h

set_option maxRecDepth 100000 in
theorem open_bytes {H : Type} {enc : TypeId × Value → H} {w : World} {base b0 : Nat} {held : Bool} {v : Value} {d : DataW H} {p : List MemPlace}
    (hv : Value.okWide Try.prog w .any b0 25 v) (h : DataW.Trod enc Try.prog w base (fun _ => true) held 25 v d p) : ∃ n bs, Rd w 1 v n (bV bs) := by
  obtain ⟨a0, len, cap, rfl⟩ := okWide_slice Try.underlying25 hv
  obtain ⟨fuel, hf⟩ := h
  rcases open_ints Try.underlying25 Try.underlying5 (by kernel_rfl) hf with ⟨hcs, _⟩ | ⟨x, l, c, zs, hcs, _, hl, hm, hz, _, hcell, hwz⟩
  · simp [Value.cells] at hcs
    obtain ⟨rfl, rfl, rfl⟩ := hcs
    exact ⟨0, [], none, 0, rfl, by simp [bV], by simp, ⟨fun _ => rfl, by simp, by simp⟩, fun j u hj => by simp [bV] at hj⟩
  · simp [Value.cells] at hcs
    obtain ⟨rfl, rfl, rfl⟩ := hcs
    replace hz : zs.length = cap := by simpa using hz
    refine ⟨len, (zs.take len).map fun z => UInt8.ofNat z.toNat, some x, cap, rfl, ?_, by omega, ⟨(fun h => by cases h), hl, hm⟩, fun j u hj => ?_⟩
    · rw [bV_len, List.length_map, List.length_take]; omega
    · have hjl : j < len := by
        have := (List.getElem?_eq_some_iff.1 hj).1
        rw [bV_len, List.length_map, List.length_take] at this
        omega
      obtain ⟨b, off, spot⟩ := x
      have hc := hcell j (by omega)
      have hspot : spot = none := by
        have h0 := hcell 0 (by omega)
        simpa [Addr.add] using World.cell?_spot h0
      subst hspot
      rw [Addr.add_lit] at hc
      refine ⟨b, off, rfl, World.block_lt_of_cell? w _ hc, ?_⟩
      rw [hc]
      have hzj : zs[j]? = some zs[j] := List.getElem?_eq_getElem (by omega)
      have hw := hwz zs[j] (List.getElem_mem _)
      have hr : 0 ≤ zs[j] ∧ zs[j] ≤ 255 := by simpa [Lit.wf, IntKind.min, IntKind.max, IntKind.signed, IntKind.bits] using hw
      simp only [bV, List.getElem?_map, List.getElem?_take, hjl, if_true, hzj, Option.map_some] at hj
      rw [← hj]
      simp only [List.getD_eq_getElem?_getD, hzj, Option.getD_some, Option.some.injEq, Value.int.injEq, true_and]
      simp
      omega
end Go.Proofs.Ythkmihedkddnmaa
/- How an argument of the reference's values that can be read looks. -/
namespace Go.Proofs.Ythkmihedkddnmaa
open Go.ChangeShapes Go.WideShapes Go.ChangeAt Go.RowKit Go.Deep
set_option linter.unusedVariables false
open Wire

def byteOf : Value → UInt8
  | .int _ n => UInt8.ofNat n.toNat
  | _ => 0
theorem bytes_eq {cs : List Value} (h : ∀ v ∈ cs, ∃ n : Int, v = .int .u8 n ∧ 0 ≤ n ∧ n ≤ 255) : cs = bV (cs.map byteOf) := by
  induction cs with
  | nil => rfl
  | cons v l ih =>
    obtain ⟨n, rfl, h0, h1⟩ := h v (by simp)
    have e := ih fun u hu => h u (by simp [hu])
    have e2 : bV ((Value.int .u8 n :: l).map byteOf) = .int .u8 ((UInt8.ofNat n.toNat).toNat : Int) :: bV (l.map byteOf) := rfl
    rw [e2, ← e]
    congr 2
    simp
    omega
theorem wf_u8 {n : Int} (h : (Lit.int .u8 n).wf = true) : 0 ≤ n ∧ n ≤ 255 := by
  simpa [Lit.wf, IntKind.min, IntKind.max, IntKind.signed, IntKind.bits] using h
theorem wf_u64 {n : Int} (h : (Lit.int .u64 n).wf = true) : 0 ≤ n ∧ n ≤ 18446744073709551615 := by
  simpa [Lit.wf, IntKind.min, IntKind.max, IntKind.signed, IntKind.bits] using h

section
variable {H : Type} {enc : TypeId × Value → H} {w : World} {base : Nat} {held : Bool}
theorem bytes_of_trod {fuel : Nat} {v : Value} {x : DataW H × List MemPlace} (hf : DataW.trod enc Try.prog w base (fun _ => true) held fuel 25 [v] = some x) : ∃ n bs, Rd w 1 v n (bV bs) := by
  rcases open_ints Try.underlying25 Try.underlying5 (by kernel_rfl) hf with ⟨hcs, _⟩ | ⟨x, len, cap, zs, hcs, _, hl, hm, hz, _, hcell, hwz⟩
  · obtain rfl : v = .slice none 0 0 := by simpa using hcs
    exact ⟨0, [], none, 0, rfl, by simp [bV], by simp, ⟨fun _ => rfl, by simp, by simp⟩, fun j u hj => by simp [bV] at hj⟩
  · obtain rfl : v = .slice (some x) len cap := by simpa using hcs
    replace hz : zs.length = cap := by simpa using hz
    refine ⟨len, (zs.take len).map fun z => UInt8.ofNat z.toNat, some x, cap, rfl, ?_, by omega, ⟨(fun h => by cases h), hl, hm⟩, fun j u hj => ?_⟩
    · rw [bV_len, List.length_map, List.length_take]; omega
    · have hjl : j < len := by
        have := (List.getElem?_eq_some_iff.1 hj).1
        rw [bV_len, List.length_map, List.length_take] at this
        omega
      obtain ⟨b, off, spot⟩ := x
      have hc := hcell j (by omega)
      have hspot : spot = none := by
        have h0 := hcell 0 (by omega)
        simpa [Addr.add] using World.cell?_spot h0
      subst hspot
      rw [Addr.add_lit] at hc
      refine ⟨b, off, rfl, World.block_lt_of_cell? w _ hc, ?_⟩
      rw [hc]
      have hzj : zs[j]? = some zs[j] := List.getElem?_eq_getElem (by omega)
      have hr := wf_u8 (hwz zs[j] (List.getElem_mem _))
      simp only [bV, List.getElem?_map, List.getElem?_take, hjl, if_true, hzj, Option.map_some] at hj
      rw [← hj]
      simp only [List.getD_eq_getElem?_getD, hzj, Option.getD_some, Option.some.injEq, Value.int.injEq, true_and]
      simp
      omega

theorem cellsBlk : Try.prog.cellsOf 42 = 256 := by kernel_rfl
theorem cellsU8' : Try.prog.cellsOf 5 = 1 := by kernel_rfl
theorem cellsU64 : Try.prog.cellsOf 24 = 1 := by kernel_rfl
theorem cellsBool : Try.prog.cellsOf 4 = 1 := by kernel_rfl
theorem cellsBs : Try.prog.cellsOf 25 = 1 := by kernel_rfl

theorem take1 {cs : List Value} {i : Nat} {v : Value} (h : (cs.drop i).take 1 = [v]) : cs[i]? = some v := by
  have : ((cs.drop i).take 1)[0]? = some v := by rw [h]; rfl
  rw [List.getElem?_take] at this
  simpa using this

theorem block_of_trod {fuel : Nat} {cs : List Value} {x : DataW H × List MemPlace} (hf : DataW.trod enc Try.prog w base (fun _ => true) held fuel 42 cs = some x) : cs = bV (cs.map byteOf) ∧ cs.length = 256 := by
  obtain ⟨xs, m, _, _, hlen, hxl, hi⟩ := DataW.trod_array Try.underlying42 hf
  rw [cellsBlk] at hlen
  refine ⟨bytes_eq fun v hv => ?_, hlen⟩
  obtain ⟨i, hiv⟩ := List.mem_iff_getElem?.1 hv
  have hil : i < 256 := by rw [← hlen]; exact (List.getElem?_eq_some_iff.1 hiv).1
  have h1 := hi i hil
  rw [cellsU8', List.getElem?_eq_getElem (by omega)] at h1
  obtain ⟨n, e, _, hw⟩ := DataW.trod_int Try.underlying5 h1
  rw [Nat.mul_one] at e
  have := take1 e
  rw [hiv] at this
  exact ⟨n, Option.some.inj this, (wf_u8 hw).1, (wf_u8 hw).2⟩

end
end Go.Proofs.Ythkmihedkddnmaa
/- How an argument that is an operation, or an answer, looks. -/
namespace Go.Proofs.Ythkmihedkddnmaa
open Go.ChangeShapes Go.WideShapes Go.ChangeAt Go.RowKit Go.Deep
set_option linter.unusedVariables false
open Wire Cmd

section
variable {H : Type} {enc : TypeId × Value → H} {w : World} {base : Nat} {held : Bool}
theorem cellsOp : Try.prog.cellsOf 27 = 7 := by kernel_rfl
theorem cellsOK : Try.prog.cellsOf 23 = 1 := by kernel_rfl
theorem cellsI : Try.prog.cellsOf 3 = 1 := by kernel_rfl

set_option maxRecDepth 100000 in
theorem op_of_trod {fuel : Nat} {cs : List Value} {x : DataW H × List MemPlace} (hf : DataW.trod enc Try.prog w base (fun _ => true) held fuel 27 cs = some x) :
    ∃ (o : Op0) (sl : Value), o.Ok ∧ cs = (oC o sl).toList ∧ Rd w 1 sl o.data.length (bV o.data) := by
  obtain ⟨xs, n, _, _, hlen, hxl, hi⟩ := DataW.trod_struct Try.underlying27 hf
  have hx5 : xs.length = 7 := hxl
  rw [cellsOp] at hlen
  have f0 : DataW.trod enc Try.prog w base (fun _ => true) held n 23 ((cs.drop 0).take (Try.prog.cellsOf 23)) = xs[0]? := hi 0 _ rfl
  rw [cellsOK] at f0
  have f1 : DataW.trod enc Try.prog w base (fun _ => true) held n 24 ((cs.drop 1).take (Try.prog.cellsOf 24)) = xs[1]? := hi 1 _ rfl
  rw [cellsU64] at f1
  have f2 : DataW.trod enc Try.prog w base (fun _ => true) held n 24 ((cs.drop 2).take (Try.prog.cellsOf 24)) = xs[2]? := hi 2 _ rfl
  rw [cellsU64] at f2
  have f3 : DataW.trod enc Try.prog w base (fun _ => true) held n 3 ((cs.drop 3).take (Try.prog.cellsOf 3)) = xs[3]? := hi 3 _ rfl
  rw [cellsI] at f3
  have f4 : DataW.trod enc Try.prog w base (fun _ => true) held n 3 ((cs.drop 4).take (Try.prog.cellsOf 3)) = xs[4]? := hi 4 _ rfl
  rw [cellsI] at f4
  have f5 : DataW.trod enc Try.prog w base (fun _ => true) held n 3 ((cs.drop 5).take (Try.prog.cellsOf 3)) = xs[5]? := hi 5 _ rfl
  rw [cellsI] at f5
  have f6 : DataW.trod enc Try.prog w base (fun _ => true) held n 25 ((cs.drop 6).take (Try.prog.cellsOf 25)) = xs[6]? := hi 6 _ rfl
  rw [cellsBs] at f6
  rw [List.getElem?_eq_getElem (by omega)] at f0 f1 f2 f3 f4 f5 f6
  obtain ⟨n0, e0, _, w0⟩ := DataW.trod_int Try.underlying23 f0
  obtain ⟨n1, e1, _, w1⟩ := DataW.trod_int Try.underlying24 f1
  obtain ⟨n2, e2, _, w2⟩ := DataW.trod_int Try.underlying24 f2
  obtain ⟨n3, e3, _, w3⟩ := DataW.trod_int Try.underlying3 f3
  obtain ⟨n4, e4, _, w4⟩ := DataW.trod_int Try.underlying3 f4
  obtain ⟨n5, e5, _, w5⟩ := DataW.trod_int Try.underlying3 f5
  have h0 := take1 e0
  have h1 := take1 e1
  have h2 := take1 e2
  have h3 := take1 e3
  have h4 := take1 e4
  have h5 := take1 e5
  obtain ⟨sl, hs⟩ : ∃ sl, cs[6]? = some sl := ⟨_, List.getElem?_eq_getElem (by omega)⟩
  have e6 : (cs.drop 6).take 1 = [sl] := by
    rw [List.drop_eq_getElem_cons (by omega)]
    have : cs[6] = sl := by rw [List.getElem?_eq_getElem (by omega)] at hs; exact Option.some.inj hs
    rw [this]; rfl
  rw [e6] at f6
  obtain ⟨m, bs, hrd⟩ := bytes_of_trod f6
  have hm : bs.length = m := by obtain ⟨_, _, _, hl, _⟩ := hrd; simpa [bV] using hl
  have r0 := wf_i64 w0
  have r1 := wf_u64 w1
  have r2 := wf_u64 w2
  have r3 := wf_i64 w3
  have r4 := wf_i64 w4
  have r5 := wf_i64 w5
  refine ⟨⟨n0, n1.toNat, n2.toNat, n3, n4, n5, bs⟩, sl, ⟨r0, by show n1.toNat < _; omega, by show n2.toNat < _; omega, r3, r4, r5⟩, ?_, by rw [hm]; exact hrd⟩
  have q : ∀ i (hi : i < cs.length) v, cs[i]? = some v → cs.drop i = v :: cs.drop (i + 1) := fun i hi v h => by
    rw [List.drop_eq_getElem_cons hi]
    rw [List.getElem?_eq_getElem hi] at h
    rw [Option.some.inj h]
  have d0 := q 0 (by omega) _ h0
  rw [List.drop_zero] at d0
  rw [d0, q 1 (by omega) _ h1, q 2 (by omega) _ h2, q 3 (by omega) _ h3, q 4 (by omega) _ h4, q 5 (by omega) _ h5, q 6 (by omega) _ hs, List.drop_eq_nil_of_le (by omega)]
  have a1 : ((n1.toNat : Nat) : Int) = n1 := by omega
  have a2 : ((n2.toNat : Nat) : Int) = n2 := by omega
  unfold oC
  rw [a1, a2]

set_option maxRecDepth 100000 in
theorem open_op {b0 : Nat} {v : Value} {d : DataW H} {p : List MemPlace}
    (hv : Value.okWide Try.prog w .any b0 27 v) (h : DataW.Trod enc Try.prog w base (fun _ => true) held 27 v d p) : ∃ (o : Op0) (sl : Value), v = .agg (oC o sl) ∧ o.Ok ∧ Rd w 1 sl o.data.length (bV o.data) := by
  obtain ⟨cs, rfl, _⟩ := okWide_struct Try.underlying27 hv
  obtain ⟨fuel, hf⟩ := h
  have hc : (Value.agg cs).cells.toList = cs.toList := rfl
  rw [hc] at hf
  obtain ⟨o, sl, ok, e, hr⟩ := op_of_trod hf
  exact ⟨o, sl, by rw [Array.toList_inj.1 e], ok, hr⟩
end
end Go.Proofs.Ythkmihedkddnmaa
/- How an argument that is an answer looks. -/
namespace Go.Proofs.Ythkmihedkddnmaa
open Go.ChangeShapes Go.WideShapes Go.ChangeAt Go.RowKit Go.Deep
set_option linter.unusedVariables false
open Wire Cmd

section
variable {H : Type} {enc : TypeId × Value → H} {w : World} {base : Nat} {held : Bool}
theorem cellsAn : Try.prog.cellsOf 35 = 3 := by kernel_rfl
theorem cellsEr : Try.prog.cellsOf 33 = 1 := by kernel_rfl

set_option maxRecDepth 100000 in
theorem ans_of_trod {fuel : Nat} {cs : List Value} {x : DataW H × List MemPlace} (hf : DataW.trod enc Try.prog w base (fun _ => true) held fuel 35 cs = some x) :
    ∃ (a : Ans0) (sl : Value), a.Ok ∧ cs = (aC a sl).toList ∧ Rd w 1 sl a.data.length (bV a.data) := by
  obtain ⟨xs, n, _, _, hlen, hxl, hi⟩ := DataW.trod_struct Try.underlying35 hf
  have hx5 : xs.length = 3 := hxl
  rw [cellsAn] at hlen
  have f0 : DataW.trod enc Try.prog w base (fun _ => true) held n 33 ((cs.drop 0).take (Try.prog.cellsOf 33)) = xs[0]? := hi 0 _ rfl
  rw [cellsEr] at f0
  have f1 : DataW.trod enc Try.prog w base (fun _ => true) held n 3 ((cs.drop 1).take (Try.prog.cellsOf 3)) = xs[1]? := hi 1 _ rfl
  rw [cellsI] at f1
  have f6 : DataW.trod enc Try.prog w base (fun _ => true) held n 25 ((cs.drop 2).take (Try.prog.cellsOf 25)) = xs[2]? := hi 2 _ rfl
  rw [cellsBs] at f6
  rw [List.getElem?_eq_getElem (by omega)] at f0 f1 f6
  obtain ⟨n0, e0, _, w0⟩ := DataW.trod_int Try.underlying33 f0
  obtain ⟨n1, e1, _, w1⟩ := DataW.trod_int Try.underlying3 f1
  have h0 := take1 e0
  have h1 := take1 e1
  obtain ⟨sl, hs⟩ : ∃ sl, cs[2]? = some sl := ⟨_, List.getElem?_eq_getElem (by omega)⟩
  have e6 : (cs.drop 2).take 1 = [sl] := by
    rw [List.drop_eq_getElem_cons (by omega)]
    have : cs[2] = sl := by rw [List.getElem?_eq_getElem (by omega)] at hs; exact Option.some.inj hs
    rw [this]; rfl
  rw [e6] at f6
  obtain ⟨m, bs, hrd⟩ := bytes_of_trod f6
  have hm : bs.length = m := by obtain ⟨_, _, _, hl, _⟩ := hrd; simpa [bV] using hl
  have r0 := wf_i64 w0
  have r1 := wf_i64 w1
  refine ⟨⟨n0, n1, bs⟩, sl, ⟨r0, r1⟩, ?_, by rw [hm]; exact hrd⟩
  have q : ∀ i (hi : i < cs.length) v, cs[i]? = some v → cs.drop i = v :: cs.drop (i + 1) := fun i hi v h => by
    rw [List.drop_eq_getElem_cons hi]
    rw [List.getElem?_eq_getElem hi] at h
    rw [Option.some.inj h]
  have d0 := q 0 (by omega) _ h0
  rw [List.drop_zero] at d0
  rw [d0, q 1 (by omega) _ h1, q 2 (by omega) _ hs, List.drop_eq_nil_of_le (by omega)]
  rfl

set_option maxRecDepth 100000 in
theorem open_ans {b0 : Nat} {v : Value} {d : DataW H} {p : List MemPlace}
    (hv : Value.okWide Try.prog w .any b0 35 v) (h : DataW.Trod enc Try.prog w base (fun _ => true) held 35 v d p) : ∃ (a : Ans0) (sl : Value), v = .agg (aC a sl) ∧ a.Ok ∧ Rd w 1 sl a.data.length (bV a.data) := by
  obtain ⟨cs, rfl, _⟩ := okWide_struct Try.underlying35 hv
  obtain ⟨fuel, hf⟩ := h
  have hc : (Value.agg cs).cells.toList = cs.toList := rfl
  rw [hc] at hf
  obtain ⟨a, sl, ok, e, hr⟩ := ans_of_trod hf
  exact ⟨a, sl, by rw [Array.toList_inj.1 e], ok, hr⟩
end
end Go.Proofs.Ythkmihedkddnmaa
