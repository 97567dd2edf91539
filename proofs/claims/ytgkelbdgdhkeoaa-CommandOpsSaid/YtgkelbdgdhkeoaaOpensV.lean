/- How an argument of the reference's values that can be read looks. -/
import Derived.Deep.Slices
import Derived.OpenShut
import Derived.Test.YtgkelbdgdhkeoaaOpens
import Derived.Test.YtgkelbdgdhkeoaaTold
namespace Go.Proofs.Ytgkelbdgdhkeoaa
open Go.ChangeShapes Go.WideShapes Go.ChangeAt Go.RowKit Go.Deep
set_option linter.unusedVariables false
open Wire

def byteOf : Value → UInt8
  | .int _ n => UInt8.ofNat n.toNat
  | _ => 0
theorem bytes_eq {cs : List Value} (h : ∀ v ∈ cs, ∃ n : Int, v = .int .u8 n ∧ 0 ≤ n ∧ n ≤ 255) : cs = bV (cs.map byteOf) := by
  induction cs with
  | nil => rfl
  | cons v l ih =>
    obtain ⟨n, rfl, h0, h1⟩ := h v (by simp)
    have e := ih fun u hu => h u (by simp [hu])
    have e2 : bV ((Value.int .u8 n :: l).map byteOf) = .int .u8 ((UInt8.ofNat n.toNat).toNat : Int) :: bV (l.map byteOf) := rfl
    rw [e2, ← e]
    congr 2
    simp
    omega
theorem wf_u8 {n : Int} (h : (Lit.int .u8 n).wf = true) : 0 ≤ n ∧ n ≤ 255 := by
  simpa [Lit.wf, IntKind.min, IntKind.max, IntKind.signed, IntKind.bits] using h
theorem wf_u64 {n : Int} (h : (Lit.int .u64 n).wf = true) : 0 ≤ n ∧ n ≤ 18446744073709551615 := by
  simpa [Lit.wf, IntKind.min, IntKind.max, IntKind.signed, IntKind.bits] using h

section
variable {H : Type} {enc : TypeId × Value → H} {w : World} {base : Nat} {held : Bool}
theorem bytes_of_trod {fuel : Nat} {v : Value} {x : DataW H × List MemPlace} (hf : DataW.trod enc Try.prog w base (fun _ => true) held fuel 24 [v] = some x) : ∃ n bs, Rd w 1 v n (bV bs) := by
  rcases open_ints Try.underlying24 Try.underlying5 (by kernel_rfl) hf with ⟨hcs, _⟩ | ⟨x, len, cap, zs, hcs, _, hl, hm, hz, _, hcell, hwz⟩
  · obtain rfl : v = .slice none 0 0 := by simpa using hcs
    exact ⟨0, [], none, 0, rfl, by simp [bV], by simp, ⟨fun _ => rfl, by simp, by simp⟩, fun j u hj => by simp [bV] at hj⟩
  · obtain rfl : v = .slice (some x) len cap := by simpa using hcs
    replace hz : zs.length = cap := by simpa using hz
    refine ⟨len, (zs.take len).map fun z => UInt8.ofNat z.toNat, some x, cap, rfl, ?_, by omega, ⟨(fun h => by cases h), hl, hm⟩, fun j u hj => ?_⟩
    · rw [bV_len, List.length_map, List.length_take]; omega
    · have hjl : j < len := by
        have := (List.getElem?_eq_some_iff.1 hj).1
        rw [bV_len, List.length_map, List.length_take] at this
        omega
      obtain ⟨b, off, spot⟩ := x
      have hc := hcell j (by omega)
      have hspot : spot = none := by
        have h0 := hcell 0 (by omega)
        simpa [Addr.add] using World.cell?_spot h0
      subst hspot
      rw [Addr.add_lit] at hc
      refine ⟨b, off, rfl, World.block_lt_of_cell? w _ hc, ?_⟩
      rw [hc]
      have hzj : zs[j]? = some zs[j] := List.getElem?_eq_getElem (by omega)
      have hr := wf_u8 (hwz zs[j] (List.getElem_mem _))
      simp only [bV, List.getElem?_map, List.getElem?_take, hjl, if_true, hzj, Option.map_some] at hj
      rw [← hj]
      simp only [List.getD_eq_getElem?_getD, hzj, Option.getD_some, Option.some.injEq, Value.int.injEq, true_and]
      simp
      omega

theorem cellsRV : Try.prog.cellsOf 136 = 260 := by kernel_rfl
theorem cellsBlk : Try.prog.cellsOf 77 = 256 := by kernel_rfl
theorem cellsU8' : Try.prog.cellsOf 5 = 1 := by kernel_rfl
theorem cellsU64 : Try.prog.cellsOf 23 = 1 := by kernel_rfl
theorem cellsBool : Try.prog.cellsOf 4 = 1 := by kernel_rfl
theorem cellsBs : Try.prog.cellsOf 24 = 1 := by kernel_rfl

theorem take1 {cs : List Value} {i : Nat} {v : Value} (h : (cs.drop i).take 1 = [v]) : cs[i]? = some v := by
  have : ((cs.drop i).take 1)[0]? = some v := by rw [h]; rfl
  rw [List.getElem?_take] at this
  simpa using this

theorem block_of_trod {fuel : Nat} {cs : List Value} {x : DataW H × List MemPlace} (hf : DataW.trod enc Try.prog w base (fun _ => true) held fuel 77 cs = some x) : cs = bV (cs.map byteOf) ∧ cs.length = 256 := by
  obtain ⟨xs, m, _, _, hlen, hxl, hi⟩ := DataW.trod_array Try.underlying77 hf
  rw [cellsBlk] at hlen
  refine ⟨bytes_eq fun v hv => ?_, hlen⟩
  obtain ⟨i, hiv⟩ := List.mem_iff_getElem?.1 hv
  have hil : i < 256 := by rw [← hlen]; exact (List.getElem?_eq_some_iff.1 hiv).1
  have h1 := hi i hil
  rw [cellsU8', List.getElem?_eq_getElem (by omega)] at h1
  obtain ⟨n, e, _, hw⟩ := DataW.trod_int Try.underlying5 h1
  rw [Nat.mul_one] at e
  have := take1 e
  rw [hiv] at this
  exact ⟨n, Option.some.inj this, (wf_u8 hw).1, (wf_u8 hw).2⟩

set_option maxRecDepth 100000 in
theorem rv_of_trod {fuel : Nat} {cs : List Value} {x : DataW H × List MemPlace} (hf : DataW.trod enc Try.prog w base (fun _ => true) held fuel 136 cs = some x) :
    ∃ (v : V) (sl : Value), v.Ok ∧ cs = rC v sl ∧ Rd w 1 sl v.b.length (bV v.b) := by
  obtain ⟨xs, n, _, _, hlen, hxl, hi⟩ := DataW.trod_struct Try.underlying136 hf
  have hx5 : xs.length = 5 := hxl
  rw [cellsRV] at hlen
  have f0 : DataW.trod enc Try.prog w base (fun _ => true) held n 5 ((cs.drop 0).take (Try.prog.cellsOf 5)) = xs[0]? := hi 0 _ rfl
  rw [cellsU8'] at f0
  have f1 : DataW.trod enc Try.prog w base (fun _ => true) held n 23 ((cs.drop 1).take (Try.prog.cellsOf 23)) = xs[1]? := hi 1 _ rfl
  rw [cellsU64] at f1
  have f2 : DataW.trod enc Try.prog w base (fun _ => true) held n 4 ((cs.drop 2).take (Try.prog.cellsOf 4)) = xs[2]? := hi 2 _ rfl
  rw [cellsBool] at f2
  have f3 : DataW.trod enc Try.prog w base (fun _ => true) held n 24 ((cs.drop 3).take (Try.prog.cellsOf 24)) = xs[3]? := hi 3 _ rfl
  rw [cellsBs] at f3
  have f4 : DataW.trod enc Try.prog w base (fun _ => true) held n 77 ((cs.drop 4).take (Try.prog.cellsOf 77)) = xs[4]? := hi 4 _ rfl
  rw [cellsBlk] at f4
  rw [List.getElem?_eq_getElem (by omega)] at f0 f1 f2 f3 f4
  obtain ⟨n0, e0, _, w0⟩ := DataW.trod_int Try.underlying5 f0
  obtain ⟨n1, e1, _, w1⟩ := DataW.trod_int Try.underlying23 f1
  obtain ⟨n2, e2, _⟩ := DataW.trod_bool Try.underlying4 f2
  have h0 := take1 e0
  have h1 := take1 e1
  have h2 := take1 e2
  obtain ⟨sl, hs⟩ : ∃ sl, cs[3]? = some sl := ⟨_, List.getElem?_eq_getElem (by omega)⟩
  have e3 : (cs.drop 3).take 1 = [sl] := by
    rw [List.drop_eq_getElem_cons (by omega)]
    have : cs[3] = sl := by rw [List.getElem?_eq_getElem (by omega)] at hs; exact Option.some.inj hs
    rw [this]; rfl
  rw [e3] at f3
  obtain ⟨m, bs, hrd⟩ := bytes_of_trod f3
  obtain ⟨hb, hbl⟩ := block_of_trod f4
  have hm : bs.length = m := by obtain ⟨_, _, _, hl, _⟩ := hrd; simpa [bV] using hl
  have r0 := wf_u8 w0
  have r1 := wf_u64 w1
  rw [List.take_of_length_le (by rw [List.length_drop]; omega)] at hb hbl
  refine ⟨⟨UInt8.ofNat n0.toNat, n1.toNat, n2, bs, (cs.drop 4).map byteOf⟩, sl, ⟨by show n1.toNat < _; omega, by rw [List.length_map]; exact hbl⟩, ?_, by rw [hm]; exact hrd⟩
  unfold rC
  rw [← hb]
  have q : ∀ i (hi : i < cs.length) v, cs[i]? = some v → cs.drop i = v :: cs.drop (i + 1) := fun i hi v h => by
    rw [List.drop_eq_getElem_cons hi]
    rw [List.getElem?_eq_getElem hi] at h
    rw [Option.some.inj h]
  have d0 := q 0 (by omega) _ h0
  rw [List.drop_zero] at d0
  rw [d0, q 1 (by omega) _ h1, q 2 (by omega) _ h2, q 3 (by omega) _ hs]
  have a0 : ((UInt8.ofNat n0.toNat).toNat : Int) = n0 := by simp; omega
  have a1 : ((n1.toNat : Nat) : Int) = n1 := by omega
  rw [a0, a1]
  rfl

set_option maxRecDepth 100000 in
theorem open_rvs {b0 : Nat} {v : Value} {d : DataW H} {p : List MemPlace}
    (hv : Value.okWide Try.prog w .any b0 138 v) (h : DataW.Trod enc Try.prog w base (fun _ => true) held 138 v d p) : ∃ ao n cap l, v = .slice ao n cap ∧ RVs w ao n cap l := by
  obtain ⟨a0, len, cap, rfl⟩ := okWide_slice Try.underlying138 hv
  obtain ⟨fuel, hf⟩ := h
  rcases open_slice Try.underlying138 hf with ⟨hcs, _⟩ | ⟨a, l, c, m, n, D, Pl, hcs, _, hl, hm, hmm, _, hi⟩
  · simp [Value.cells] at hcs
    obtain ⟨rfl, rfl, rfl⟩ := hcs
    exact ⟨none, 0, 0, [], rfl, rfl, Nat.le_refl _, by unfold maxLen; omega, fun _ => rfl, fun j x hj => by simp at hj⟩
  · simp [Value.cells] at hcs
    obtain ⟨rfl, rfl, rfl⟩ := hcs
    replace hmm : m = cap := by simpa using hmm
    subst hmm
    obtain ⟨b, off, spot⟩ := a
    have each : ∀ i, ∃ q : V × Value, i < len → spot = none ∧ q.1.Ok ∧ b < w.heap.size ∧ w.rangeAt b (off + i * 260) (rC q.1 q.2) ∧ Rd w 1 q.2 q.1.b.length (bV q.1.b) := by
      intro i
      by_cases hil : i < len
      · obtain ⟨cs', hc, ht⟩ := hi i (by omega)
        obtain ⟨v, sl, hok, rfl, hrd⟩ := rv_of_trod ht
        obtain ⟨_, hlen, hcell⟩ := World.cells?_some hc
        rw [cellsRV] at hlen hcell
        have hspot : spot = none := by
          obtain ⟨cs0, hc0, _⟩ := hi 0 (by omega)
          obtain ⟨_, hlen0, hcell0⟩ := World.cells?_some hc0
          rw [cellsRV] at hlen0 hcell0
          have h0 := hcell0 0 (by omega)
          have := World.cell?_spot (h0.trans (List.getElem?_eq_getElem (by omega)))
          simpa [Addr.add] using this
        subst hspot
        refine ⟨(v, sl), fun _ => ⟨rfl, hok, ?_, ?_, hrd⟩⟩
        · have h0 := hcell 0 (by omega)
          rw [Addr.add_lit] at h0
          have := World.block_lt_of_cell? w _ (h0.trans (List.getElem?_eq_getElem (by omega)))
          simpa [Addr.add] using this
        · intro j u hj
          have h0 := hcell j (by rw [← hlen]; exact (List.getElem?_eq_some_iff.1 hj).1)
          rw [Addr.add_lit, Addr.add_lit] at h0
          rw [h0]; exact hj
      · exact ⟨(num 0, .nilIface), fun h => absurd h hil⟩
    obtain ⟨F, hF⟩ := Classical.axiomOfChoice each
    refine ⟨_, len, m, (List.range len).map fun i => (F i).1, rfl, by simp, hl, hm, (fun h => by cases h), fun j x hj => ?_⟩
    have hjl : j < len := by
      have := (List.getElem?_eq_some_iff.1 hj).1
      simpa using this
    have hx : (F j).1 = x := by simpa [hjl] using hj
    obtain ⟨hspot, hok, hbl, hr, hrd⟩ := hF j hjl
    subst hspot
    rw [hx] at hok hr hrd
    exact ⟨hok, b, off, _, rfl, hbl, hr, hrd⟩
end
end Go.Proofs.Ytgkelbdgdhkeoaa
