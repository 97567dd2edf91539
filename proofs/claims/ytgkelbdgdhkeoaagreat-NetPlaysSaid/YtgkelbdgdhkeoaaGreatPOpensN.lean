/- How an argument of nets' steps that can be read looks. -/
import Derived.Test.YtgkelbdgdhkeoaaGreatPOP
import Derived.Test.YtgkelbdgdhkeoaaGreatPNA
namespace Go.Proofs.YtgkelbdgdhkeoaaGreat
open Go.ChangeShapes Go.WideShapes Go.ChangeAt Go.RowKit Go.Deep
set_option linter.unusedVariables false
open Wire
section
variable {H : Type} {enc : TypeId × Value → H} {w : World} {base : Nat} {held : Bool}
theorem cellsSt : Tryz.prog.cellsOf 36 = 3 := by kernel_rfl
theorem cellsInt : Tryz.prog.cellsOf 3 = 1 := by kernel_rfl
set_option maxRecDepth 100000 in
theorem st_of_trod {fuel : Nat} {cs : List Value} {x : DataW H × List MemPlace} (hf : DataW.trod enc Tryz.prog w base (fun _ => true) held fuel 36 cs = some x) :
  ∃ s : St, cs = [.int .i64 s.k, .int .i64 s.n, s.v] ∧ Rd w 1 s.v s.b.length (bV s.b) := by
 obtain ⟨xs, n, _, _, hlen, hxl, hi⟩ := DataW.trod_struct Tryz.underlying36 hf
 have hx3 : xs.length = 3 := hxl
 rw [cellsSt] at hlen
 have f0 : DataW.trod enc Tryz.prog w base (fun _ => true) held n 3 ((cs.drop 0).take (Tryz.prog.cellsOf 3)) = xs[0]? := hi 0 _ rfl
 have f1 : DataW.trod enc Tryz.prog w base (fun _ => true) held n 3 ((cs.drop 1).take (Tryz.prog.cellsOf 3)) = xs[1]? := hi 1 _ rfl
 rw [cellsInt] at f0 f1
 have f2 : DataW.trod enc Tryz.prog w base (fun _ => true) held n 34 ((cs.drop 2).take (Tryz.prog.cellsOf 34)) = xs[2]? := hi 2 _ rfl
 rw [cellsBs] at f2
 rw [List.getElem?_eq_getElem (by omega)] at f0 f1 f2
 obtain ⟨n0, e0, _, w0⟩ := DataW.trod_int Tryz.underlying3 f0
 obtain ⟨n1, e1, _, w1⟩ := DataW.trod_int Tryz.underlying3 f1
 match cs, hlen with
 | [a, b, c], _ =>
  simp only [List.drop_zero, List.take_succ_cons, List.take_zero, List.drop_succ_cons, List.cons.injEq, and_true] at e0 e1 f2
  obtain ⟨m, bs, hrd⟩ := bytes_of_trod f2
  have hm : bs.length = m := by obtain ⟨_, _, _, hl, _⟩ := hrd; simpa [bV] using hl
  exact ⟨⟨n0, n1, c, bs⟩, by rw [e0, e1], by rw [hm]; exact hrd⟩
set_option maxRecDepth 100000 in
theorem open_steps {b0 : Nat} {v : Value} {d : DataW H} {p : List MemPlace}
  (hv : Value.okWide Tryz.prog w .any b0 22 v) (h : DataW.Trod enc Tryz.prog w base (fun _ => true) held 22 v d p) : ∃ ao n cap l, v = .slice ao n cap ∧ Steps w ao n cap l := by
 obtain ⟨a0, len, cap, rfl⟩ := okWide_slice Tryz.underlying22 hv
 obtain ⟨fuel, hf⟩ := h
 rcases open_slice Tryz.underlying22 hf with ⟨hcs, _⟩ | ⟨a, l, c, m, n, D, Pl, hcs, _, hl, hm, hmm, _, hi⟩
 ·simp [Value.cells] at hcs
  obtain ⟨rfl, rfl, rfl⟩ := hcs
  exact ⟨none, 0, 0, [], rfl, rfl, Nat.le_refl _, by unfold maxLen; omega, fun _ => rfl, fun j x hj => by simp at hj⟩
 ·simp [Value.cells] at hcs
  obtain ⟨rfl, rfl, rfl⟩ := hcs
  replace hmm : m = cap := by simpa using hmm
  subst hmm
  obtain ⟨b, off, spot⟩ := a
  have each : ∀ i, ∃ s : St, i < len → spot = none ∧ b < w.heap.size ∧ w.cell? ⟨b, off + i * 3, none⟩ = some (.int .i64 s.k) ∧ w.cell? ⟨b, off + i * 3 + 1, none⟩ = some (.int .i64 s.n) ∧ w.cell? ⟨b, off + i * 3 + 2, none⟩ = some s.v ∧ Rd w 1 s.v s.b.length (bV s.b) := by
   intro i
   by_cases hil : i < len
   ·obtain ⟨cs', hc, ht⟩ := hi i (by omega)
    obtain ⟨s, rfl, hrd⟩ := st_of_trod ht
    obtain ⟨_, hlen, hcell⟩ := World.cells?_some hc
    rw [cellsSt] at hlen hcell
    have hspot : spot = none := by
     obtain ⟨cs0, hc0, _⟩ := hi 0 (by omega)
     obtain ⟨_, hlen0, hcell0⟩ := World.cells?_some hc0
     rw [cellsSt] at hlen0 hcell0
     have h0 := hcell0 0 (by omega)
     have := World.cell?_spot (h0.trans (List.getElem?_eq_getElem (by omega)))
     simpa [Addr.add] using this
    subst hspot
    have g : ∀ j u, j < 3 → [Value.int .i64 s.k, .int .i64 s.n, s.v][j]? = some u → w.cell? ⟨b, off + i * 3 + j, none⟩ = some u := fun j u hj hu => by
     have h0 := hcell j hj
     rw [Addr.add_lit, Addr.add_lit] at h0
     rw [h0]; exact hu
    have g0 := g 0 _ (by omega) rfl
    exact ⟨s, fun _ => ⟨rfl, World.block_lt_of_cell? w _ g0, by simpa using g0, g 1 _ (by omega) rfl, g 2 _ (by omega) rfl, hrd⟩⟩
   ·exact ⟨⟨0, 0, .nilIface, []⟩, fun h => absurd h hil⟩
  obtain ⟨F, hF⟩ := Classical.axiomOfChoice each
  refine ⟨_, len, m, (List.range len).map F, rfl, by simp, hl, hm, (fun h => by cases h), fun j x hj => ?_⟩
  have hjl : j < len := by
   have := (List.getElem?_eq_some_iff.1 hj).1
   simpa using this
  have hx : F j = x := by simpa [hjl] using hj
  obtain ⟨hspot, hbl, h0, h1, h2, hrd⟩ := hF j hjl
  subst hspot
  rw [hx] at h0 h1 h2 hrd
  exact ⟨b, off, rfl, hbl, h0, h1, h2, hrd⟩
end
end Go.Proofs.YtgkelbdgdhkeoaaGreat
