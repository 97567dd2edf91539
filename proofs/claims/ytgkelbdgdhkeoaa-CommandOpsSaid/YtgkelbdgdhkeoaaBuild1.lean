/- A slice of one element of many cells, made in place. -/
import Derived.Test.YtgkelbdgdhkeoaaMkV
namespace Go.Proofs.Ytgkelbdgdhkeoaa
open Go.RowKit
set_option linter.unusedVariables false
set_option linter.unusedSimpArgs false

theorem fold_whole (A : Array Value) (L : List Value) (h : L.length = A.size) : Array.foldl (fun (cs : Array Value) (x : Value × Nat) => cs.setIfInBounds (0 + x.snd) x.fst) A L.toArray.zipIdx 0 L.toArray.zipIdx.size = L.toArray := by
  apply Array.toList_inj.1
  have hzi : L.toArray.zipIdx = (L.zipIdx 0).toArray := by apply Array.toList_inj.1; simp
  rw [hzi, List.foldl_toArray' _ _ _ (by simp)]
  have h1 := foldl_sets 0 L 0 A (by omega)
  rw [h1]
  simp
  omega

theorem run_buildSlice_one {P : Program} (w : World) (t e : TypeId) (n : Nat) (z : Value) (L : List Value) (ht : P.underlying t = some (.slice e)) (hi : (P.info? e).map (fun i => (i.zero, i.size)) = some (some z, n)) (hz : z.cells.size = n) (hL : L.length = n) (hn : 0 < n) (hn2 : n ≤ 1000) :
    (Instr.buildSlice t 1 #[(0, .agg L.toArray)]).run P w = .ok (.slice (some ⟨w.heap.size, 0, none⟩) 1 1) (w.alloc (.cells L.toArray e)) := by
  cases hq : P.info? e with
  | none => rw [hq] at hi; cases hi
  | some i =>
    rw [hq] at hi
    simp only [Option.map_some, Option.some.injEq, Prod.mk.injEq] at hi
    obtain ⟨h1, h2⟩ := hi
    have hs : ∀ W, (sizeOf e).run P W = .ok n W := fun W => by simp [sizeOf, typeInfo, hq, h2]
    have hzv : ∀ W, (zeroValue e).run P W = .ok z W := fun W => by simp [zeroValue, typeInfo, hq, h1]
    have hf : ∀ A : Array Value, A.size = n → Instr.fill (fun i => some (i * n, n)) A [(0, Value.agg L.toArray)] = some L.toArray := by
      intro A hA
      unfold Instr.fill
      have e1 : (Value.agg L.toArray).cells = L.toArray := rfl
      simp only [e1, Nat.zero_mul, List.size_toArray, hL, hA]
      rw [if_neg (by simp)]
      unfold Instr.fill
      congr 1
      exact fold_whole A L (by omega)
    unfold Instr.buildSlice
    rw [Sem.run_bind, run_underlying ht w]
    simp only [Result.andThen_ok, Sem.run_bind, hs, Nat.one_mul]
    rw [if_neg (by omega)]
    have hn0 : ¬ n = 0 := by omega
    simp only [hn0, if_false, Sem.run_bind, hzv, Result.andThen_ok, Sem.run_pure]
    rw [hf _ (by simp)]
    rfl

theorem wpList_build1 {P : Program} {ops : Array Oper} {rest : List Oper} {o : Oper} {a : Act} {Q : Exit → Act → World → Prop} {w : World} (hgd : o.guard = none) (x : Operand) (t e : TypeId) (n : Nat) (z : Value) (L : List Value)
    (ho : o.op = .buildSlice t 1 #[(0, x)]) (hx : a.eval x = .agg L.toArray) (ht : P.underlying t = some (.slice e)) (hi : (P.info? e).map (fun i => (i.zero, i.size)) = some (some z, n)) (hz : z.cells.size = n) (hL : L.length = n) (hn : 0 < n) (hn2 : n ≤ 1000)
    (h : wpList P ops Q rest (a.put o.dst (.slice (some ⟨w.heap.size, 0, none⟩) 1 1)) (w.alloc (.cells L.toArray e))) : wpList P ops Q (o :: rest) a w := by
  refine wpList_plain hgd fun K hK => ?_
  have hrun := run_buildSlice_one (P := P) w t e n z L ht hi hz hL hn hn2
  unfold Oper.wp execOp
  simp only [ho, List.map_toArray, List.map_cons, List.map_nil, hx, Sem.run_bind, hrun, Result.andThen_ok, Sem.run_pure]
  exact hK _ _ h
end Go.Proofs.Ytgkelbdgdhkeoaa
