/- The zero value of a struct, built. -/
import Derived.Test.YtcdobdjemlaaaaaGreatPg1
namespace Go.Proofs.YtcdobdjemlaaaaaGreat
open Go.RowKit Wire
set_option linter.unusedVariables false
set_option linter.unusedSimpArgs false

section
variable {P : Program} {ops : Array Oper} {Q : Exit → Act → World → Prop} {a : Act} {w : World} {rest : List Oper} {o : Oper}
theorem wpL_build0 (hw : Region.wanted o (yielded ops a.tmps) = true) (ty : TypeId) (ho : o.op = .build ty #[]) (cells : Array Value) (hb : P.built ty [] = some cells)
    (h : wpList P ops Q rest (a.put o.dst (.agg cells)) w) : wpList P ops Q (o :: rest) a w := by
  refine wpL_met hw fun K hK => ?_
  have hr := run_build (P := P) w ty #[] cells hb
  unfold Oper.wp execOp
  simp only [ho, List.map_toArray, List.map_nil, Sem.run_bind, hr, Result.andThen_ok, Sem.run_pure]
  exact hK _ _ h
end
/-- The blocks of a row bear its type. -/
theorem own_tagS {W : World} {B n size : Nat} {e : TypeId} {v : Value} {xs : List Value} (h : W.ownsRow B e size v n xs) : ∀ k ∈ ob v, ∃ cs f, W.heap[k]? = some (.cells cs e f) := by
  intro k hk
  rcases h.2 with ⟨rfl, _⟩ | ⟨g, cap, cur, rfl, hg, hh, _⟩
  · simp [ob_nil] at hk
  · rw [ob_some] at hk
    obtain rfl : k = g := by simpa using hk
    exact ⟨_, _, hh⟩
theorem store_at {P : Program} (W : World) (g : Nat) (T : TypeId) (old cs : Array Value) (h : W.heap[g]? = some (.cells old T (0, 0))) (hs : old.size = cs.size) (h1 : ∀ u ∈ cs.toList, u.oneCell' = true) :
    ∃ W', (storeCells ⟨g, 0, none⟩ cs.toList).run P W = .ok () W' ∧ W'.heap[g]? = some (.cells cs T (0, 0)) ∧ Mods [g] W W' := by
  have h2 := run_storeCells_from (P := P) g T cs.toList 0 old W h (by simp; omega) h1
  simp only [List.take_zero, List.nil_append, Array.toArray_toList] at h2
  exact ⟨_, h2, setRow_heap W g _ _ T _ h, rfl, rfl, rfl, by simp [World.setRow], fun k hk hn => setRow_other W g k _ (by simpa using hn)⟩
end Go.Proofs.YtcdobdjemlaaaaaGreat
