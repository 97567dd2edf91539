/- An item's values, walked. -/
import Derived.Test.YtgkelbdgdhkeoaaGreatPMsg3
import Derived.Test.YtgkelbdgdhkeoaaGreatPMsg7
namespace Go.Proofs.YtgkelbdgdhkeoaaGreat
open Go.RowKit
set_option linter.unusedVariables false
set_option linter.unusedSimpArgs false
open Wire Cmd
/-- Values in a row that is new. -/
def RowV (B : Nat) (W : World) (v : Value) (l : List V) : Prop := ∃ xs, W.ownsRow B 20 1 v l.length xs ∧ ∀ (j : Nat) (x : V), l[j]? = some x → ∃ u, xs[j]? = some u ∧ AnyO 0 W u x
theorem RowV.below {B : Nat} {W W' : World} {v : Value} {l : List V} (h : RowV B W v l) (hb : Below W.heap.size W W') : RowV B W' v l := by
 obtain ⟨xs, ho, hx⟩ := h
 refine ⟨xs, ownsRow_below ho hb, fun j x hj => ?_⟩
 obtain ⟨u, h1, h2⟩ := hx j x hj
 exact ⟨u, h1, h2.below hb⟩
inductive AnyL (w : World) : List Value → List V → Prop
 | nil : AnyL w [] []
 | cons {u : Value} {us : List Value} {x : V} {xs : List V} : AnyO 0 w u x → AnyL w us xs → AnyL w (u :: us) (x :: xs)
end Go.Proofs.YtgkelbdgdhkeoaaGreat
