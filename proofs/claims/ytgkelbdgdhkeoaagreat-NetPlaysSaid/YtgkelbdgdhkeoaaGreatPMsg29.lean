/- message.Bytes, walked. -/
import Derived.Test.YtgkelbdgdhkeoaaGreatPMsg28
namespace Go.Proofs.YtgkelbdgdhkeoaaGreat
open Go.RowKit
set_option linter.unusedVariables false
set_option linter.unusedSimpArgs false
open Wire Cmd
theorem shapeC_len (c k : Int) : (shapeC c k).length ≤ 6 := by unfold shapeC shapeI; (repeat' split) <;> decide
/-- The row behind a round's append. -/
theorem BytesM.app {K : Nat} {w : World} {m : Ms0} {AL : List Value} {pos q : Nat} {vs v5 : Value} {W W5 : World} {c : UInt8} {xs xs2 : List Value} (h : BytesM K w m AL pos vs q W) (hc : (nmM m.k).take (q + 1) = (nmM m.k).take q ++ [c]) (ho : W.ownsRow (w.heap.size + 1) 20 1 vs (valM m ((nmM m.k).take q)).length xs) (hx : ∀ (j : Nat) (x : V), (valM m ((nmM m.k).take q))[j]? = some x → ∃ u, xs[j]? = some u ∧ AnyO 0 W u x)
  (hn2 : xs2.length = (valC (c.toNat : Int) m).length) (hx2 : ∀ (j : Nat) (x : V), (valC (c.toNat : Int) m)[j]? = some x → ∃ u, xs2[j]? = some u ∧ AnyO 0 W u x)
  (ho5 : W5.ownsRow (w.heap.size + 1) 20 1 v5 ((valM m ((nmM m.k).take q)).length + (valC (c.toNat : Int) m).length) (xs ++ xs2)) (hb : Below (w.heap.size + 1) W W5) (hg : W.grownBy W5 vs.ownBlock) : BytesM K w m AL pos v5 (q + 1) W5 := by
 obtain ⟨h1, h2, h3, h5, h6⟩ := h
 have hk := (Array.getElem?_eq_some_iff.1 h1).1
 refine ⟨(hg.block K hk (fun e => ?_)).trans h1, (hb.block _ (Nat.lt_succ_self _)).trans h2, ?_, h5.trans (hb.mono (Nat.le_succ _)), h6⟩
 ·obtain ⟨cs, f, h⟩ := own_tag ho K (by unfold ob; rw [Option.mem_toList]; exact e.symm)
  rw [h1] at h
  cases h
 ·rw [hc, valM_snoc]
  exact rowV_app ho hx hn2 hx2 ho5 hg
end Go.Proofs.YtgkelbdgdhkeoaaGreat
