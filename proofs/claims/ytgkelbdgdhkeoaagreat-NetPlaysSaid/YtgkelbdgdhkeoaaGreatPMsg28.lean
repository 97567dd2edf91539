/- message.Bytes, walked. -/
import Derived.Deep.LoopGhost
import Derived.Lib.OthersKept
import Derived.Deep.RegionHeld3
import Derived.Test.YtgkelbdgdhkeoaaGreatPMsg9
import Derived.Test.YtgkelbdgdhkeoaaGreatPMsg24
import Derived.Test.YtgkelbdgdhkeoaaGreatPMsg26
import Derived.Test.YtgkelbdgdhkeoaaGreatPWA
namespace Go.Proofs.YtgkelbdgdhkeoaaGreat
open Go.RowKit
set_option linter.unusedVariables false
set_option linter.unusedSimpArgs false
open Wire Cmd
theorem own_tag {W : World} {B n : Nat} {e : TypeId} {v : Value} {xs : List Value} (h : W.ownsRow B e 1 v n xs) : ∀ k ∈ ob v, ∃ cs f, W.heap[k]? = some (.cells cs e f) := by
 intro k hk
 rcases h.2 with ⟨rfl, _⟩ | ⟨g, cap, cur, rfl, hg, hh, _⟩
 ·simp [ob_nil] at hk
 ·rw [ob_some] at hk
  obtain rfl : k = g := by simpa using hk
  exact ⟨_, _, hh⟩
theorem tag_ne {W : World} {B n : Nat} {u v : Value} {x : V} {xs : List Value} (hu : AnyO 0 W u x) (h : W.ownsRow B 20 1 v n xs) : ∀ k ∈ ib u, some k ≠ v.ownBlock := by
 intro k hk he
 have hkv : k ∈ ob v := by unfold ob; rw [Option.mem_toList]; exact he.symm
 obtain ⟨cs, f, h1⟩ := own_tag h k hkv
 rcases hu with ⟨_, rfl, _⟩ | ⟨_, rfl⟩ | ⟨_, sl, rfl, h5⟩ | ⟨_, rfl, _⟩
 ·simp [ib, ob, Value.ownBlock] at hk
 ·simp [ib, ob, Value.ownBlock] at hk
 ·obtain ⟨cs2, f2, h2⟩ := own_tag h5 k hk
  rw [h1] at h2
  injection h2 with h2
  injection h2 with _ h3
  exact absurd h3 (by decide)
 ·simp [ib, ob, bA, Value.ownBlock] at hk
theorem rowV_app {B : Nat} {W W' : World} {v v5 : Value} {l l2 : List V} {xs xs2 : List Value} (ho : W.ownsRow B 20 1 v l.length xs) (hx : ∀ (j : Nat) (x : V), l[j]? = some x → ∃ u, xs[j]? = some u ∧ AnyO 0 W u x) (hn2 : xs2.length = l2.length) (hx2 : ∀ (j : Nat) (x : V), l2[j]? = some x → ∃ u, xs2[j]? = some u ∧ AnyO 0 W u x)
  (ho5 : W'.ownsRow B 20 1 v5 (l.length + l2.length) (xs ++ xs2)) (hg : W.grownBy W' v.ownBlock) : RowV B W' v5 (l ++ l2) := by
 have hn : xs.length = l.length := by have := ho.1; omega
 have key : ∀ {u x}, AnyO 0 W u x → AnyO 0 W' u x := fun {u x} hu => hu.at fun k hk => hg.block k (hu.lt k hk).2 (tag_ne hu ho k hk)
 refine ⟨xs ++ xs2, by rw [List.length_append]; exact ho5, fun j x hj => ?_⟩
 by_cases hjl : j < l.length
 ·rw [List.getElem?_append_left hjl] at hj
  obtain ⟨u, h1, h2⟩ := hx j x hj
  exact ⟨u, by rw [List.getElem?_append_left (by omega)]; exact h1, key h2⟩
 ·rw [List.getElem?_append_right (by omega)] at hj
  obtain ⟨u, h1, h2⟩ := hx2 _ x hj
  exact ⟨u, by rw [List.getElem?_append_right (by omega), hn]; exact h1, key h2⟩
/-- What changes blocks of other kinds alone. -/
theorem RowV.at {B : Nat} {w w' : World} {v : Value} {l : List V} (h : RowV B w v l) (hs : ∀ k, k < w.heap.size → (∃ t c f, w.heap[k]? = some (.cells c t f)) → w'.heap[k]? = w.heap[k]?) : RowV B w' v l := by
 have key : ∀ {b : Nat} {e : TypeId} {n : Nat} {u : Value} {xs : List Value}, w.ownsRow b e 1 u n xs → w'.ownsRow b e 1 u n xs := by
  intro b e n u xs ho
  refine ownsRow_at ho (fun k hk => ?_)
  obtain ⟨cs, f, hh⟩ := own_tag ho k hk
  exact hs k (Array.getElem?_eq_some_iff.1 hh).1 ⟨_, _, _, hh⟩
 obtain ⟨xs, ho, hx⟩ := h
 refine ⟨xs, key ho, fun j x hj => ?_⟩
 obtain ⟨u, h1, h2⟩ := hx j x hj
 refine ⟨u, h1, ?_⟩
 rcases h2 with h2 | h2 | ⟨h2, sl, h4, h5⟩ | h2
 ·exact .inl h2
 ·exact .inr (.inl h2)
 ·exact .inr (.inr (.inl ⟨h2, sl, h4, key h5⟩))
 ·exact .inr (.inr (.inr h2))
theorem RowV.anys {B : Nat} {W : World} {v : Value} {l : List V} (h : RowV B W v l) : ∃ ao cap, v = .slice ao l.length cap ∧ (ao = none → cap = 0) ∧ Anys W ao l.length cap l := by
 obtain ⟨xs, ho, hx⟩ := h
 exact anysA ho (fun j x hj => by obtain ⟨u, h1, h2⟩ := hx j x hj; exact ⟨u, h1, h2.any⟩) (Below.refl _ _)
theorem valM_snoc (m : Ms0) (l : List UInt8) (c : UInt8) : valM m (l ++ [c]) = valM m l ++ valC (c.toNat : Int) m := by simp [valM]
/-- What a round of Bytes knows of memory. -/
structure BytesM (K : Nat) (w : World) (m : Ms0) (AL : List Value) (pos : Nat) (vs : Value) (q : Nat) (W : World) : Prop where
 it : W.heap[K]? = some (.stringIter (strB (nmM m.k)) pos)
 bx : W.heap[w.heap.size]? = some (.cells AL.toArray 80 (0, 0))
 row : RowV (w.heap.size + 1) W vs (valM m ((nmM m.k).take q))
 below : Below w.heap.size w W
 kb : w.heap.size < K
theorem BytesM.next {K : Nat} {w : World} {m : Ms0} {AL : List Value} {pos p' q : Nat} {vs : Value} {W : World} (h : BytesM K w m AL pos vs q W) : BytesM K w m AL p' vs q (W.iterAt K (strB (nmM m.k)) p') := by
 obtain ⟨h1, h2, h3, h5, h6⟩ := h
 refine ⟨Lib.iterAt_heap W K _ pos p' h1, (Lib.iterAt_other _ _ _ _ _ (by omega)).trans h2, h3.at (fun k hk ⟨t, c, f, hc⟩ => Lib.iterAt_other _ _ _ _ _ (fun e => ?_)), Lib.below_iterAt h5 (by omega) _ _, h6⟩
 subst e
 rw [h1] at hc
 cases hc
theorem BytesM.mono {K : Nat} {w : World} {m : Ms0} {AL : List Value} {pos q : Nat} {vs : Value} {W W' : World} (h : BytesM K w m AL pos vs q W) (hb : Below W.heap.size W W') : BytesM K w m AL pos vs q W' := by
 obtain ⟨h1, h2, h3, h5, h6⟩ := h
 have hk := (Array.getElem?_eq_some_iff.1 h1).1
 exact ⟨(hb.block _ hk).trans h1, (hb.block _ (by omega)).trans h2, h3.below hb, h5.trans (hb.mono h5.size), h6⟩
end Go.Proofs.YtgkelbdgdhkeoaaGreat
