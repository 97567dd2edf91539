/- What a call that changes what it owns leaves of the world. -/
import Derived.Test.YtgkelbdgdhkeoaaBytes
import Derived.Test.YtgkelbdgdhkeoaaMods
namespace Go.Proofs.Ytgkelbdgdhkeoaa
open Go.RowKit
set_option linter.unusedVariables false

/-- Of the blocks that there were only those of F may have changed; those of F' are of F, or new. -/
def Chg (F : List Nat) (w w' : World) (F' : List Nat) : Prop := Mods F w w' ∧ ∀ k ∈ F', k ∈ F ∨ w.heap.size ≤ k
theorem Chg.refl (F : List Nat) (w : World) : Chg F w w F := ⟨Mods.refl F w, fun k h => .inl h⟩
theorem Chg.trans {F G H : List Nat} {a b c : World} (h : Chg F a b G) (k : Chg G b c H) : Chg F a c H :=
  ⟨h.1.trans k.1 h.2, fun i hi => by
    rcases k.2 i hi with h1 | h1
    · exact h.2 i h1
    · exact .inr (Nat.le_trans h.1.size h1)⟩
theorem Chg.of_below {F : List Nat} {w w' : World} (h : Below w.heap.size w w') : Chg F w w' F := ⟨Mods.of_below h, fun k hk => .inl hk⟩
theorem Chg.below {F F' : List Nat} {w w' : World} {B : Nat} (h : Chg F w w' F') (hF : ∀ k ∈ F, B ≤ k) (hB : B ≤ w.heap.size) : Below B w w' := h.1.below hF hB
theorem Chg.cell {F F' : List Nat} {w w' : World} (h : Chg F w w' F') {p : Addr} (hp : p.block < w.heap.size) (hn : p.block ∉ F) : w'.cell? p = w.cell? p := World.cell?_of_block (h.1.block _ hp hn)
theorem Chg.size {F F' : List Nat} {w w' : World} (h : Chg F w w' F') : w.heap.size ≤ w'.heap.size := h.1.size
/-- A slice value's own block. -/
def ob (v : Value) : List Nat := v.ownBlock.toList
theorem ob_nil : ob (.slice none 0 0) = [] := rfl
theorem ob_some (g n c : Nat) : ob (.slice (some ⟨g, 0, none⟩) n c) = [g] := rfl
theorem Chg.of_grown {w w' : World} {v v' : Value} (hg : w.grownBy w' v.ownBlock) (hs : SameOrNew w v v') : Chg (ob v) w w' (ob v') := by
  refine ⟨⟨hg.os, hg.tape, hg.output, hg.size, fun k hk hn => hg.block k hk (fun e => hn (by simp [ob, ← e]))⟩, fun k hk => ?_⟩
  rcases hs with h | ⟨g, h1, h2⟩
  · exact .inl (by unfold ob at hk ⊢; rwa [h] at hk)
  · right
    unfold ob at hk
    rw [h1] at hk
    simp at hk
    omega
theorem Chg.pre {F F' : List Nat} {w0 w w' : World} (hb : Below w0.heap.size w0 w) (h : Chg F w w' F') : Chg F w0 w' F' := (Chg.of_below hb).trans h
theorem Chg.post {F F' : List Nat} {w w' w1 : World} (h : Chg F w w' F') (hb : Below w'.heap.size w' w1) : Chg F w w1 F' := h.trans (Chg.of_below hb)
theorem ownsRow_ge {w : World} {base : Nat} {e : TypeId} {size n : Nat} {v : Value} {xs : List Value} (h : w.ownsRow base e size v n xs) : ∀ k ∈ ob v, base ≤ k := by
  intro k hk
  unfold ob at hk
  rw [Option.mem_toList] at hk
  exact (h.lt k hk).1
theorem ownsRow_lt {w : World} {base : Nat} {e : TypeId} {size n : Nat} {v : Value} {xs : List Value} (h : w.ownsRow base e size v n xs) : ∀ k ∈ ob v, k < w.heap.size := by
  intro k hk
  unfold ob at hk
  rw [Option.mem_toList] at hk
  exact (h.lt k hk).2
/-- An owned row whose block has not changed. -/
theorem ownsRow_at {w w' : World} {base : Nat} {e : TypeId} {size n : Nat} {v : Value} {xs : List Value} (h : w.ownsRow base e size v n xs) (hs : ∀ k ∈ ob v, w'.heap[k]? = w.heap[k]?) : w'.ownsRow base e size v n xs := by
  refine ⟨h.1, ?_⟩
  rcases h.2 with h | ⟨g, cap, cur, rfl, hg, hh, r⟩
  · exact .inl h
  · exact .inr ⟨g, cap, cur, rfl, hg, (hs g (by simp [ob_some])).trans hh, r⟩
end Go.Proofs.Ytgkelbdgdhkeoaa
