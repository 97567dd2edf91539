/- What a call may have changed: the blocks of a list, and new ones. -/
import Derived.Test.YtgkelbdgdhkeoaaBase
namespace Go.Proofs.Ytgkelbdgdhkeoaa
open Go.RowKit
set_option linter.unusedVariables false

/-- Of the blocks that there were only those of F may have changed. -/
structure Mods (F : List Nat) (w w' : World) : Prop where
  os : w'.os = w.os
  tape : w'.tape = w.tape
  output : w'.output = w.output
  size : w.heap.size ≤ w'.heap.size
  block : ∀ k, k < w.heap.size → k ∉ F → w'.heap[k]? = w.heap[k]?

theorem Mods.refl (F : List Nat) (w : World) : Mods F w w := ⟨rfl, rfl, rfl, Nat.le_refl _, fun _ _ _ => rfl⟩
theorem Mods.trans {F G : List Nat} {a b c : World} (h : Mods F a b) (k : Mods G b c) (hG : ∀ i ∈ G, i ∈ F ∨ a.heap.size ≤ i) : Mods F a c :=
  ⟨k.os.trans h.os, k.tape.trans h.tape, k.output.trans h.output, Nat.le_trans h.size k.size, fun i hi hF =>
    (k.block i (Nat.lt_of_lt_of_le hi h.size) (fun hg => by rcases hG i hg with h1 | h1; exact hF h1; omega)).trans (h.block i hi hF)⟩
theorem Mods.of_below {F : List Nat} {w w' : World} (h : Below w.heap.size w w') : Mods F w w' := ⟨h.os, h.tape, h.output, h.size, fun k hk _ => h.block k hk⟩
theorem Mods.thenBelow {F : List Nat} {a b c : World} (h : Mods F a b) (k : Below b.heap.size b c) : Mods F a c :=
  ⟨k.os.trans h.os, k.tape.trans h.tape, k.output.trans h.output, Nat.le_trans h.size k.size, fun i hi hF => (k.block i (Nat.lt_of_lt_of_le hi h.size)).trans (h.block i hi hF)⟩
theorem Mods.alloc {F : List Nat} {a b : World} (h : Mods F a b) (o : Obj) : Mods F a (b.alloc o) := h.thenBelow (balloc (Below.refl _ b) o)
theorem Mods.drew {F : List Nat} {a b : World} (h : Mods F a b) : Mods F a b.drew := h.thenBelow (Below.refl _ b).drew
theorem Mods.drewN {F : List Nat} {a b : World} (h : Mods F a b) (n : Nat) : Mods F a (b.drewN n) := h.thenBelow (below_drewN (Below.refl _ b) n)
theorem Mods.setCell {F : List Nat} {a b : World} (h : Mods F a b) {p : Addr} (hp : p.block ∈ F) (u : Value) : Mods F a (b.setCell p u) :=
  ⟨h.os, h.tape, h.output, by simpa [World.setCell] using h.size, fun k hk hF => (Below.heap_setCell b p u k (fun e => hF (e ▸ hp))).trans (h.block k hk hF)⟩
theorem Mods.below {F : List Nat} {w w' : World} {B : Nat} (h : Mods F w w') (hF : ∀ k ∈ F, B ≤ k) (hB : B ≤ w.heap.size) : Below B w w' :=
  ⟨h.os, h.tape, h.output, h.size, fun k hk => h.block k (Nat.lt_of_lt_of_le hk hB) (fun hk2 => by have := hF k hk2; omega)⟩
theorem Mods.mono {F G : List Nat} {w w' : World} (h : Mods F w w') (hFG : ∀ k ∈ F, k ∈ G) : Mods G w w' := ⟨h.os, h.tape, h.output, h.size, fun k hk hn => h.block k hk (fun e => hn (hFG k e))⟩

/-- The blocks of F lie as they lay. -/
def SameAt (F : List Nat) (w w' : World) : Prop := ∀ k ∈ F, w'.heap[k]? = w.heap[k]?
theorem Mods.same {F G : List Nat} {w w' : World} (h : Mods F w w') (hG : ∀ k ∈ G, k < w.heap.size ∧ k ∉ F) : SameAt G w w' := fun k hk => h.block k (hG k hk).1 (hG k hk).2

theorem ownsRow_same {w w' : World} {base : Nat} {e : TypeId} {size n cap g : Nat} {xs : List Value} (h : w.ownsRow base e size (.slice (some ⟨g, 0, none⟩) n cap) n xs) (hs : w'.heap[g]? = w.heap[g]?) : w'.ownsRow base e size (.slice (some ⟨g, 0, none⟩) n cap) n xs := by
  refine ⟨h.1, ?_⟩
  rcases h.2 with h | ⟨g', cap', cur, hv, hg, hh, r⟩
  · exact .inl h
  · have : g = g' := by simpa using (Value.slice.inj hv).1
    subst this
    exact .inr ⟨g, cap', cur, hv, hg, hs.trans hh, r⟩

theorem cellOf {w : World} {b : Nat} {cs : Array Value} {t : TypeId} {fr : Nat × Nat} (h : w.heap[b]? = some (.cells cs t fr)) (i : Nat) {v : Value} (hv : cs[i]? = some v) : w.cell? ⟨b, i, none⟩ = some v := by
  rw [cell_of_row w b i cs t fr h]; exact hv
theorem frozenOf {w : World} {b : Nat} {cs : Array Value} {t : TypeId} (h : w.heap[b]? = some (.cells cs t (0, 0))) (i : Nat) : w.frozen? ⟨b, i, none⟩ = false := frozen_of_row w b i cs t h
theorem setOf {w : World} {b : Nat} {cs : Array Value} {t : TypeId} {fr : Nat × Nat} (h : w.heap[b]? = some (.cells cs t fr)) (i : Nat) (u : Value) : (w.setCell ⟨b, i, none⟩ u).heap[b]? = some (.cells (cs.setIfInBounds i u) t fr) := by
  simp [World.setCell, Array.getElem?_modify, h]
theorem setOther {w : World} {b : Nat} (p : Addr) (u : Value) (hne : b ≠ p.block) : (w.setCell p u).heap[b]? = w.heap[b]? := Below.heap_setCell w p u b hne
end Go.Proofs.Ytgkelbdgdhkeoaa
