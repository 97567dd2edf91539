/- The reference's values in memory; the law's told, all, much. -/
import Derived.Test.YtgkelbdgdhkeoaaKnown1
namespace Go.Proofs.Ytgkelbdgdhkeoaa
open Go.RowKit
set_option linter.unusedVariables false
set_option linter.unusedSimpArgs false
open Wire

/-- A value's cells as the reference keeps it. -/
def rC (v : V) (sl : Value) : List Value := .int .u8 (v.letter.toNat : Int) :: .int .u64 (v.n : Int) :: .bool v.yes :: sl :: bV v.x
theorem rC_len {v : V} {sl : Value} (hx : v.x.length = 256) : (rC v sl).length = 260 := by simp [rC, bV_len, hx]
/-- A value of the reference's, by value. -/
def rA (v : V) (sl : Value) : Value := .agg (rC v sl).toArray

/-- A value as the program takes it, its bytes in new memory; odd: a number that has no type. -/
def AnyT (base : Nat) (w : World) (u : Value) (v : V) : Prop :=
  AnyO base w u v ∨ (v.letter ≠ 56 ∧ v.letter ≠ 63 ∧ v.letter ≠ 42 ∧ v.letter ≠ 35 ∧ ∃ n, u = .iface 3 (.int .i64 n))
theorem AnyT.any {base : Nat} {w : World} {u : Value} {v : V} (h : AnyT base w u v) : AnyV w u v := by
  rcases h with h | h
  · exact h.any
  · obtain ⟨h1, h2, h3, h4, n, e⟩ := h
    exact .inr (.inr (.inr (.inr ⟨h1, h2, h3, h4, .inl ⟨n, e⟩⟩)))
theorem AnyT.lt {base : Nat} {w : World} {u : Value} {x : V} (h : AnyT base w u x) : ∀ k ∈ ib u, base ≤ k ∧ k < w.heap.size := by
  rcases h with h | ⟨_, _, _, _, n, rfl⟩
  · exact h.lt
  · intro k hk; simp [ib, ob, Value.ownBlock] at hk
theorem AnyT.base {base base' : Nat} {w : World} {u : Value} {x : V} (h : AnyT base w u x) (hb : base' ≤ base) : AnyT base' w u x := by
  rcases h with h | h
  · exact .inl (h.base hb)
  · exact .inr h
theorem AnyT.at {base : Nat} {w w' : World} {u : Value} {x : V} (h : AnyT base w u x) (hs : ∀ k ∈ ib u, w'.heap[k]? = w.heap[k]?) : AnyT base w' u x := by
  rcases h with h | h
  · exact .inl (h.at hs)
  · exact .inr h
theorem AnyT.below {base : Nat} {w w' : World} {u : Value} {x : V} (h : AnyT base w u x) (hb : Below w.heap.size w w') : AnyT base w' u x :=
  h.at fun k hk => hb.block k (h.lt k hk).2
theorem AnyT.iface {base : Nat} {w : World} {u : Value} {v : V} (h : AnyT base w u v) : ∃ t y, u = .iface t y := by
  rcases h with h | ⟨_, _, _, _, n, rfl⟩
  · exact h.iface
  · exact ⟨_, _, rfl⟩

/-- Such values in a row that is new, and whose block holds none of their bytes. -/
def Outs3 (base : Nat) (w : World) (v : Value) (l : List V) : Prop :=
  ∃ xs, w.ownsRow base 20 1 v l.length xs ∧ ∀ (j : Nat) (x : V), l[j]? = some x → ∃ u, xs[j]? = some u ∧ AnyT base w u x ∧ ∀ k ∈ ib u, k ∉ ob v
theorem Outs3.nil (base : Nat) (w : World) : Outs3 base w (.slice none 0 0) [] := ⟨[], World.ownsRow_nil _ _ _ _, fun j x h => by simp at h⟩
theorem Outs3.below {base : Nat} {w w' : World} {v : Value} {l : List V} (h : Outs3 base w v l) (hb : Below w.heap.size w w') : Outs3 base w' v l := by
  obtain ⟨xs, ho, hx⟩ := h
  refine ⟨xs, ownsRow_below ho hb, fun j x hj => ?_⟩
  obtain ⟨u, h1, h2, h3⟩ := hx j x hj
  exact ⟨u, h1, h2.below hb, h3⟩
theorem Outs3.snoc {base : Nat} {w w1 : World} {v v1 u : Value} {l : List V} {x : V} {xs : List Value} (hx : ∀ (j : Nat) (y : V), l[j]? = some y → ∃ z, xs[j]? = some z ∧ AnyT base w z y ∧ ∀ k ∈ ib z, k ∉ ob v)
    (hn : xs.length = l.length) (hu : AnyT base w u x) (hd : ∀ k ∈ ib u, k ∉ ob v) (ho1 : w1.ownsRow base 20 1 v1 (l.length + 1) (xs ++ [u])) (hg : w.grownBy w1 v.ownBlock) (hs : SameOrNew w v v1) : Outs3 base w1 v1 (l ++ [x]) := by
  have key : ∀ {z y}, AnyT base w z y → (∀ k ∈ ib z, k ∉ ob v) → AnyT base w1 z y ∧ ∀ k ∈ ib z, k ∉ ob v1 := by
    intro z y hz hk
    refine ⟨hz.at fun k h => hg.block k (hz.lt k h).2 (fun e => hk k h (by simp [ob, ← e])), fun k h hm => ?_⟩
    rcases (Chg.of_grown hg hs).2 k hm with h1 | h1
    · exact hk k h h1
    · have := (hz.lt k h).2; omega
  refine ⟨xs ++ [u], by simpa using ho1, fun j y hj => ?_⟩
  rcases Nat.lt_trichotomy j l.length with h | h | h
  · rw [List.getElem?_append_left h] at hj
    obtain ⟨z, h1, h2, h3⟩ := hx j y hj
    obtain ⟨k1, k2⟩ := key h2 h3
    exact ⟨z, by rw [List.getElem?_append_left (by omega)]; exact h1, k1, k2⟩
  · subst h
    rw [List.getElem?_append_right (Nat.le_refl _), Nat.sub_self] at hj
    obtain rfl : x = y := by simpa using hj
    obtain ⟨k1, k2⟩ := key hu hd
    exact ⟨u, by rw [List.getElem?_append_right (by omega), hn, Nat.sub_self]; rfl, k1, k2⟩
  · rw [List.getElem?_eq_none (by simp; omega)] at hj
    cases hj
theorem Outs3.anys {base : Nat} {w : World} {v : Value} {l : List V} (h : Outs3 base w v l) : ∃ ao cap, v = .slice ao l.length cap ∧ (ao = none → cap = 0) ∧ Anys w ao l.length cap l := by
  obtain ⟨xs, ho, hx⟩ := h
  obtain ⟨ao, cap, rfl, _, _, ⟨hn, h1, h2⟩, hc⟩ := Rd.of_own ho
  refine ⟨ao, cap, rfl, hn, rfl, h1, h2, fun j x hj => ?_⟩
  obtain ⟨u, hu, ha, _⟩ := hx j x hj
  obtain ⟨b, off, e, hb, hce⟩ := hc j u hu
  exact ⟨b, off, u, e, hb, hce, ha.any⟩

/-- A slice of the reference's values reads as l. -/
def RVs (w : World) (ao : Option Addr) (n cap : Nat) (l : List V) : Prop :=
  l.length = n ∧ n ≤ cap ∧ cap ≤ maxLen ∧ (ao = none → cap = 0) ∧ ∀ j x, l[j]? = some x → x.Ok ∧ ∃ b off sl, ao = some ⟨b, off, none⟩ ∧ b < w.heap.size ∧ w.rangeAt b (off + j * 260) (rC x sl) ∧ Rd w 1 sl x.b.length (bV x.b)
theorem rangeAt_below {w w' : World} {b o : Nat} {cs : List Value} (h : w.rangeAt b o cs) (hl : b < w.heap.size) (hb : Below w.heap.size w w') : w'.rangeAt b o cs :=
  fun j u hj => (hb.cell (p := ⟨b, o + j, none⟩) hl).trans (h j u hj)
theorem RVs.below {w w' : World} {ao : Option Addr} {n cap : Nat} {l : List V} (h : RVs w ao n cap l) (hb : Below w.heap.size w w') : RVs w' ao n cap l := by
  obtain ⟨h1, h2, h3, h4, h5⟩ := h
  refine ⟨h1, h2, h3, h4, fun j x hj => ?_⟩
  obtain ⟨ok, b, off, sl, e, hl, hr, hd⟩ := h5 j x hj
  exact ⟨ok, b, off, sl, e, Nat.lt_of_lt_of_le hl hb.size, rangeAt_below hr hl hb, hd.below hb⟩

/-- The cells of a value in a block of its own. -/
theorem rC_box (w : World) (T : TypeId) (v : V) (sl : Value) : (w.alloc (.cells (rC v sl).toArray T)).rangeAt w.heap.size 0 (rC v sl) := fun j u hj => by
  rw [Nat.zero_add]
  exact cellOf' (heap_alloc_new w _) j (by simpa using hj)
theorem rC_cells {w : World} {b o : Nat} {v : V} {sl : Value} (h : w.rangeAt b o (rC v sl)) : w.cell? ⟨b, o, none⟩ = some (.int .u8 (v.letter.toNat : Int)) ∧ w.cell? ⟨b, o + 1, none⟩ = some (.int .u64 (v.n : Int)) ∧ w.cell? ⟨b, o + 2, none⟩ = some (.bool v.yes) ∧ w.cell? ⟨b, o + 3, none⟩ = some sl ∧ w.rangeAt b (o + 4) (bV v.x) :=
  ⟨h 0 _ rfl, h 1 _ rfl, h 2 _ rfl, h 3 _ rfl, fun j u hj => by
    have := h (j + 4) u (by simpa [rC] using hj)
    rwa [show o + (j + 4) = o + 4 + j by omega] at this⟩

theorem letter_ne {c k : UInt8} (h : c ≠ k) : ((c.toNat : Int) == (k.toNat : Int)) = false := by
  rw [beq_eq_false_iff_ne]; intro e; exact h (byteI.1 e)

end Go.Proofs.Ytgkelbdgdhkeoaa
