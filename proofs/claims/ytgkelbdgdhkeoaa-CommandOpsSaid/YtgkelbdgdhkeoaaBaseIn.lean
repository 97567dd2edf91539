/- The same small laws inside a fence (range over a function): an append; what a loop's body owes where it collects into a boxed slice; what a round keeps. -/
import Derived.RangeFuncNested
import Derived.RangeFuncBound
import Derived.RangeFuncCalls
import Derived.RangeFuncLeaves
import Derived.RangeFuncBox
import Derived.Shelf.Abstract
import Derived.Shelf.RegionOpen
import Derived.OwnWalkIn
import Derived.TacticsInMore
import Derived.LoopNIn
import Derived.LoopIn
import Derived.Test.YtgkelbdgdhkeoaaBase
namespace Go.Proofs.Ytgkelbdgdhkeoaa
open Go.RowKit
set_option linter.unusedVariables false

/-- What a round keeps: the rows of cells, but for those that Fp names (the body's own). -/
structure KpF (Fp : World → Nat → Prop) (W W' : World) : Prop where
  size : W.heap.size ≤ W'.heap.size
  good : (∀ k, Fp W k → k < W.heap.size) → ∀ k, Fp W' k → k < W'.heap.size
  keeps : ∀ k, k < W.heap.size → ¬ Fp W k → ∀ o, W.heap[k]? = some o → o.isCells = true → W'.heap[k]? = some o
  old : ∀ k, k < W.heap.size → Fp W' k → Fp W k

theorem KpF.trans {Fp : World → Nat → Prop} {A B C : World} (h : KpF Fp A B) (k : KpF Fp B C) : KpF Fp A C :=
  ⟨Nat.le_trans h.size k.size, fun g => k.good (h.good g),
    fun i h2 h3 o ho hc => k.keeps i (Nat.lt_of_lt_of_le h2 h.size) (fun hf => h3 (h.old i h2 hf)) o (h.keeps i h2 h3 o ho hc) hc,
    fun i hi hf => h.old i hi (k.old i (Nat.lt_of_lt_of_le hi h.size) hf)⟩

theorem KpF.put {Fp : World → Nat → Prop} {w : World} (hF : ∀ (W : World) (l : Nat) (o o' : Obj) (k : Nat), w.heap.size ≤ l → W.heap[l]? = some o → o.isCells = false → Fp (W.putObj l o') k → Fp W k)
    (W : World) (l : Nat) (o o' : Obj) (hl : w.heap.size ≤ l) (h : W.heap[l]? = some o) (hc : o.isCells = false) (_ : o.isWalk = false) : KpF Fp W (W.putObj l o') := by
  have hs : W.heap.size ≤ (W.putObj l o').heap.size := (grownBy_putObj' W l o').size
  refine ⟨hs, fun g k hk => Nat.lt_of_lt_of_le (g k (hF W l o o' k hl h hc hk)) hs, fun k hk _ o2 ho hcc => ?_, fun k _ hk => hF W l o o' k hl h hc hk⟩
  have hne : k ≠ l := by
    rintro rfl
    rw [h] at ho
    obtain rfl := Option.some.inj ho
    rw [hc] at hcc
    cases hcc
  exact (World.putObj_heap_other hne).trans ho

theorem KpF.refl (Fp : World → Nat → Prop) (W : World) : KpF Fp W W := ⟨Nat.le_refl _, fun g => g, fun _ _ _ _ ho _ => ho, fun _ _ h => h⟩

theorem KpF.alloc {Fp : World → Nat → Prop} {A W : World} (h : KpF Fp A W) (o : Obj) (hF : ∀ k, Fp (W.alloc o) k → Fp W k) : KpF Fp A (W.alloc o) :=
  h.trans ⟨by simp, fun g k hk => Nat.lt_of_lt_of_le (g k (hF k hk)) (by simp), fun k hk _ o2 ho _ => (Below.heap_alloc W o k hk).trans ho, fun k _ hk => hF k hk⟩

theorem KpF.setCell {Fp : World → Nat → Prop} {W : World} (p : Addr) (u : Value) (hp : Fp W p.block) (hF : ∀ k, Fp (W.setCell p u) k → Fp W k) : KpF Fp W (W.setCell p u) :=
  ⟨by simp [World.setCell], fun g k hk => by have := g k (hF k hk); simpa [World.setCell] using this,
    fun k _ hk o ho _ => (Below.heap_setCell W p u k (fun e => hk (e ▸ hp))).trans ho, fun k _ hk => hF k hk⟩

theorem cells_of_cell {w : World} {a : Addr} {v : Value} (h : w.cell? a = some v) : ∃ c e fr, w.heap[a.block]? = some (.cells c e fr) := by
  unfold World.cell? at h
  split at h
  · exact ⟨_, _, _, by assumption⟩
  · cases h

theorem KpF.cell {Fp : World → Nat → Prop} {W W' : World} (h : KpF Fp W W') {a : Addr} {v : Value} (hc : W.cell? a = some v) (hn : ¬ Fp W a.block) : W'.cell? a = some v := by
  obtain ⟨c, e, fr, hb⟩ := cells_of_cell hc
  have := h.keeps a.block (Array.getElem?_eq_some_iff.1 hb).1 hn _ hb rfl
  rw [World.cell?_of_block (w := W) (this.trans hb.symm)]
  exact hc

theorem newCell (W : World) (v : Value) (t : TypeId) : (W.alloc (.cells #[v] t)).cell? ⟨W.heap.size, 0, none⟩ = some v ∧ (W.alloc (.cells #[v] t)).frozen? ⟨W.heap.size, 0, none⟩ = false :=
  ⟨by rw [cell_of_row _ W.heap.size 0 #[v] t (0, 0) (heap_alloc_new W _)]; rfl, frozen_of_row _ W.heap.size 0 #[v] t (heap_alloc_new W _)⟩
theorem cellAlloc {W : World} {a : Addr} {v : Value} (o : Obj) (h : W.cell? a = some v) : (W.alloc o).cell? a = some v := cell_kept h (World.grownBy_alloc W o none) (fun r e => by cases e)
theorem frozenAlloc {W : World} {a : Addr} {v : Value} (o : Obj) (h : W.cell? a = some v) (hf : W.frozen? a = false) : (W.alloc o).frozen? a = false := (frozen_kept h (World.grownBy_alloc W o none) (fun r e => by cases e)).trans hf

/-- A row of cells lies as it lay behind the turn of a block that is no cells. -/
theorem rowKept {W W' : World} {row : Option Nat} {b : Nat} {c : Array Value} {e : TypeId} {fr : Nat × Nat} (h : W.heap[b]? = some (.cells c e fr)) (hg : W.grownBy W' row) (hr : ∀ r, row = some r → ∃ o : Obj, W.heap[r]? = some o ∧ o.isCells = false) : W'.heap[b]? = some (.cells c e fr) := by
  refine (hg.block b (Array.getElem?_eq_some_iff.1 h).1 (fun e' => ?_)).trans h
  obtain ⟨o, ho, hc⟩ := hr b e'.symm
  rw [h] at ho; cases ho; cases hc

theorem wpListIn_app {F : Fence} {fn : Nat} {P : Program} {ops : Array Oper} {rest : List Oper} {o : Oper} {a : Act} {Q : Exit → Act → World → Prop} (hgd : o.guard = none) (s x : Operand) (t : TypeId)
    (ho : o.op = .call { callee := .builtin .append, args := #[s, x], argTypes := #[t, t] })
    (base : Nat) (e : TypeId) (z : Value) (size bytes : Nat) (ht : P.underlying t = some (.slice e)) (hinfo : (P.info? e).map (fun i => (i.zero, i.size, i.bytes)) = some (some z, size, bytes))
    (hzs : z.cells.size = size) (hsz : 0 < size) (hby : 0 < bytes)
    {W : World} (v : Value) (n : Nat) (xs : List Value) (hs : a.eval s = v) (hown : W.ownsRow base e size v n xs)
    {cs : Array Value} {fr : TypeId} (hx : a.eval x = .slice (some ⟨W.heap.size, 0, none⟩) 1 1) (hcs : cs.size = size) (h1 : ∀ u ∈ cs.toList, u.oneCell' = true)
    (hbytes : (n + 1) * bytes ≤ 140737488355328) (hbase : base ≤ W.heap.size)
    (h : ∀ v' w', w'.ownsRow base e size v' (n + 1) (xs ++ cs.toList) → (W.alloc (.cells cs fr)).grownBy w' v.ownBlock → SameOrNew W v v' → v' ≠ .slice none 0 0 → wpListIn F fn P ops Q rest (a.put o.dst v') w') :
    wpListIn F fn P ops Q (o :: rest) a (W.alloc (.cells cs fr)) := by
  obtain ⟨i0, hi, hz0, hz1, hz2⟩ := info_parts hinfo
  have hn1 : n + 1 ≤ maxLen := by
    have : n + 1 ≤ (n + 1) * bytes := Nat.le_mul_of_pos_right _ hby
    unfold maxLen; omega
  refine wpListIn_plain hgd fun K hK' => ?_
  obtain ⟨v', w', hrun, r1, r2, r3, r4⟩ := run_app (P := P) (W.alloc (.cells cs fr)) base t o.type e i0 z size bytes ht hi hz0 hz1 hz2 hzs hsz v n xs (hown.alloc _) ⟨W.heap.size, 0, none⟩ 1 1 cs.toList (by simp [hcs]) (by
    intro j u hj
    have hadd : (⟨W.heap.size, 0, none⟩ : Addr).add j = ⟨W.heap.size, j, none⟩ := by unfold Addr.add; split <;> simp_all
    rw [hadd, cell_of_row (W.alloc (.cells cs fr)) W.heap.size j cs fr (0, 0) (heap_alloc_new W _)]
    simpa using hj) h1 hn1 hbytes (by simp; omega)
  unfold Oper.wpIn
  refine ⟨?_, ?_⟩
  · simp [Oper.about, ho, resolve, Target.leads, Sem.run_pure]
  · rw [Oper.semAt_plain F _ _ (by rw [ho]; intro c hc'; cases hc')]
    simp [execOp, ho, resolve, invoke, builtin, hs, hx, hrun, Result.andThen]
    refine hK' _ _ (h v' w' r1 r2 ?_ (fun hv => by simp [r4] at hv))
    rcases r3 with h | ⟨g, h1, h2⟩
    · exact .inl h
    · exact .inr ⟨g, h1, by simp at h2; omega⟩

/-- The blocks of a body that collects into the slice variable whose box is B: the box; the slice's row. -/
def FpOut (B : Nat) (W : World) (k : Nat) : Prop := k = B ∨ ∃ n cap, W.cell? ⟨B, 0, none⟩ = some (.slice (some ⟨k, 0, none⟩) n cap)

theorem FpOut.alloc {B : Nat} {W : World} (hB : B < W.heap.size) (o : Obj) {k : Nat} (h : FpOut B (W.alloc o) k) : FpOut B W k := by
  rcases h with h | ⟨n, cap, h⟩
  · exact .inl h
  · exact .inr ⟨n, cap, by rw [← h]; exact (World.cell?_of_block (w := W) (Below.heap_alloc W o B hB)).symm⟩
theorem FpOut.put {B : Nat} {w : World} (hB : B < w.heap.size) (W : World) (l : Nat) (o o' : Obj) (k : Nat) (hl : w.heap.size ≤ l) (_ : W.heap[l]? = some o) (_ : o.isCells = false) (h : FpOut B (W.putObj l o') k) : FpOut B W k := by
  rcases h with h | ⟨n, cap, h⟩
  · exact .inl h
  · exact .inr ⟨n, cap, by rw [← h]; exact (World.cell?_of_block (w := W) (World.putObj_heap_other (show B ≠ l by omega))).symm⟩
/-- At the loop's start the variable is nil. -/
theorem FpOut.start {B : Nat} {w : World} (hB : B < w.heap.size) (hnil : w.cell? ⟨B, 0, none⟩ = some (.slice none 0 0)) (W : World) (hW : Below w.heap.size w W) {k : Nat} (h : FpOut B W k) : k = B := by
  rcases h with h | ⟨n, cap, h⟩
  · exact h
  · rw [hW.cell (p := ⟨B, 0, none⟩) hB, hnil] at h
    simp at h

/-- A round that appends to that variable keeps what it must. -/
theorem KpF.appended {W w1 : World} {n₀ B : Nat} {t e : TypeId} {size : Nat} {v v' : Value} {k : Nat} {xs : List Value} {tmp : Obj}
    (hv : Boxed W B t v) (hte : t ≠ e) (hrow : W.ownsRow n₀ e size v k xs) (hgrow : (W.alloc tmp).grownBy w1 v.ownBlock) (hsn : SameOrNew W v v') {m : Nat} {ys : List Value} (hown' : w1.ownsRow n₀ e size v' m ys) :
    KpF (FpOut B) W (w1.setCell ⟨B, 0, none⟩ v') := by
  have hv1 : Boxed w1 B t v := (hv.alloc tmp).kept hgrow (hv.not_row hte hrow)
  have hs1 : W.heap.size ≤ w1.heap.size := by have := hgrow.size; simp at this; omega
  have hc2 : (w1.setCell ⟨B, 0, none⟩ v').cell? ⟨B, 0, none⟩ = some v' := (hv1.set v').cell
  have hin : ∀ i, FpOut B (w1.setCell ⟨B, 0, none⟩ v') i → i = B ∨ v'.ownBlock = some i := by
    intro i hi
    rcases hi with h | ⟨n, cap, h⟩
    · exact .inl h
    · rw [hc2] at h
      obtain rfl := Option.some.inj h
      exact .inr rfl
  have hof : ∀ i, v.ownBlock = some i → FpOut B W i := by
    intro i hi
    rcases hrow.2 with ⟨rfl, _⟩ | ⟨g, cap, cur, rfl, _⟩
    · simp [Value.ownBlock] at hi
    · simp [Value.ownBlock] at hi
      subst hi
      exact .inr ⟨_, _, hv.cell⟩
  refine ⟨by simpa [World.setCell] using hs1, fun _ i hi => ?_, fun i hi hn o ho hc => ?_, fun i hi hf => ?_⟩
  · have e : (w1.setCell ⟨B, 0, none⟩ v').heap.size = w1.heap.size := by simp [World.setCell]
    rw [e]
    rcases hin i hi with rfl | h
    · exact hv1.lt
    · exact (hown'.lt i h).2
  · rw [Below.heap_setCell _ _ _ _ (fun e => hn (.inl e)), hgrow.block i (by simp; omega) (fun e => hn (hof i e.symm)), Below.heap_alloc _ _ _ hi]
    exact ho
  · rcases hin i hf with rfl | h
    · exact .inl rfl
    · rcases hsn with h2 | ⟨g, h2, h3⟩
      · exact hof i (h2 ▸ h)
      · rw [h2] at h
        cases h
        omega
end Go.Proofs.Ytgkelbdgdhkeoaa
