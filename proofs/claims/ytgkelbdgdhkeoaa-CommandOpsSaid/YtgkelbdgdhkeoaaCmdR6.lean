/- The reference's Pack, walked. -/
import Derived.Test.YtgkelbdgdhkeoaaCmdR5
import Derived.Test.YtgkelbdgdhkeoaaBuild1
import Derived.Test.YtgkelbdgdhkeoaaRUnpack
namespace Go.Proofs.Ytgkelbdgdhkeoaa
open Go.RowKit
set_option linter.unusedVariables false
set_option linter.unusedSimpArgs false
open Wire Cmd

theorem wp_build1 {P : Program} {o : Oper} {a : Act} {K : Act → World → Prop} {Q : Exit → Act → World → Prop} {w : World} (x : Operand) (t e : TypeId) (n : Nat) (z : Value) (L : List Value)
    (ho : o.op = .buildSlice t 1 #[(0, x)]) (hx : a.eval x = .agg L.toArray) (ht : P.underlying t = some (.slice e)) (hi : (P.info? e).map (fun i => (i.zero, i.size)) = some (some z, n)) (hz : z.cells.size = n) (hL : L.length = n) (hn : 0 < n) (hn2 : n ≤ 1000)
    (h : ∀ W, W = w.alloc (.cells L.toArray e) → K (a.put o.dst (.slice (some ⟨w.heap.size, 0, none⟩) 1 1)) W) : o.wp P a w K Q := by
  have hrun := run_buildSlice_one (P := P) w t e n z L ht hi hz hL hn hn2
  unfold Oper.wp execOp
  simp only [ho, List.map_toArray, List.map_cons, List.map_nil, hx, Sem.run_bind, hrun, Result.andThen_ok, Sem.run_pure]
  exact h _ rfl

theorem wp_app1 {P : Program} {o : Oper} {a : Act} {K : Act → World → Prop} {Q : Exit → Act → World → Prop} (s x : Operand) (t : TypeId)
    (ho : o.op = .call { callee := .builtin .append, args := #[s, x], argTypes := #[t, t] })
    (base : Nat) (e : TypeId) (z : Value) (size bytes : Nat) (ht : P.underlying t = some (.slice e)) (hinfo : (P.info? e).map (fun i => (i.zero, i.size, i.bytes)) = some (some z, size, bytes))
    (hzs : z.cells.size = size) (hsz : 0 < size) (hby : 0 < bytes)
    {W W2 : World} (v : Value) (n : Nat) (xs : List Value) (hs : a.eval s = v) (hown : W.ownsRow base e size v n xs)
    {cs : Array Value} {fr : TypeId} (hW : W2 = W.alloc (.cells cs fr)) (hx : a.eval x = .slice (some ⟨W.heap.size, 0, none⟩) 1 1) (hcs : cs.size = size) (h1 : ∀ u ∈ cs.toList, u.oneCell' = true)
    (hbytes : (n + 1) * bytes ≤ 140737488355328) (hbase : base ≤ W.heap.size)
    (h : ∀ v' w', w'.ownsRow base e size v' (n + 1) (xs ++ cs.toList) → Below base W w' → K (a.put o.dst v') w') : o.wp P a W2 K Q := by
  subst hW
  obtain ⟨i0, hi, hz0, hz1, hz2⟩ := info_parts hinfo
  have hn1 : n + 1 ≤ maxLen := by
    have : n + 1 ≤ (n + 1) * bytes := Nat.le_mul_of_pos_right _ hby
    unfold maxLen; omega
  refine wp_app _ s x t ho base e i0 z size bytes ht hi hz0 hz1 hz2 hzs hsz v n xs hs (hown.alloc _) ⟨W.heap.size, 0, none⟩ 1 1 cs.toList hx (by simp [hcs]) ?_ h1 hn1 hbytes (by simp; omega) ?_
  · intro j u hj
    have hadd : (⟨W.heap.size, 0, none⟩ : Addr).add j = ⟨W.heap.size, j, none⟩ := by unfold Addr.add; split <;> simp_all
    rw [hadd, cell_of_row (W.alloc (.cells cs fr)) W.heap.size j cs fr (0, 0) (heap_alloc_new W _)]
    simpa using hj
  · intro v' w' ho' hg hsn hne
    have hg2 : W.grownBy w' v.ownBlock := by
      have ha := World.grownBy_alloc W (.cells cs fr) v.ownBlock
      refine ⟨hg.os.trans ha.os, hg.tape.trans ha.tape, hg.output.trans ha.output, Nat.le_trans ha.size hg.size, fun k hk hkr => ?_⟩
      rw [hg.block k (by simp; omega) hkr, ha.block k hk hkr]
    exact h v' w' ho' ((Below.refl base W).grown hg2 hbase (fun k hk => (hown.lt k hk).1))

/-- A row of one, new. -/
theorem own_new (W : World) (B : Nat) (hB : B ≤ W.heap.size) (e : TypeId) (L : List Value) (n : Nat) (hL : L.length = n) : (W.alloc (.cells L.toArray e)).ownsRow B e n (.slice (some ⟨W.heap.size, 0, none⟩) 1 1) 1 L :=
  ⟨by omega, .inr ⟨W.heap.size, 1, L.toArray, rfl, hB, heap_alloc_new W _, Nat.le_refl _, by unfold maxLen; omega, by simp [hL], by simp [← hL]⟩⟩
theorem nm_six (k : Int) : ∀ c ∈ nm k, c = 118 ∨ c = 116 ∨ c = 115 ∨ c = 97 ∨ c = 99 ∨ c = 100 := by unfold nm; (repeat' split) <;> decide
theorem vaL_ok (o : Op0) (ok : o.Ok) (c : Int) : (vaL c o).Ok := by
  unfold vaL
  (repeat' split) <;> refine ⟨?_, rep256⟩
  · exact ok.vol
  · exact ok.to
  · exact u64_lt _
  · exact u64_lt _
  · exact u64_lt _
  · exact Nat.two_pow_pos 64
theorem rangeLow {w w' : World} {B b o : Nat} {cs : List Value} (h : w.rangeAt b o cs) (hl : b < B) (hb : Below B w w') : w'.rangeAt b o cs :=
  fun j u hj => (hb.cell (p := ⟨b, o + j, none⟩) hl).trans (h j u hj)
end Go.Proofs.Ytgkelbdgdhkeoaa
