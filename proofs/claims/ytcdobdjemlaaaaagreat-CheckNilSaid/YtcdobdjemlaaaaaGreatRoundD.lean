/- A region that draws its order, in the round of a loop over an iterator (or anywhere inside the fence that asks nothing): by the plain laws of wpAnyH. -/
import Derived.Deep.RegionHeld3
import Derived.Test.YtcdobdjemlaaaaaGreatQuietRound
import Derived.Test.YtcdobdjemlaaaaaGreatWA
namespace Go.Proofs.YtcdobdjemlaaaaaGreat
open Go.RowKit
set_option linter.unusedVariables false

section
variable {P : Program} {ops : Array Oper} {Q : Exit → Act → World → Prop} {md : Region.Mode} {S : World → Prop}
/-- At its end alone. -/
def NormalQ (Q : Exit → Act → World → Prop) : Exit → Act → World → Prop := fun e a w => e = .normal ∧ Q .normal a w
theorem op_round {l n : Nat} {o : Oper} {K : Act → World → Prop} {a : Act} {w : World} (hd : isDefer o.op = false) (h : o.wp P a w K (NormalQ Q)) : o.wpIn (Fence.wide.inRound l) n P a w K Q := by
  unfold Oper.wpIn
  refine ⟨fun _ _ => trivial, ?_⟩
  rw [semAt_plain' hd]
  unfold Oper.wp at h
  generalize (execOp a.eval o).run P w = r at *
  cases r with
  | ok x w' =>
    cases x <;> simp only [Oper.upon] at h <;> simp only [Oper.uponIn]
    case value v => exact h
    case skip => exact h
    case defer d => exact h
    case enter f args =>
      refine ⟨fun h => (by cases h), ?_⟩
      have h2 : CallsIn Fence.wide (n - 1) P f args w' _ := callsIn_wide.2 (h.mono (R' := fun
        | .returned v, w'' => K (a.put o.dst v) w''
        | .panicked chain, w'' => Q (.panic chain) a w''
        | .outgrown, _ => LetsOut Q) fun e w'' he => by
          cases e with
          | returned v => exact he
          | panicked c => cases he.1
          | outgrown => obtain ⟨_, _, he, _⟩ := he; cases he)
      exact h2
    case row row args =>
      refine ⟨fun h => (by cases h), fun c cs _ => ?_⟩
      obtain ⟨v, w'', h1, h2⟩ := h c cs
      exact ⟨v, w'', h1, stepsIn_wide.2 h2⟩
  | halt x w' =>
    cases x <;> simp only [Oper.upon] at h
    case panic v => cases h.1
theorem opAt_round {l n i : Nat} {K K' : Act → World → Prop} {a : Act} {w : World} (hnd : noDefers ops = true) (hK : ∀ a w, K a w → K' a w) (h : wpOp P ops (NormalQ Q) i K a w) : wpOpIn (Fence.wide.inRound l) n P ops Q i K' a w := by
  unfold wpOp at h
  unfold wpOpIn
  split
  · rename_i ho; simp only [ho] at h; exact hK _ _ h
  · rename_i o ho
    simp only [ho] at h
    have hd : isDefer o.op = false := by
      have hm : o ∈ ops.toList := by
        rw [Array.mem_toList_iff]
        exact Array.mem_of_getElem? ho
      have := List.all_eq_true.1 hnd o hm
      simpa using this
    split
    · rename_i hw
      simp only [hw, if_true] at h
      rcases h with h | ⟨_, _, _, he, _⟩
      · exact op_round hd (Oper.wp_mono hK h)
      · cases he
    · rename_i hw
      simp only [hw] at h
      exact ⟨fun _ _ => trivial, hK _ _ h⟩
theorem any_round {l n : Nat} (hnd : noDefers ops = true) : ∀ (fuel : Nat) (listed : Array Bool) (a : Act) (w : World), wpAny P md ops (NormalQ Q) fuel listed a w → wpAnyIn (Fence.wide.inRound l) n P md ops Q fuel listed a w
  | 0, _, _, _, h => ⟨h.1, h.2.2⟩
  | fuel + 1, _, _, _, h => ⟨fun h0 => (h.1 h0).2, fun i hi => opAt_round hnd (fun a' w' h' => any_round hnd fuel _ a' w' h') (h.2 i hi)⟩
/-- The beginning, in a round. -/
theorem region_round {l n id : Nat} {a : Act} {w : World} (hm : P.follows .mixedOrders = true) (hnd : noDefers ops = true) (hS : S w.drew)
    (h : S w.drew → wpAnyH P .any ops (NormalQ Q) S ops.size (Array.replicate ops.size false) a w.drew) : (Code.region id ops true).wpIn (Fence.wide.inRound l) n P Q a w :=
  wpIn_region_any hm (any_round hnd _ _ _ _ (wpAny_of_held _ _ _ _ (h hS)))
theorem region_normal {id : Nat} {a : Act} {w : World} (hm : P.follows .mixedOrders = true) (hS : S w.drew)
    (h : S w.drew → wpAnyH P .any ops (NormalQ Q) S ops.size (Array.replicate ops.size false) a w.drew) : (Code.region id ops true).wp P Q a w :=
  wp_mono (wp_region_held_drew hm hS h) (fun e a w hq => by obtain ⟨rfl, h2⟩ := hq; exact h2)
end
/-- What is new keeps all. -/
theorem KpF.ofBelow {B : Nat} {W Y : World} (hB : B < W.heap.size) (h : Below W.heap.size W Y) : KpF (FpOut B) W Y := by
  have hold : ∀ k, FpOut B Y k → FpOut B W k := by
    rintro k (hk | ⟨n, cap, hk⟩)
    · exact .inl hk
    · exact .inr ⟨n, cap, by rw [← hk]; exact (World.cell?_of_block (h.block B hB)).symm⟩
  exact ⟨h.size, fun g k hk => Nat.lt_of_lt_of_le (g k (hold k hk)) h.size, fun k hk _ o ho _ => (h.block k hk).trans ho, fun k _ hk => hold k hk⟩
/-- An append to the boxed slice, and the store back. -/
theorem KpF.app {W w1 : World} {n₀ B : Nat} {t e : TypeId} {size : Nat} {v v' : Value} {k : Nat} {xs : List Value}
    (hv : Boxed W B t v) (hte : t ≠ e) (hrow : W.ownsRow n₀ e size v k xs) (hgrow : W.grownBy w1 v.ownBlock) (hsn : SameOrNew W v v') {m : Nat} {ys : List Value} (hown' : w1.ownsRow n₀ e size v' m ys) :
    Boxed w1 B t v ∧ KpF (FpOut B) W (w1.setCell ⟨B, 0, none⟩ v') ∧ Boxed (w1.setCell ⟨B, 0, none⟩ v') B t v' := by
  have hv1 : Boxed w1 B t v := hv.kept hgrow (hv.not_row hte hrow)
  have hs1 : W.heap.size ≤ w1.heap.size := hgrow.size
  have hv2 := hv1.set v'
  have hc2 : (w1.setCell ⟨B, 0, none⟩ v').cell? ⟨B, 0, none⟩ = some v' := hv2.cell
  have hin : ∀ i, FpOut B (w1.setCell ⟨B, 0, none⟩ v') i → i = B ∨ v'.ownBlock = some i := by
    intro i hi
    rcases hi with h | ⟨n, cap, h⟩
    · exact .inl h
    · rw [hc2] at h
      obtain rfl := Option.some.inj h
      exact .inr rfl
  have hof : ∀ i, v.ownBlock = some i → FpOut B W i := by
    intro i hi
    rcases hrow.2 with ⟨rfl, _⟩ | ⟨g, cap, cur, rfl, _⟩
    · simp [Value.ownBlock] at hi
    · simp [Value.ownBlock] at hi
      subst hi
      exact .inr ⟨_, _, hv.cell⟩
  refine ⟨hv1, ⟨by simpa [World.setCell] using hs1, fun _ i hi => ?_, fun i hi hn o ho hc => ?_, fun i hi hf => ?_⟩, hv2⟩
  · have e : (w1.setCell ⟨B, 0, none⟩ v').heap.size = w1.heap.size := by simp [World.setCell]
    rw [e]
    rcases hin i hi with rfl | h
    · exact hv1.lt
    · exact (hown'.lt i h).2
  · rw [Below.heap_setCell _ _ _ _ (fun e => hn (.inl e)), hgrow.block i hi (fun e => hn (hof i e.symm))]
    exact ho
  · rcases hin i hf with rfl | h
    · exact .inl rfl
    · rcases hsn with h2 | ⟨g, h2, h3⟩
      · exact hof i (h2 ▸ h)
      · rw [h2] at h
        cases h
        omega
/-- And what is no cells stays. -/
theorem keeps_app {C B n₀ size k : Nat} {t e : TypeId} {W Y w1 : World} {v u : Value} {xs : List Value} (hb : Below W.heap.size W Y) (hv : Boxed Y B t v) (hrow : Y.ownsRow n₀ e size v k xs) (hg : Y.grownBy w1 v.ownBlock) (hv1 : Boxed w1 B t v) :
    KeepsFrom C W (w1.setCell ⟨B, 0, none⟩ u) := by
  have hs : (w1.setCell ⟨B, 0, none⟩ u).heap.size = w1.heap.size := by simp [World.setCell]
  refine ⟨by rw [hs]; exact Nat.le_trans hb.size hg.size, fun i o _ ho hc => ?_⟩
  have hi := (Array.getElem?_eq_some_iff.1 ho).1
  have h1 : Y.heap[i]? = some o := (hb.block i hi).trans ho
  have h2 : w1.heap[i]? = some o := by
    refine (hg.block i (Array.getElem?_eq_some_iff.1 h1).1 (fun e2 => ?_)).trans h1
    rcases hrow.2 with ⟨rfl, _⟩ | ⟨g, cap, cur, rfl, _, hgb, _⟩
    · simp [Value.ownBlock] at e2
    · simp [Value.ownBlock] at e2
      subst e2
      rw [h1] at hgb
      cases hgb
      cases hc
  rw [Below.heap_setCell _ _ _ _ (fun e2 => by
    have e3 : i = B := e2
    subst e3
    have hv2 : w1.heap[i]? = some (.cells #[v] t (0, 0)) := hv1
    rw [h2] at hv2
    cases hv2
    cases hc)]
  exact h2
/-- A block of another type is none of a row's. -/
theorem ob_tag {W : World} {n₀ size k g : Nat} {e t : TypeId} {v : Value} {xs : List Value} {cs : Array Value} {f : Nat × Nat} (hrow : W.ownsRow n₀ e size v k xs) (hg : W.heap[g]? = some (.cells cs t f)) (hne : t ≠ e) : g ∉ ob v := by
  intro h
  rcases hrow.2 with ⟨rfl, _⟩ | ⟨g', cap, cur, rfl, _, hgb, _⟩
  · cases h
  · rw [ob_some] at h
    obtain rfl := List.mem_singleton.1 h
    rw [hg] at hgb
    cases hgb
    exact hne rfl
end Go.Proofs.YtcdobdjemlaaaaaGreat
