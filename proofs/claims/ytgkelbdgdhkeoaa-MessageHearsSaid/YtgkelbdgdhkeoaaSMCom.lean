/- What the laws on messages share. -/
import Derived.Test.YtgkelbdgdhkeoaaSMsg40
import Derived.Test.YtgkelbdgdhkeoaaSMsg24
import Derived.Test.YtgkelbdgdhkeoaaSMsg15
import Derived.Test.YtgkelbdgdhkeoaaSMsg39
namespace Go.Proofs.Ytgkelbdgdhkeoaa
open Go.RowKit
set_option linter.unusedVariables false
set_option linter.unusedSimpArgs false
open Wire Cmd
/-- A message laid into a new box. -/
theorem msNew (W : World) {D : List Value} (hl : D.length = 290) (h1 : ∀ u ∈ D, u.oneCell' = true) : (storeCells ⟨W.heap.size, 0, none⟩ D).run Try.prog (W.alloc (.cells Try.zeroCells81 81)) = .ok () (W.alloc (.cells D.toArray 81)) :=
 run_storeNew (P := Try.prog) W 81 Try.zeroCells81 D.toArray (by rw [zeroM290, List.size_toArray, hl]) (by simpa using h1)
/-- A box's cells, later. -/
theorem box_later {W X : World} {D : List Value} {T : TypeId} (hb : Below (W.alloc (.cells D.toArray T)).heap.size (W.alloc (.cells D.toArray T)) X) : X.rangeAt W.heap.size 0 D :=
 range_block ((hb.block _ (by simp)).trans (heap_alloc_new W _))
theorem infoM {D : List Value} (hl : D.length = 290) : (Try.prog.info? 81).map (·.size) = some D.length := by rw [hl]; exact infoMs
theorem run_textM (w : World) (v : Value) (n : Nat) (bs : List UInt8) (h : Rd w 1 v n (bV bs)) : ((convert 24 9 v).run Try.prog w).andThen (fun a w' => Result.ok (Next.value a) w') = .ok (.value (.string (strB bs))) w := by
 rw [run_text w v n bs h]; rfl
/-- Bytes, in one form: of a message that may be. -/
theorem PackP.mform {w w' : World} {m : Ms0} {e : Ending} (ok : m.Ok) (h : PackP w (packM m) e w') : ∃ bs v em, e = .returned (.tuple #[v, .int .i64 em]) ∧ ((mayM m = true ∧ bs = bsM m ∧ em = 0) ∨ (mayM m = false ∧ bs = [] ∧ em = 2)) ∧ w'.ownsRow w.heap.size 5 1 v bs.length (bV bs) ∧ Below w.heap.size w w' := by
 obtain ⟨hb, hP⟩ := h
 cases hm : mayM m with
 | true =>
  rw [packM_bs ok hm] at hP
  obtain ⟨v', rfl, ho⟩ := hP
  exact ⟨bsM m, v', 0, rfl, .inl ⟨rfl, rfl, rfl⟩, ho, hb⟩
 | false =>
  have e0 : packM m = none := by unfold packM; rw [hm]; rfl
  rw [e0] at hP
  exact ⟨[], _, 2, hP, .inr ⟨rfl, rfl, rfl⟩, World.ownsRow_nil _ _ _ _, hb⟩
end Go.Proofs.Ytgkelbdgdhkeoaa
