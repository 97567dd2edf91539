/- kept, walked. -/
import Derived.Test.YtgkelbdgdhkeoaaGreatPMsg10
namespace Go.Proofs.YtgkelbdgdhkeoaaGreat
open Go.RowKit
set_option linter.unusedVariables false
set_option linter.unusedSimpArgs false
open Wire Cmd
/-- Cells laid into the midst of a block that is known whole. -/
theorem setCells_heap {b : Nat} {t : TypeId} : ∀ (Y : List Value) (w : World) (A X B : List Value), X.length = Y.length → w.heap[b]? = some (.cells (A ++ (X ++ B)).toArray t (0, 0)) →
  (w.setCells b A.length Y).heap[b]? = some (.cells (A ++ (Y ++ B)).toArray t (0, 0))
 | [], w, A, X, B, hl, h => by
  have : X = [] := List.length_eq_zero_iff.1 hl
  subst this
  exact h
 | y :: Y, w, A, X, B, hl, h => by
  cases X with
  | nil => simp at hl
  | cons x X =>
   rw [World.setCells]
   have h1 := setC_heap (i := A.length) (v := y) h
   have e : (A ++ ((x :: X) ++ B)).toArray.setIfInBounds A.length y = ((A ++ [y]) ++ (X ++ B)).toArray := by
    apply Array.toList_inj.1
    rw [Array.toList_setIfInBounds]
    simp
   rw [e] at h1
   have h2 := setCells_heap Y _ (A ++ [y]) X B (by simpa using hl) h1
   rw [List.length_append, List.length_singleton] at h2
   rw [h2]
   simp
theorem setCell_heap {b : Nat} {t : TypeId} {w : World} {A B : List Value} {x y : Value} (h : w.heap[b]? = some (.cells (A ++ (x :: B)).toArray t (0, 0))) : (w.setCell ⟨b, A.length, none⟩ y).heap[b]? = some (.cells (A ++ (y :: B)).toArray t (0, 0)) :=
 setCells_heap [y] w A [x] B rfl h
/-- The message's box behind a letter's store. -/
def BoxM (w0 : World) (P : Nat) (b : Ms0) (X : World) : Prop := ∃ t1 t2, X.heap[P]? = some (.cells (msL b t1 t2).toArray 80 (0, 0)) ∧ Rd w0 1 t1 b.op.data.length (bV b.op.data) ∧ Rd w0 1 t2 b.item.op.data.length (bV b.item.op.data)
theorem BoxM.mono {w0 : World} {P : Nat} {b : Ms0} {X Y : World} (h : BoxM w0 P b X) (hb : Below X.heap.size X Y) : BoxM w0 P b Y := by
 obtain ⟨t1, t2, h1, h2⟩ := h
 exact ⟨t1, t2, (hb.block _ (Array.getElem?_eq_some_iff.1 h1).1).trans h1, h2⟩
theorem BoxM.set {w0 : World} {P o : Nat} {b b' : Ms0} {X : World} {t1 t2 t1' t2' : Value} {A B xs Y : List Value} (h : X.heap[P]? = some (.cells (msL b t1 t2).toArray 80 (0, 0))) (e1 : msL b t1 t2 = A ++ (xs ++ B)) (ho : A.length = o) (hl : xs.length = Y.length) (e2 : msL b' t1' t2' = A ++ (Y ++ B)) (h1 : Rd w0 1 t1' b'.op.data.length (bV b'.op.data)) (h2 : Rd w0 1 t2' b'.item.op.data.length (bV b'.item.op.data)) :
  BoxM w0 P b' (X.setCells P o Y) := by
 subst ho
 rw [e1] at h
 exact ⟨t1', t2', by rw [e2]; exact setCells_heap Y X A xs B hl h, h1, h2⟩
/-- Where a message's cells part. -/
theorem msL_st (b : Ms0) (t1 t2 : Value) : msL b t1 t2 = [.int .i64 b.k, .int .u64 (b.epoch : Int)] ++ (stL b.st ++ (.bool b.lead :: .int .u64 (b.seq : Int) :: (opL b.op t1 ++ (.int .i64 b.blocks :: .int .u64 (b.num : Int) :: .int .i64 b.fro :: ([.int .u64 (b.ne : Int), .int .u64 (b.ns : Int)] ++ itL b.item t2))))) := rfl
theorem msL_lead (b : Ms0) (t1 t2 : Value) : msL b t1 t2 = ([.int .i64 b.k, .int .u64 (b.epoch : Int)] ++ stL b.st) ++ ([.bool b.lead] ++ (.int .u64 (b.seq : Int) :: (opL b.op t1 ++ (.int .i64 b.blocks :: .int .u64 (b.num : Int) :: .int .i64 b.fro :: ([.int .u64 (b.ne : Int), .int .u64 (b.ns : Int)] ++ itL b.item t2))))) := rfl
theorem msL_seq (b : Ms0) (t1 t2 : Value) : msL b t1 t2 = ([.int .i64 b.k, .int .u64 (b.epoch : Int)] ++ stL b.st ++ [.bool b.lead]) ++ ([.int .u64 (b.seq : Int)] ++ (opL b.op t1 ++ (.int .i64 b.blocks :: .int .u64 (b.num : Int) :: .int .i64 b.fro :: ([.int .u64 (b.ne : Int), .int .u64 (b.ns : Int)] ++ itL b.item t2)))) := rfl
theorem msL_op (b : Ms0) (t1 t2 : Value) : msL b t1 t2 = ([.int .i64 b.k, .int .u64 (b.epoch : Int)] ++ stL b.st ++ [.bool b.lead, .int .u64 (b.seq : Int)]) ++ (opL b.op t1 ++ (.int .i64 b.blocks :: .int .u64 (b.num : Int) :: .int .i64 b.fro :: ([.int .u64 (b.ne : Int), .int .u64 (b.ns : Int)] ++ itL b.item t2))) := rfl
theorem msL_blocks (b : Ms0) (t1 t2 : Value) : msL b t1 t2 = ([.int .i64 b.k, .int .u64 (b.epoch : Int)] ++ stL b.st ++ [.bool b.lead, .int .u64 (b.seq : Int)] ++ opL b.op t1) ++ ([.int .i64 b.blocks] ++ (.int .u64 (b.num : Int) :: .int .i64 b.fro :: ([.int .u64 (b.ne : Int), .int .u64 (b.ns : Int)] ++ itL b.item t2))) := rfl
theorem msL_num (b : Ms0) (t1 t2 : Value) : msL b t1 t2 = ([.int .i64 b.k, .int .u64 (b.epoch : Int)] ++ stL b.st ++ [.bool b.lead, .int .u64 (b.seq : Int)] ++ opL b.op t1 ++ [.int .i64 b.blocks]) ++ ([.int .u64 (b.num : Int)] ++ (.int .i64 b.fro :: ([.int .u64 (b.ne : Int), .int .u64 (b.ns : Int)] ++ itL b.item t2))) := rfl
theorem msL_fro (b : Ms0) (t1 t2 : Value) : msL b t1 t2 = ([.int .i64 b.k, .int .u64 (b.epoch : Int)] ++ stL b.st ++ [.bool b.lead, .int .u64 (b.seq : Int)] ++ opL b.op t1 ++ [.int .i64 b.blocks, .int .u64 (b.num : Int)]) ++ ([.int .i64 b.fro] ++ ([.int .u64 (b.ne : Int), .int .u64 (b.ns : Int)] ++ itL b.item t2)) := rfl
theorem msL_name (b : Ms0) (t1 t2 : Value) : msL b t1 t2 = ([.int .i64 b.k, .int .u64 (b.epoch : Int)] ++ stL b.st ++ [.bool b.lead, .int .u64 (b.seq : Int)] ++ opL b.op t1 ++ [.int .i64 b.blocks, .int .u64 (b.num : Int), .int .i64 b.fro]) ++ ([.int .u64 (b.ne : Int), .int .u64 (b.ns : Int)] ++ itL b.item t2) := rfl
theorem msL_item (b : Ms0) (t1 t2 : Value) : msL b t1 t2 = ([.int .i64 b.k, .int .u64 (b.epoch : Int)] ++ stL b.st ++ [.bool b.lead, .int .u64 (b.seq : Int)] ++ opL b.op t1 ++ [.int .i64 b.blocks, .int .u64 (b.num : Int), .int .i64 b.fro, .int .u64 (b.ne : Int), .int .u64 (b.ns : Int)]) ++ (itL b.item t2 ++ []) := by
 rw [List.append_nil]; rfl
end Go.Proofs.YtgkelbdgdhkeoaaGreat
