/- Arrays of bytes by value: == and !=; loads out of, and stores into, the midst of a block. -/
import Derived.ChangeKeysEq
import Derived.Deep.MidRow
import Derived.Deep.WholeRow
import Derived.Test.YtgkelbdgdhkeoaaBytes
namespace Go.Proofs.Ytgkelbdgdhkeoaa
open Go.RowKit
set_option linter.unusedVariables false

theorem cellOf' {w : World} {b : Nat} {cs : Array Value} {t : TypeId} {fr : Nat × Nat} (h : w.heap[b]? = some (.cells cs t fr)) (i : Nat) {v : Value} (hv : cs[i]? = some v) : w.cell? ⟨b, i, none⟩ = some v := by
  rw [cell_of_row w b i cs t fr h]; exact hv
/-- An array of bytes, by value. -/
def bA (l : List UInt8) : Value := .agg (bV l).toArray

section
variable {P : Program} (w : World)
theorem bV_get? (l : List UInt8) (i : Nat) : (bV l)[i]? = l[i]?.map fun b => .int .u8 (b.toNat : Int) := by simp [bV]

theorem run_eqItems_bytes {e : TypeId} (he : P.underlying e = some (.int .u8)) (d : Nat) (xs ys : List UInt8) (m : Nat) (hx : m ≤ xs.length) (hy : m ≤ ys.length) : ∀ (k i : Nat), i + k = m →
    (Op.eqItems (d + 1) e 1 (bV xs).toArray (bV ys).toArray (List.range' i k)).run P w = .ok ((xs.drop i).take k == (ys.drop i).take k) w := by
  intro k
  induction k with
  | zero => intro i _; simp [Op.eqItems]
  | succ k ih =>
    intro i hik
    have h1 : xs[i]? = some (xs[i]'(by omega)) := List.getElem?_eq_getElem (by omega)
    have h2 : ys[i]? = some (ys[i]'(by omega)) := List.getElem?_eq_getElem (by omega)
    have hp : P.plainKey e = true := by simp [Program.plainKey, he]
    have p1 := run_part_plain (P := P) w hp (xs := (bV xs).toArray) (off := i * 1) (v := .int .u8 ((xs[i]'(by omega)).toNat : Int)) (by simp [bV_get?, h1])
    have p2 := run_part_plain (P := P) w hp (xs := (bV ys).toArray) (off := i * 1) (v := .int .u8 ((ys[i]'(by omega)).toNat : Int)) (by simp [bV_get?, h2])
    have p3 := run_equalIn_int (P := P) w d e .u8 .u8 ((xs[i]'(by omega)).toNat : Int) ((ys[i]'(by omega)).toNat : Int) he
    rw [List.range'_succ]
    simp only [Op.eqItems, Sem.run_bind, p1, p2, p3, Result.andThen_ok]
    have hd1 : xs.drop i = (xs[i]'(by omega)) :: xs.drop (i + 1) := List.drop_eq_getElem_cons (by omega)
    have hd2 : ys.drop i = (ys[i]'(by omega)) :: ys.drop (i + 1) := List.drop_eq_getElem_cons (by omega)
    rw [hd1, hd2, List.take_succ_cons, List.take_succ_cons]
    by_cases hb : xs[i]'(by omega) = ys[i]'(by omega)
    · rw [hb]
      simp only [beq_self_eq_true, Bool.not_true, Bool.false_eq_true, if_false]
      rw [ih (i + 1) (by omega)]
      simp
    · have hn : (((xs[i]'(by omega)).toNat : Int) == ((ys[i]'(by omega)).toNat : Int)) = false := by
        rw [beq_eq_false_iff_ne]
        intro h
        exact hb (UInt8.toNat_inj.1 (by omega))
      rw [hn]
      simp [hb]

theorem run_equalIn_bytes {t e : TypeId} {n : Nat} {i : TypeInfo} (hu : P.underlying t = some (.array n e)) (he : P.underlying e = some (.int .u8)) (hi : P.info? e = some i) (hs : P.cellsOf e = 1) (d : Nat) (xs ys : List UInt8) (hx : xs.length = n) (hy : ys.length = n) :
    (Op.equalIn (d + 2) t (bA xs) (bA ys)).run P w = .ok (xs == ys) w := by
  unfold bA
  rw [run_equalIn_array w (d + 1) _ _ hu hi, hs, List.range_eq_range', run_eqItems_bytes w he d xs ys n (by omega) (by omega) n 0 (by omega)]
  rw [List.drop_zero, List.drop_zero, List.take_of_length_le (by omega), List.take_of_length_le (by omega)]

theorem run_eql_bytes {t e : TypeId} {n : Nat} {i : TypeInfo} (hu : P.underlying t = some (.array n e)) (he : P.underlying e = some (.int .u8)) (hi : P.info? e = some i) (hs : P.cellsOf e = 1) (xs ys : List UInt8) (hx : xs.length = n) (hy : ys.length = n) :
    (binOp .eql t (bA xs) (bA ys)).run P w = .ok (.bool (xs == ys)) w := by
  have hq := run_equalIn_bytes w hu he hi hs 9998 xs ys hx hy
  unfold bA at hq ⊢
  rw [run_eql_struct, hq]
  rfl
theorem run_neq_bytes {t e : TypeId} {n : Nat} {i : TypeInfo} (hu : P.underlying t = some (.array n e)) (he : P.underlying e = some (.int .u8)) (hi : P.info? e = some i) (hs : P.cellsOf e = 1) (xs ys : List UInt8) (hx : xs.length = n) (hy : ys.length = n) :
    (binOp .neq t (bA xs) (bA ys)).run P w = .ok (.bool (!(xs == ys))) w := by
  have hq := run_equalIn_bytes w hu he hi hs 9998 xs ys hx hy
  unfold bA at hq ⊢
  rw [run_neq_struct, hq]
  rfl
end

/-- A whole array stored into a block just made for it. -/
theorem run_storeNew {P : Program} (w : World) (t : TypeId) (old cs : Array Value) (hs : old.size = cs.size) (h1 : ∀ u ∈ cs.toList, u.oneCell' = true) :
    (storeCells ⟨w.heap.size, 0, none⟩ cs.toList).run P (w.alloc (.cells old t)) = .ok () (w.alloc (.cells cs t)) := by
  have h := run_storeCells_from (P := P) w.heap.size t cs.toList 0 old (w.alloc (.cells old t)) (heap_alloc_new w _) (by simp; omega) h1
  rw [h]
  simp only [List.take_zero, List.nil_append, Array.toArray_toList]
  rw [World.setRow_alloc_new]
/-- Bytes in a block of their own, read as a slice. -/
theorem Rd.new (w : World) (t : TypeId) (l : List UInt8) (n : Nat) (hl : l.length = n) (hn : n ≤ 1000000) : Rd (w.alloc (.cells (bV l).toArray t)) 1 (.slice (some ⟨w.heap.size, 0, none⟩) n n) n (bV l) := by
  refine ⟨_, _, rfl, by simp [bV_len, hl], by unfold maxLen; omega, ⟨(fun h => by cases h), Nat.le_refl _, by unfold maxLen; omega⟩, fun j u hj => ⟨w.heap.size, 0, rfl, by simp, ?_⟩⟩
  rw [Nat.zero_add]
  refine cellOf' (heap_alloc_new w _) j ?_
  simpa using hj
end Go.Proofs.Ytgkelbdgdhkeoaa
