/- Devices: the program's in memory. -/
import Derived.Test.YthkmihedkddnmaaDev4
import Derived.Test.YthkmihedkddnmaaWA
namespace Go.Proofs.Ythkmihedkddnmaa
open Go.RowKit Go.Maps
set_option linter.unusedVariables false
set_option linter.unusedSimpArgs false

section
variable {α β : Type}
def mapA (g : α → β) (l : List (Nat × α)) : List (Nat × β) := l.map fun p => (p.1, g p.2)
theorem getA_map (g : α → β) (k : Nat) : ∀ l : List (Nat × α), getA k (mapA g l) = (getA k l).map g
  | [] => rfl
  | y :: r => by
    have ih := getA_map g k r
    unfold mapA getA at ih ⊢
    rw [List.map_cons, List.find?_cons, List.find?_cons]
    dsimp only
    cases (y.1 == k)
    · exact ih
    · rfl
theorem delA_map (g : α → β) (k : Nat) (l : List (Nat × α)) : delA k (mapA g l) = mapA g (delA k l) := by
  unfold delA mapA
  rw [List.filter_map]
  rfl
theorem insA_map (g : α → β) (k : Nat) (a : α) : ∀ l : List (Nat × α), insA (k, g a) (mapA g l) = mapA g (insA (k, a) l)
  | [] => rfl
  | y :: r => by
    have ih := insA_map g k a r
    unfold mapA at ih ⊢
    by_cases h : k < y.1
    · simp [insA, h]
    · simp only [List.map_cons, insA, h, if_false]
      rw [ih]
theorem putA_map (g : α → β) (k : Nat) (a : α) (l : List (Nat × α)) : putA k (g a) (mapA g l) = mapA g (putA k a l) := by
  unfold putA
  rw [delA_map, insA_map]
theorem mapA_len (g : α → β) (l : List (Nat × α)) : (mapA g l).length = l.length := by simp [mapA]
end

/-- Volumes with the blocks of their maps: without these. -/
def strip (l : List (Nat × (Vl × Nat))) : List (Nat × Vl) := mapA (·.1) l
def volF (x : Vl × Nat) : DataW Unit := volD ((x.1.size : Int), some x.2)
/-- The program's device: its box at B, with the map at Ba of the volumes l, all in memory of n0 on. -/
structure DevAt (n0 : Nat) (w : World) (B Ba : Nat) (l : List (Nat × (Vl × Nat))) : Prop where
  box : w.heap[B]? = some (.cells #[.map (some Ba)] 49 (0, 0))
  all : MapL w Try.prog 24 RVol .u64 volF Ba l
  vol : ∀ p ∈ l, MapL w Try.prog 3 RBlk .i64 blkD p.2.2 p.2.1.m
  ok : DevOk (strip l)
  ge : n0 ≤ B ∧ n0 ≤ Ba ∧ ∀ p ∈ l, n0 ≤ p.2.2
  ne : ∀ p ∈ l, p.2.2 ≠ Ba
  apart : ∀ p ∈ l, ∀ q ∈ l, p.2.2 = q.2.2 → p.1 = q.1
theorem DevAt.lt {n0 : Nat} {w : World} {B Ba : Nat} {l : List (Nat × (Vl × Nat))} (h : DevAt n0 w B Ba l) : B < w.heap.size := (Array.getElem?_eq_some_iff.1 h.box).1
theorem DevAt.cell {n0 : Nat} {w : World} {B Ba : Nat} {l : List (Nat × (Vl × Nat))} (h : DevAt n0 w B Ba l) : w.cell? ⟨B, 0, none⟩ = some (.map (some Ba)) := cellOf h.box 0 rfl
theorem DevAt.below {n0 : Nat} {w w' : World} {B Ba : Nat} {l : List (Nat × (Vl × Nat))} (h : DevAt n0 w B Ba l) (hb : Below w.heap.size w w') : DevAt n0 w' B Ba l :=
  ⟨(hb.block _ h.lt).trans h.box, h.all.below hb, fun p hp => (h.vol p hp).below hb, h.ok, h.ge, h.ne, h.apart⟩
/-- The blocks that a device's methods may change. -/
def dF (Ba : Nat) (l : List (Nat × (Vl × Nat))) : List Nat := Ba :: l.map (·.2.2)
theorem DevAt.kept {n0 : Nat} {w w' : World} {B Ba : Nat} {l : List (Nat × (Vl × Nat))} {F : List Nat} (h : DevAt n0 w B Ba l) (hm : Mods F w w') (h1 : B ∉ F) (h2 : ∀ k ∈ dF Ba l, k ∉ F) : DevAt n0 w' B Ba l :=
  ⟨(hm.block _ h.lt h1).trans h.box, h.all.mods hm (h2 _ (List.mem_cons_self ..)), fun p hp => (h.vol p hp).mods hm (h2 _ (List.mem_cons_of_mem _ (List.mem_map.2 ⟨p, hp, rfl⟩))), h.ok, h.ge, h.ne, h.apart⟩
/-- A device's value: is it there? -/
def DevV (w : World) (v : Value) (y : Bool) : Prop :=
  (v = .pointer none ∧ y = false) ∨ (∃ B, v = .pointer (some ⟨B, 0, none⟩) ∧ w.heap[B]? = some (.cells #[.map none] 49 (0, 0)) ∧ y = false) ∨
  ∃ B Ba, v = .pointer (some ⟨B, 0, none⟩) ∧ w.heap[B]? = some (.cells #[.map (some Ba)] 49 (0, 0)) ∧ y = true
theorem DevAt.dv {n0 : Nat} {w : World} {B Ba : Nat} {l : List (Nat × (Vl × Nat))} (h : DevAt n0 w B Ba l) : DevV w (.pointer (some ⟨B, 0, none⟩)) true := .inr (.inr ⟨B, Ba, rfl, h.box, rfl⟩)

theorem DevV.below {w w' : World} {v : Value} {y : Bool} (h : DevV w v y) (hb : Below w.heap.size w w') : DevV w' v y := by
  rcases h with ⟨rfl, rfl⟩ | ⟨B, rfl, h, rfl⟩ | ⟨B, Ba, rfl, h, rfl⟩
  · exact .inl ⟨rfl, rfl⟩
  · exact .inr (.inl ⟨B, rfl, (hb.block _ (Array.getElem?_eq_some_iff.1 h).1).trans h, rfl⟩)
  · exact .inr (.inr ⟨B, Ba, rfl, (hb.block _ (Array.getElem?_eq_some_iff.1 h).1).trans h, rfl⟩)
set_option maxRecDepth 100000 in
set_option maxHeartbeats 800000 in
theorem dnew_any (n0 : Nat) (w : World) (hn : n0 ≤ w.heap.size) : Calls Try.prog 7 #[] w fun e w' => ∃ B Ba, e = .returned (.pointer (some ⟨B, 0, none⟩)) ∧ DevAt n0 w' B Ba [] ∧ Below w.heap.size w w' ∧ w.heap.size ≤ B ∧ w.heap.size ≤ Ba := by
  have hmm := @run_makeMap Try.prog
  go_enter Try.func7, Try.ntmps7
  go_wp2_with fail
  go_ret
  refine ⟨_, _, rfl, ⟨by have := heap_alloc_new (w.alloc (.map #[] 0)) (.cells #[.map (some w.heap.size)] 49); simpa using this, ?_, fun p hp => (by cases hp), ⟨List.Pairwise.nil, fun p hp => (by cases hp), fun p hp => (by cases hp)⟩, ⟨Nat.le_trans hn (Nat.le_succ _), hn, fun p hp => (by cases hp)⟩, fun p hp => (by cases hp), fun p hp => (by cases hp)⟩, ?_, Nat.le_succ _, Nat.le_refl _⟩
  · exact (mapL_new w _ _ _ _ _).below (balloc (Below.refl _ _) _)
  · exact balloc (balloc (Below.refl _ _) _) _
theorem neqMapNil (w : World) (p : Option Nat) : (binOp .neq 47 (.map p) (.map none)).run Try.prog w = .ok (.bool p.isSome) w := by
  cases p <;> kernel_rfl
set_option maxRecDepth 100000 in
set_option maxHeartbeats 800000 in
theorem dthere_any (w : World) (v : Value) (y : Bool) (h : DevV w v y) : Calls Try.prog 16 #[v] w fun e w' => e = .returned (.bool y) ∧ w = w' := by
  have hnm := neqMapNil
  rcases h with ⟨rfl, rfl⟩ | ⟨B, rfl, h, rfl⟩ | ⟨B, Ba, rfl, h, rfl⟩
  · go_enter Try.func16, Try.ntmps16
    go_wp2_with fail
    go_ret
    exact ⟨rfl, rfl⟩
  · have c0 : w.cell? ⟨B, 0, none⟩ = some (.map none) := cellOf h 0 rfl
    clear h
    go_enter Try.func16, Try.ntmps16
    go_wp2_with fail
    go_ret
    exact ⟨rfl, rfl⟩
  · have c0 : w.cell? ⟨B, 0, none⟩ = some (.map (some Ba)) := cellOf h 0 rfl
    clear h
    go_enter Try.func16, Try.ntmps16
    go_wp2_with fail
    go_ret
    exact ⟨rfl, rfl⟩
end Go.Proofs.Ythkmihedkddnmaa
