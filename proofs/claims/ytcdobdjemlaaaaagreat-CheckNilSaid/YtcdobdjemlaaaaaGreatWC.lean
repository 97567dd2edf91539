/- Several texts in one: RPack MkV Build1 RUnpack. -/
import Derived.Deep.RegionHeld3
import Derived.Test.YtcdobdjemlaaaaaGreatWB
import Derived.Test.YtcdobdjemlaaaaaGreatWA
import Derived.Laws.CopyOwn
namespace Go.Proofs.YtcdobdjemlaaaaaGreat
open Go.RowKit
set_option linter.unusedVariables false
set_option linter.unusedSimpArgs false
open Wire

theorem lay_wid {c : UInt8} {v : V} (h : wid c = 0) : lay c v = none := by
  have hn : isNum c ≠ true := fun e => by have := wid_num e; omega
  have h63 : c ≠ 63 := by rintro rfl; exact absurd h (by decide)
  have h42 : c ≠ 42 := by rintro rfl; exact absurd h (by decide)
  have h35 : c ≠ 35 := by rintro rfl; exact absurd h (by decide)
  unfold lay
  rw [if_neg (fun e : isNum c = true ∧ _ => hn e.1), if_neg h63, if_neg (fun e : c = 42 ∧ _ => h42 e.1), if_neg h35]
  simp
theorem pack_may (s : List UInt8) : ∀ l, may s = false → pack s l = none := by
  induction s with
  | nil => intro l h; cases h
  | cons c s ih =>
    intro l h
    cases l with
    | nil => rfl
    | cons v l =>
      rw [may_cons, Bool.and_eq_false_iff] at h
      rw [pack]
      rcases h with h | h
      · rw [lay_wid (by simpa using h)]; rfl
      · rw [ih l h]
        cases lay c v <;> rfl
theorem pack_length (s : List UInt8) : ∀ l, s.length ≠ l.length → pack s l = none := by
  induction s with
  | nil => intro l h; cases l with
    | nil => exact absurd rfl h
    | cons v l => rfl
  | cons c s ih =>
    intro l h
    cases l with
    | nil => rfl
    | cons v l =>
      rw [pack, ih l (by simpa using h)]
      cases lay c v <;> rfl

theorem rC_one {w : World} {v : V} {sl : Value} {n : Nat} {xs : List Value} (hrd : Rd w 1 sl n xs) : ∀ u ∈ rC v sl, u.oneCell' = true := by
  intro u hu
  simp only [rC, List.mem_cons] at hu
  rcases hu with rfl | rfl | rfl | rfl | hu
  · rfl
  · rfl
  · rfl
  · obtain ⟨_, _, rfl, _⟩ := hrd; rfl
  · exact bV_one _ u hu

/-- What a round knows of memory: the value in its block; what has been packed. -/
structure RP (B : Nat) (w : World) (vb : Nat) (x : V) (sl v' : Value) (acc : List UInt8) (W : World) : Prop where
  below : Below B w W
  rng : W.rangeAt vb 0 (rC x sl)
  lt : vb < W.heap.size
  rd : Rd W 1 sl x.b.length (bV x.b)
  own : W.ownsRow B 5 1 v' acc.length (bV acc)
  base : B ≤ W.heap.size
theorem cell_far {w w' : World} {v : Value} {b o : Nat} (hg : w.grownBy w' v.ownBlock) (hl : b < w.heap.size) (ha : ∀ j ∈ ob v, j ≠ b) : w'.cell? ⟨b, o, none⟩ = w.cell? ⟨b, o, none⟩ :=
  World.cell?_of_block (hg.block b hl (fun e => ha b (by unfold ob; rw [Option.mem_toList]; exact e.symm) rfl))
theorem RP.mono {B : Nat} {w : World} {vb : Nat} {x : V} {sl v' : Value} {acc : List UInt8} {W W' : World} (h : RP B w vb x sl v' acc W) (hb : Below W.heap.size W W') : RP B w vb x sl v' acc W' :=
  ⟨h.below.trans (hb.mono h.base), rangeAt_below h.rng h.lt hb, Nat.lt_of_lt_of_le h.lt hb.size, h.rd.below hb, ownsRow_below h.own hb, Nat.le_trans h.base hb.size⟩

/-- Cells in the midst of a block, read as a slice. -/
theorem rd_range {w : World} {b o n : Nat} {l : List UInt8} (h : w.rangeAt b o (bV l)) (hl : b < w.heap.size) (hn : l.length = n) (h1 : n ≤ 1000000) : Rd w 1 (.slice (some ⟨b, o, none⟩) n n) n (bV l) :=
  ⟨_, _, rfl, by simp [bV_len, hn], by unfold maxLen; omega, ⟨(fun h => by cases h), Nat.le_refl _, by unfold maxLen; omega⟩, fun j u hj => ⟨b, o, rfl, hl, h j u hj⟩⟩

end Go.Proofs.YtcdobdjemlaaaaaGreat
/- The reference's makers of values, walked. -/
namespace Go.Proofs.YtcdobdjemlaaaaaGreat
open Go.RowKit
set_option linter.unusedVariables false
set_option linter.unusedSimpArgs false
open Wire

def V0 : V := ⟨0, 0, false, [], List.replicate 256 0⟩
theorem rC_one' {v : V} {sl : Value} (hs : sl.oneCell' = true) : ∀ u ∈ rC v sl, u.oneCell' = true := by
  intro u hu
  simp only [rC, List.mem_cons] at hu
  rcases hu with rfl | rfl | rfl | rfl | hu
  · rfl
  · rfl
  · rfl
  · exact hs
  · exact bV_one _ u hu
theorem rep256 : (List.replicate 256 (0 : UInt8)).length = 256 := List.length_replicate
theorem foldl_sets (o : Nat) : ∀ (l : List Value) (k : Nat) (A : Array Value), o + k + l.length ≤ A.size → ((l.zipIdx k).foldl (fun (cs : Array Value) (x : Value × Nat) => cs.setIfInBounds (o + x.snd) x.fst) A).toList = A.toList.take (o + k) ++ l ++ A.toList.drop (o + k + l.length)
  | [], k, A, h => by simp
  | v :: l, k, A, h => by
    rw [List.length_cons] at h
    rw [List.zipIdx_cons, List.foldl_cons, foldl_sets o l (k + 1) _ (by rw [Array.size_setIfInBounds]; omega)]
    have hk : o + k < A.toList.length := by rw [Array.length_toList]; omega
    rw [Array.toList_setIfInBounds, List.length_cons]
    rw [show o + (k + 1) = o + k + 1 by omega, show o + k + 1 + l.length = o + k + (l.length + 1) by omega]
    rw [List.take_add_one, List.take_set_of_le (Nat.le_refl _), List.getElem?_set_self hk, List.drop_set_of_lt (by omega)]
    simp

end Go.Proofs.YtcdobdjemlaaaaaGreat
/- A slice of one element of many cells, made in place. -/
namespace Go.Proofs.YtcdobdjemlaaaaaGreat
open Go.RowKit
set_option linter.unusedVariables false
set_option linter.unusedSimpArgs false

theorem fold_whole (A : Array Value) (L : List Value) (h : L.length = A.size) : Array.foldl (fun (cs : Array Value) (x : Value × Nat) => cs.setIfInBounds (0 + x.snd) x.fst) A L.toArray.zipIdx 0 L.toArray.zipIdx.size = L.toArray := by
  apply Array.toList_inj.1
  have hzi : L.toArray.zipIdx = (L.zipIdx 0).toArray := by apply Array.toList_inj.1; simp
  rw [hzi, List.foldl_toArray' _ _ _ (by simp)]
  have h1 := foldl_sets 0 L 0 A (by omega)
  rw [h1]
  simp
  omega

theorem run_buildSlice_one {P : Program} (w : World) (t e : TypeId) (n : Nat) (z : Value) (L : List Value) (ht : P.underlying t = some (.slice e)) (hi : (P.info? e).map (fun i => (i.zero, i.size)) = some (some z, n)) (hz : z.cells.size = n) (hL : L.length = n) (hn : 0 < n) (hn2 : n ≤ 1000) :
    (Instr.buildSlice t 1 #[(0, .agg L.toArray)]).run P w = .ok (.slice (some ⟨w.heap.size, 0, none⟩) 1 1) (w.alloc (.cells L.toArray e)) := by
  cases hq : P.info? e with
  | none => rw [hq] at hi; cases hi
  | some i =>
    rw [hq] at hi
    simp only [Option.map_some, Option.some.injEq, Prod.mk.injEq] at hi
    obtain ⟨h1, h2⟩ := hi
    have hs : ∀ W, (sizeOf e).run P W = .ok n W := fun W => by simp [sizeOf, typeInfo, hq, h2]
    have hzv : ∀ W, (zeroValue e).run P W = .ok z W := fun W => by simp [zeroValue, typeInfo, hq, h1]
    have hf : ∀ A : Array Value, A.size = n → Instr.fill (fun i => some (i * n, n)) A [(0, Value.agg L.toArray)] = some L.toArray := by
      intro A hA
      unfold Instr.fill
      have e1 : (Value.agg L.toArray).cells = L.toArray := rfl
      simp only [e1, Nat.zero_mul, List.size_toArray, hL, hA]
      rw [if_neg (by simp)]
      unfold Instr.fill
      congr 1
      exact fold_whole A L (by omega)
    unfold Instr.buildSlice
    rw [Sem.run_bind, run_underlying ht w]
    simp only [Result.andThen_ok, Sem.run_bind, hs, Nat.one_mul]
    rw [if_neg (by omega)]
    have hn0 : ¬ n = 0 := by omega
    simp only [hn0, if_false, Sem.run_bind, hzv, Result.andThen_ok, Sem.run_pure]
    rw [hf _ (by simp)]
    rfl

theorem wpList_build1 {P : Program} {ops : Array Oper} {rest : List Oper} {o : Oper} {a : Act} {Q : Exit → Act → World → Prop} {w : World} (hgd : o.guard = none) (x : Operand) (t e : TypeId) (n : Nat) (z : Value) (L : List Value)
    (ho : o.op = .buildSlice t 1 #[(0, x)]) (hx : a.eval x = .agg L.toArray) (ht : P.underlying t = some (.slice e)) (hi : (P.info? e).map (fun i => (i.zero, i.size)) = some (some z, n)) (hz : z.cells.size = n) (hL : L.length = n) (hn : 0 < n) (hn2 : n ≤ 1000)
    (h : wpList P ops Q rest (a.put o.dst (.slice (some ⟨w.heap.size, 0, none⟩) 1 1)) (w.alloc (.cells L.toArray e))) : wpList P ops Q (o :: rest) a w := by
  refine wpList_plain hgd fun K hK => ?_
  have hrun := run_buildSlice_one (P := P) w t e n z L ht hi hz hL hn hn2
  unfold Oper.wp execOp
  simp only [ho, List.map_toArray, List.map_cons, List.map_nil, hx, Sem.run_bind, hrun, Result.andThen_ok, Sem.run_pure]
  exact hK _ _ h
end Go.Proofs.YtcdobdjemlaaaaaGreat
/- The reference's Unpack, walked. -/
namespace Go.Proofs.YtcdobdjemlaaaaaGreat
open Go.RowKit
set_option linter.unusedVariables false
set_option linter.unusedSimpArgs false
open Wire

theorem flat_get {ls : List (List Value)} (h : ∀ l ∈ ls, l.length = 260) : ∀ {j : Nat} {l : List Value}, ls[j]? = some l → ∀ {i : Nat} {u : Value}, l[i]? = some u → ls.flatten[j * 260 + i]? = some u := by
  induction ls with
  | nil => intro j l hj; simp at hj
  | cons a ls ih =>
    intro j l hj i u hi
    have ha := h a (by simp)
    cases j with
    | zero =>
      obtain rfl : a = l := by simpa using hj
      have : i < a.length := (List.getElem?_eq_some_iff.1 hi).1
      rw [List.flatten_cons, Nat.zero_mul, Nat.zero_add, List.getElem?_append_left this]
      exact hi
    | succ j =>
      have := ih (fun l hl => h l (by simp [hl])) (j := j) (l := l) (by simpa using hj) hi
      rw [List.flatten_cons, List.getElem?_append_right (by rw [ha, Nat.add_mul]; omega), ha, show (j + 1) * 260 + i - 260 = j * 260 + i by omega]
      exact this
theorem chs_one {s : ByteArray} {k : Nat} (h : k < s.size) : chs (s.extract k (k + 1)) = [s[k]'h] := by
  have : chs (s.extract k (k + 1)) = ((chs s).drop k).take 1 := by
    simp [chs, ByteArray.data_extract]
  rw [this, chs_drop h]
  rfl

theorem below_setC {B b : Nat} {a : World} (hb : B ≤ b) : ∀ (vs : List Value) (o : Nat) (w : World), Below B a w → Below B a (w.setCells b o vs)
  | [], _, _, h => h
  | v :: r, o, w, h => by
    rw [World.setCells]
    exact below_setC hb r (o + 1) _ (h.setCell (p := ⟨b, o, none⟩) hb v)
theorem heap_setC (b : Nat) : ∀ (vs : List Value) (o : Nat) (w : World) (k : Nat), k ≠ b → (w.setCells b o vs).heap[k]? = w.heap[k]?
  | [], _, _, _, _ => rfl
  | v :: r, o, w, k, hk => by
    rw [World.setCells, heap_setC b r (o + 1) _ k hk]
    exact Below.heap_setCell w ⟨b, o, none⟩ v k hk
theorem size_setC (b : Nat) : ∀ (vs : List Value) (o : Nat) (w : World), (w.setCells b o vs).heap.size = w.heap.size
  | [], _, _ => rfl
  | v :: r, o, w => by rw [World.setCells, size_setC b r (o + 1) _]; simp [World.setCell]

theorem zszB : Tryz.zeroCells50.size = 256 := by kernel_rfl
theorem zoneB : ∀ u ∈ Tryz.zeroCells50.toList, u.oneCell' = true := by
  have : Tryz.zeroCells50.toList.all (fun u => u.oneCell') = true := by kernel_rfl
  intro u hu
  exact List.all_eq_true.1 this u hu
end Go.Proofs.YtcdobdjemlaaaaaGreat
