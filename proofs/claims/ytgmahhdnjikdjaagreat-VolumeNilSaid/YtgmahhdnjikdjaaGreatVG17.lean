import Derived.Test.YtgmahhdnjikdjaaGreatVG16
import Derived.Maps.Own
import Derived.Maps.OwnSet
import Derived.Test.YtgmahhdnjikdjaaGreatVG1
set_option linter.unusedVariables false
set_option linter.unusedSimpArgs false
/- store: what is answered of a store that is not there, or is zero, walked. -/
namespace Go.Proofs.YtgmahhdnjikdjaaGreat
open Go.RowKit Wire
set_option linter.unusedVariables false
set_option linter.unusedSimpArgs false
/-- A zero store's cells. -/
def stZ : Array Value := #[.pointer none, .int .u64 0, .int .i64 0, .int .i64 0, .int .u32 0, .int .u32 0, .int .u32 0, .int .u32 0, .int .u32 0, .int .u32 0, .int .u32 0, .int .u32 0, .int .u32 0, .int .i64 0, .int .u64 0, .int .u64 0, .int .u64 0, .int .u64 0, .int .u64 0, .bool false, .pointer none, .pointer none, .map none, .map none, .bool false]
/-- No store. -/
def StV (w : World) (v : Value) : Prop := v = .pointer none ∨ ∃ z, v = .pointer (some ⟨z, 0, none⟩) ∧ w.heap[z]? = some (.cells stZ 176 (0, 0))
theorem StV.below {w w' : World} {v : Value} (h : StV w v) (hb : Below w.heap.size w w') : StV w' v := by
 rcases h with rfl | ⟨z, rfl, h⟩
 ·exact .inl rfl
 ·exact .inr ⟨z, rfl, (hb.block _ (Array.getElem?_eq_some_iff.1 h).1).trans h⟩
theorem StV.ptr {w : World} {v : Value} (h : StV w v) : ∃ a, v = .pointer a := by
 rcases h with rfl | ⟨z, rfl, _⟩
 ·exact ⟨_, rfl⟩
 ·exact ⟨_, rfl⟩
theorem ret_eq {fn : Func} {p : Tmp} {ty : TypeId} (h : fn.results = #[.cell p ty]) (tmps : Array Value) (P : Program) (w : World) : (results fn tmps).run P w = ((asAddr (tmps.getD p undef)).run P w).andThen fun a w₁ => (loadVar ty a).run P w₁ := by
 simp only [results, h]
 simp [Sem.run_bind, Result.andThen]
theorem ret_eq3 {fn : Func} {p q r : Tmp} {t1 t2 t3 : TypeId} (h : fn.results = #[.cell p t1, .cell q t2, .cell r t3]) (tmps : Array Value) (P : Program) (w : World) : (results fn tmps).run P w = ((asAddr (tmps.getD p undef)).run P w).andThen fun a w₁ => ((loadVar t1 a).run P w₁).andThen fun v w₂ => ((asAddr (tmps.getD q undef)).run P w₂).andThen fun a w₁ => ((loadVar t2 a).run P w₁).andThen fun u w₂ => ((asAddr (tmps.getD r undef)).run P w₂).andThen fun a w₁ => ((loadVar t3 a).run P w₁).andThen fun x w₂ => .ok (.tuple #[v, u, x]) w₂ := by
 simp only [results, h]
 simp [Sem.run_bind, Result.andThen]
theorem agg24 (w : World) : (isAgg 22).run Tryz.prog w = .ok false w := by kernel_rfl
theorem agg41 (w : World) : (isAgg 23).run Tryz.prog w = .ok false w := by kernel_rfl
theorem lv_one {t : TypeId} (ha : ∀ w, (isAgg t).run Tryz.prog w = .ok false w) {w : World} {a : Addr} {v : Value} (hc : w.cell? a = some v) : (loadVar t a).run Tryz.prog w = .ok v w := by
 unfold loadVar
 rw [Sem.run_bind, ha]
 simp [Result.andThen, go_sem, hc]
def ndZ : List Value := [.int .i64 0, .int .u64 0, .slice none 0 0, .slice none 0 0]
theorem infoNd : (Tryz.prog.info? 159).map (·.size) = some 4 := by kernel_rfl
theorem suZ_built : Tryz.prog.built 72 [] = some suZ.toArray := by kernel_rfl
theorem res_nd {fn : Func} {p u : Tmp} (h : fn.results = #[.cell p 159, .tmp u]) (tmps : Array Value) (w : World) (g : Nat) (L : List Value) (x : Value) (hp : tmps.getD p undef = .pointer (some ⟨g, 0, none⟩)) (hx : tmps.getD u undef = x) (hr : w.rangeAt g 0 L) (hl : (Tryz.prog.info? 159).map (·.size) = some L.length) :
  (results fn tmps).run Tryz.prog w = .ok (.tuple #[.agg L.toArray, x]) w := by
 rw [results_cell_tmp h, hp, hx]
 have := run_loadVar_mid (P := Tryz.prog) w g 0 159 L _ hr Tryz.underlying159 rfl hl
 simp only [asAddr, Sem.run_pure, Result.andThen_ok, this]
theorem res_one_sup {fn : Func} {p : Tmp} (h : fn.results = #[.cell p 72]) (tmps : Array Value) (w : World) (g : Nat) (L : List Value) (hp : tmps.getD p undef = .pointer (some ⟨g, 0, none⟩)) (hr : w.rangeAt g 0 L) (hl : (Tryz.prog.info? 72).map (·.size) = some L.length) :
  (results fn tmps).run Tryz.prog w = .ok (.agg L.toArray) w := by
 rw [ret_eq h, hp]
 have := run_loadVar_mid (P := Tryz.prog) w g 0 72 L _ hr Tryz.underlying72 rfl hl
 simp only [asAddr, Sem.run_pure, Result.andThen_ok, this]
set_option maxRecDepth 100000 in
set_option maxHeartbeats 6400000 in
theorem ssuper_no (w : World) (v : Value) (h : StV w v) : Calls Tryz.prog 44 #[v] w fun e w' => e = .returned (.agg suZ.toArray) ∧ Below w.heap.size w w' := by
 rcases h with rfl | ⟨z, rfl, h⟩
 ·go_enter Tryz.func44, Tryz.ntmps44
  go_upto_region 2 with fail
  apply wp_region_lit
  refine wpL_build0 (by kernel_rfl) 72 rfl suZ.toArray suZ_built ?_
  repeat (first
   | (refine wpList_store_mid rfl 72 _ _ rfl w.heap.size 0 suZ.toArray rfl rfl (thereOf (heap_alloc_new w _) (by simp [ndZ, suZ])) infoSup (by kernel_rfl) ?_)
   | go_step)
  refine bodyPost_ret (v := .agg suZ.toArray) (res_one_sup rfl _ _ w.heap.size suZ rfl (World.rangeAt_setCells_same _ _ _ _ (thereOf (heap_alloc_new w _) (by simp [ndZ, suZ]))) infoSup) rfl ⟨rfl, ?_⟩
  exact belowSets (Nat.le_refl _) _ _ _ (balloc (Below.refl _ _) _)
 ·have HR : Hid (∀ X, Below w.heap.size w X → X.rangeAt z 1 suZ) := Lib.hid (fun X hX => by
   have h1 : X.heap[z]? = some (.cells stZ 176 (0, 0)) := (hX.block _ (Array.getElem?_eq_some_iff.1 h).1).trans h
   intro j u hj
   refine cellOf h1 (1 + j) ?_
   have hj19 : j < 19 := (List.getElem?_eq_some_iff.1 hj).1
   rcases (show j = 0 ∨ j = 1 ∨ j = 2 ∨ j = 3 ∨ j = 4 ∨ j = 5 ∨ j = 6 ∨ j = 7 ∨ j = 8 ∨ j = 9 ∨ j = 10 ∨ j = 11 ∨ j = 12 ∨ j = 13 ∨ j = 14 ∨ j = 15 ∨ j = 16 ∨ j = 17 ∨ j = 18 by omega) with rfl | rfl | rfl | rfl | rfl | rfl | rfl | rfl | rfl | rfl | rfl | rfl | rfl | rfl | rfl | rfl | rfl | rfl | rfl <;> exact hj)
  clear h
  go_enter Tryz.func44, Tryz.ntmps44
  go_upto_region 3 with fail
  apply wp_region_lit
  repeat (first
   | (refine wpList_load_mid rfl 72 _ rfl z 1 rfl suZ _ (HR.out _ (balloc (Below.refl _ _) _)) Tryz.underlying72 rfl infoSup ?_)
   | (refine wpList_store_mid rfl 72 _ _ rfl w.heap.size 0 suZ.toArray rfl rfl (thereOf (heap_alloc_new w _) (by simp [ndZ, suZ])) infoSup (by kernel_rfl) ?_)
   | go_step)
  refine bodyPost_ret (v := .agg suZ.toArray) (res_one_sup rfl _ _ w.heap.size suZ rfl (World.rangeAt_setCells_same _ _ _ _ (thereOf (heap_alloc_new w _) (by simp [ndZ, suZ]))) infoSup) rfl ⟨rfl, ?_⟩
  exact belowSets (Nat.le_refl _) _ _ _ (balloc (Below.refl _ _) _)
end Go.Proofs.YtgmahhdnjikdjaaGreat
/- Devices: lists by rising numbers, and maps that read as such; plainly. -/
namespace Go.Proofs.YtgmahhdnjikdjaaGreat
open Go.RowKit
set_option linter.unusedVariables false
set_option linter.unusedSimpArgs false
section
variable {α : Type} {H : Type}
def insA (x : Nat × α) : List (Nat × α) → List (Nat × α)
 | [] => [x]
 | y :: r => if x.1 < y.1 then x :: y :: r else y :: insA x r
/-- Without the entry of k. -/
def delA (k : Nat) (l : List (Nat × α)) : List (Nat × α) := l.filter fun p => !(p.1 == k)
/-- With a at k. -/
def putA (k : Nat) (a : α) (l : List (Nat × α)) : List (Nat × α) := insA (k, a) (delA k l)
/-- What is at k. -/
def getA (k : Nat) (l : List (Nat × α)) : Option α := (l.find? fun p => p.1 == k).map (·.2)
/-- The numbers rise. -/
def Ris (l : List (Nat × α)) : Prop := l.Pairwise fun p q => p.1 < q.1
theorem mem_insA {x y : Nat × α} : ∀ {l : List (Nat × α)}, y ∈ insA x l ↔ y = x ∨ y ∈ l
 | [] => by simp [insA]
 | z :: r => by
  unfold insA
  split
  ·simp
  ·rw [List.mem_cons, mem_insA, List.mem_cons]
   constructor
   ·rintro (h | h | h)
    ·exact .inr (.inl h)
    ·exact .inl h
    ·exact .inr (.inr h)
   ·rintro (h | h | h)
    ·exact .inr (.inl h)
    ·exact .inl h
    ·exact .inr (.inr h)
theorem delA_ne {l : List (Nat × α)} {k : Nat} : ∀ y ∈ delA k l, y.1 ≠ k := by
 intro y hy
 have := (List.mem_filter.1 hy).2
 simpa using this
theorem delA_len (k : Nat) (l : List (Nat × α)) : (delA k l).length ≤ l.length := List.length_filter_le _ _
theorem insA_len (x : Nat × α) : ∀ l : List (Nat × α), (insA x l).length = l.length + 1
 | [] => rfl
 | y :: r => by
  unfold insA
  split
  ·rfl
  ·simp only [List.length_cons, insA_len x r]
theorem putA_len (k : Nat) (a : α) (l : List (Nat × α)) : (putA k a l).length ≤ l.length + 1 := by
 unfold putA
 rw [insA_len]
 exact Nat.succ_le_succ (delA_len k l)
theorem mem_putA {y : Nat × α} {k : Nat} {a : α} {l : List (Nat × α)} (h : y ∈ putA k a l) : y = (k, a) ∨ y ∈ l := by
 rcases mem_insA.1 h with h | h
 ·exact .inl h
 ·exact .inr (List.mem_filter.1 h).1
theorem getA_some {k : Nat} {l : List (Nat × α)} {a : α} (h : getA k l = some a) : (k, a) ∈ l := by
 unfold getA at h
 obtain ⟨p, hp, rfl⟩ := Option.map_eq_some_iff.1 h
 have h1 := List.mem_of_find?_eq_some hp
 have h2 := List.find?_some hp
 have : p.1 = k := by simpa using h2
 subst this
 exact h1
/-- How such a list reads as a map. -/
def encA (q : IntKind) (f : α → DataW H) (l : List (Nat × α)) : List (Lit × DataW H) := l.map fun p => (.int q (p.1 : Int), f p.2)
def encM (q : IntKind) (f : α → DataW H) (l : List (Nat × α)) : DataW H := .map (encA q f l)
theorem same_enc (q : IntKind) (a b : Nat) : (Lit.int q (a : Int)).sameKey (.int q (b : Int)) = (a == b) := by
 simp only [Lit.sameKey, true_and]
 rw [Bool.eq_iff_iff, decide_eq_true_eq, beq_iff_eq]
 omega
theorem encA_filter (q : IntKind) (f : α → DataW H) (k : Nat) (l : List (Nat × α)) : (encA q f l).filter (fun p => !p.1.sameKey (.int q (k : Int))) = encA q f (delA k l) := by
 unfold encA delA
 rw [List.filter_map]
 congr 1
 refine List.filter_congr fun p _ => ?_
 simp only [Function.comp, same_enc]
theorem encA_insert (q : IntKind) (f : α → DataW H) (k : Nat) (a : α) : ∀ l : List (Nat × α), DataW.insert (.int q (k : Int), f a) (encA q f l) = encA q f (insA (k, a) l)
 | [] => rfl
 | y :: r => by
  have ih := encA_insert q f k a r
  unfold encA at ih ⊢
  simp only [List.map_cons, DataW.insert, insA, Lit.before, decide_eq_true_eq]
  by_cases h : k < y.1
  ·rw [if_pos (by omega), if_pos h]
   rfl
  ·rw [if_neg (by omega), if_neg h]
   simp only [List.map_cons, ih]
theorem put_enc (q : IntKind) (f : α → DataW H) (k : Nat) (a : α) (l : List (Nat × α)) : (encM q f l).put (.int q (k : Int)) (f a) = encM q f (putA k a l) := by
 show DataW.map (DataW.insert _ (List.filter _ _)) = _
 rw [encA_filter, encA_insert]
 rfl
theorem find_enc (q : IntKind) (f : α → DataW H) (k : Nat) : ∀ l : List (Nat × α), (encA q f l).find? (fun p => p.1.sameKey (.int q (k : Int))) = (l.find? fun p => p.1 == k).map fun p => (.int q (p.1 : Int), f p.2)
 | [] => rfl
 | y :: r => by
  have ih := find_enc q f k r
  unfold encA at ih ⊢
  rw [List.map_cons, List.find?_cons, List.find?_cons, same_enc, ih]
  cases (y.1 == k) <;> rfl
theorem at_enc (q : IntKind) (f : α → DataW H) (k : Nat) (l : List (Nat × α)) (z : DataW H) : (encM q f l).atKey (.int q (k : Int)) z = match getA k l with | some a => f a | none => z := by
 show (match (encA q f l).find? _ with | some p => p.2 | none => z) = _
 rw [find_enc]
 unfold getA
 cases l.find? (fun p => p.1 == k) <;> rfl
theorem has_enc (q : IntKind) (f : α → DataW H) (k : Nat) (l : List (Nat × α)) : Maps.has (encM q f l) (.int q (k : Int)) = (getA k l).isSome := by
 show (encA q f l).any _ = _
 unfold getA
 rw [Option.isSome_map]
 induction l with
 | nil => rfl
 | cons y r ih =>
  unfold encA at ih ⊢
  rw [List.map_cons, List.any_cons, List.find?_cons, same_enc, ih]
  cases (y.1 == k) <;> simp
theorem size_enc (q : IntKind) (f : α → DataW H) (l : List (Nat × α)) : Maps.size (encM q f l) = l.length := by
 show (encA q f l).length = _
 simp [encA]
end
end Go.Proofs.YtgmahhdnjikdjaaGreat
/- Maps with integer keys, in memory, as lists by rising numbers. -/
namespace Go.Proofs.YtgmahhdnjikdjaaGreat
open Go.RowKit Go.Maps
set_option linter.unusedVariables false
set_option linter.unusedSimpArgs false
section
variable {α : Type} {P : Program} {k : TypeId} {R : Value → Option (DataW Unit × List MemPlace)} {q : IntKind} {f : α → DataW Unit}
/-- Block b is a map that reads as the list l. -/
def MapL (w : World) (P : Program) (k : TypeId) (R : Value → Option (DataW Unit × List MemPlace)) (q : IntKind) (f : α → DataW Unit) (b : Nat) (l : List (Nat × α)) : Prop := w.ownsMap P k R b l.length (encM q f l)
theorem mapL_of {w : World} {b n : Nat} {l : List (Nat × α)} (h : w.ownsMap P k R b n (encM q f l)) : MapL w P k R q f b l := by
 obtain ⟨es, clock, hb, F, hs, hD⟩ := h
 refine ⟨es, clock, hb, F, ?_, hD⟩
 have h1 := DataW.map.inj hD
 have h2 := congrArg List.length h1
 rw [length_read] at h2
 have h3 : (encA q f l).length = l.length := by simp [encA]
 omega
theorem mapL_new (w : World) (P : Program) (k : TypeId) (R : Value → Option (DataW Unit × List MemPlace)) (q : IntKind) (f : α → DataW Unit) : MapL (w.alloc (.map #[] 0)) P k R q f w.heap.size [] := World.ownsMap_made w P k R
theorem MapL.lt {w : World} {b : Nat} {l : List (Nat × α)} (h : MapL w P k R q f b l) : b < w.heap.size := World.ownsMap.lt h
theorem MapL.at_ {w w' : World} {b : Nat} {l : List (Nat × α)} (h : MapL w P k R q f b l) (hb : w'.heap[b]? = w.heap[b]?) : MapL w' P k R q f b l := by
 obtain ⟨es, clock, h1, h2⟩ := h
 exact ⟨es, clock, hb.trans h1, h2⟩
theorem MapL.below {w w' : World} {b : Nat} {l : List (Nat × α)} (h : MapL w P k R q f b l) (hb : Below w.heap.size w w') : MapL w' P k R q f b l := h.at_ (hb.block _ h.lt)
theorem MapL.mods {w w' : World} {F : List Nat} {b : Nat} {l : List (Nat × α)} (h : MapL w P k R q f b l) (hm : Mods F w w') (hb : b ∉ F) : MapL w' P k R q f b l := h.at_ (hm.block _ h.lt hb)
/-- It is a map's block. -/
theorem MapL.isMap {w : World} {b : Nat} {l : List (Nat × α)} (h : MapL w P k R q f b l) : ∃ es clock, w.heap[b]? = some (.map es clock) := by
 obtain ⟨es, clock, h1, _⟩ := h
 exact ⟨es, clock, h1⟩
theorem keyL {P : Program} {k : TypeId} {q : IntKind} (hk : P.underlying k = some (.int q)) {n : Nat} (hw : (Lit.int q (n : Int)).wf = true) : keyOf P k (.int q (n : Int)) = some (.int q (n : Int)) := keyOf_int_mk hk hw
/-- Looked up. -/
theorem MapL.look {w : World} {b : Nat} {l : List (Nat × α)} (h : MapL w P k R q f b l) (hk : P.underlying k = some (.int q)) {t e : TypeId} (ht : P.underlying t = some (.map k e)) {z : Value} {zd : DataW Unit} {zp : List MemPlace}
  (hz : (zeroValue e).run P w = .ok z w) (hzd : R z = some (zd, zp)) {n : Nat} (hw : (Lit.int q (n : Int)).wf = true) :
  ∃ v ps, (Instr.lookup t (.map (some b)) (.int q (n : Int)) false).run P w = .ok v w ∧ R v = some ((match getA n l with | some a => f a | none => zd), ps) := by
 obtain ⟨v, ps, h1, h2⟩ := World.ownsMap.lookup h (int_keyed hk) ht hz hzd (keyL hk hw)
 rw [at_enc] at h2
 exact ⟨v, ps, h1, h2⟩
theorem MapL.lookOk {w : World} {b : Nat} {l : List (Nat × α)} (h : MapL w P k R q f b l) (hk : P.underlying k = some (.int q)) {t e : TypeId} (ht : P.underlying t = some (.map k e)) {z : Value} {zd : DataW Unit} {zp : List MemPlace}
  (hz : (zeroValue e).run P w = .ok z w) (hzd : R z = some (zd, zp)) {n : Nat} (hw : (Lit.int q (n : Int)).wf = true) :
  ∃ v ps, (Instr.lookup t (.map (some b)) (.int q (n : Int)) true).run P w = .ok (.tuple #[v, .bool (getA n l).isSome]) w ∧ R v = some ((match getA n l with | some a => f a | none => zd), ps) := by
 obtain ⟨v, ps, h1, h2⟩ := World.ownsMap.look_ok h (int_keyed hk) ht hz hzd (keyL hk hw)
 rw [at_enc] at h2
 rw [has_enc] at h1
 exact ⟨v, ps, h1, h2⟩
/-- Written. -/
theorem MapL.put {w : World} {b : Nat} {l : List (Nat × α)} (h : MapL w P k R q f b l) (hk : P.underlying k = some (.int q)) {t e : TypeId} (ht : P.underlying t = some (.map k e)) (hn : l.length < maxLen) {n : Nat} (hw : (Lit.int q (n : Int)).wf = true) {v : Value} {a : α} {ps : List MemPlace} (hv : R v = some (f a, ps)) :
  ∃ w', (Instr.mapUpdate t (.map (some b)) (.int q (n : Int)) v).run P w = .ok () w' ∧ MapL w' P k R q f b (putA n a l) ∧ Mods [b] w w' := by
 obtain ⟨w', h1, h2, h3⟩ := World.ownsMap.update h (int_keyed hk) ht hn (keyL hk hw) hv
 rw [put_enc] at h2
 exact ⟨w', h1, mapL_of h2, ⟨h3.os, h3.tape, h3.output, h3.size, fun i hi hne => h3.block i hi (fun e => hne (by simp [Option.some.inj e]))⟩⟩
theorem MapL.len {w : World} {b : Nat} {l : List (Nat × α)} (h : MapL w P k R q f b l) {t e : TypeId} (ht : P.underlying t = some (.map k e)) (ty : TypeId) : (Builtin.len_ #[t] ty #[.map (some b)]).run P w = .ok (.int .i64 (l.length : Int)) w := by
 have := World.ownsMap.len h ht ty
 rw [size_enc] at this
 exact this
end
end Go.Proofs.YtgmahhdnjikdjaaGreat
