/- Several texts in one: Of0 Of1 Of2 Of3 Of4. -/
import Derived.Test.YtgkelbdgdhkeoaaGreatPCB
import Derived.Test.YtgkelbdgdhkeoaaGreatPWB
import Derived.Test.YtgkelbdgdhkeoaaGreatPWC
import Derived.Deep.LoopGhost
import Derived.Test.YtgkelbdgdhkeoaaGreatPWA
namespace Go.Proofs.YtgkelbdgdhkeoaaGreat
open Go.RowKit
set_option linter.unusedVariables false
set_option linter.unusedSimpArgs false
open Wire Cmd
theorem results_cell_slot {P : Program} {fn : Func} {p q : Tmp} {ty : TypeId} (h : fn.results = #[.cell p ty, .tmp q]) (tmps : Array Value) (w : World) (g o : Nat) (cs : List Value) (d : TypeDesc) (z : Value)
  (hp : tmps.getD p undef = .pointer (some ⟨g, o, none⟩)) (hq : tmps.getD q undef = z) (hr : w.rangeAt g o cs) (hu : P.underlying ty = some d) (hd : d.isRow = true) (hi : (P.info? ty).map (·.size) = some cs.length) :
  (results fn tmps).run P w = .ok (.tuple #[.agg cs.toArray, z]) w := by
 have hp' : tmps[p]?.getD undef = .pointer (some ⟨g, o, none⟩) := by simpa using hp
 have hq' : tmps[q]?.getD undef = z := by simpa using hq
 simp [results, h, hp', hq', asAddr, run_loadVar_mid w g o ty cs d hr hu hd hi]
theorem there_of {w : World} {b n : Nat} {cs : Array Value} {t : TypeId} (h : w.heap[b]? = some (.cells cs t (0, 0))) (hn : cs.size = n) : w.there b 0 n := fun j hj => by
 rw [Nat.zero_add]
 refine ⟨?_, frozenOf h j⟩
 rw [cell_of_row w b j _ _ _ h, Array.getElem?_eq_getElem (by omega)]; rfl
theorem run_assert_one {P : Program} {t xT : TypeId} {d : TypeDesc} (hu : P.underlying t = some d) (hd : isIfaceD d = false) (v : Value) (w : World) : (Instr.typeAssert (.iface t v) xT t false).run P w = .ok v w := by
 unfold Instr.typeAssert
 rw [Sem.run_bind, run_underlying hu w]
 cases d <;> simp_all [isIfaceD]
def oA (o : Option Ans0) : Ans0 := o.getD ⟨0, 0, []⟩
def eA {α : Type} (o : Option α) : Int := if o.isSome then 0 else 4
/-- What AnswerOf leaves. -/
def AOfP (w : World) (o : Option Ans0) (e : Ending) (w' : World) : Prop :=
 Below w.heap.size w w' ∧ ∃ sl, e = .returned (.tuple #[.agg (aC (oA o) sl), .int .i64 (eA o)]) ∧ Rd w' 1 sl (oA o).data.length (bV (oA o).data)
/-- What the reference's leaves; w0: the world of the bytes. -/
def RAOfP (w0 w : World) (o : Option Ans0) (e : Ending) (w' : World) : Prop :=
 Below w.heap.size w w' ∧ ∃ sl, e = .returned (.tuple #[.agg (aC (oA o) sl), .bool o.isSome]) ∧ Rd w0 1 sl (oA o).data.length (bV (oA o).data)
theorem AOfP.none_of {w w' : World} {o : Option Ans0} {e : Ending} (ho : o = none) (he : e = .returned (.tuple #[.agg (aC ⟨0, 0, []⟩ (.slice none 0 0)), .int .i64 4])) (hb : Below w.heap.size w w') : AOfP w o e w' := by
 subst ho; exact ⟨hb, _, he, Rd.of_own (World.ownsRow_nil w' 0 5 1)⟩
theorem RAOfP.none_of {w0 w w' : World} {o : Option Ans0} {e : Ending} (ho : o = none) (he : e = .returned (.tuple #[.agg (aC ⟨0, 0, []⟩ (.slice none 0 0)), .bool false])) (hb : Below w.heap.size w w') : RAOfP w0 w o e w' := by
 subst ho; exact ⟨hb, _, he, Rd.of_own (World.ownsRow_nil w0 0 5 1)⟩
theorem AOfP.some_of {w w' : World} {o : Option Ans0} {a : Ans0} {sl : Value} {e : Ending} (ho : o = some a) (he : e = .returned (.tuple #[.agg (aC a sl), .int .i64 0])) (hr : Rd w' 1 sl a.data.length (bV a.data)) (hb : Below w.heap.size w w') : AOfP w o e w' := by
 subst ho; exact ⟨hb, _, he, hr⟩
theorem RAOfP.some_of {w0 w w' : World} {o : Option Ans0} {a : Ans0} {sl : Value} {e : Ending} (ho : o = some a) (he : e = .returned (.tuple #[.agg (aC a sl), .bool true])) (hr : Rd w0 1 sl a.data.length (bV a.data)) (hb : Below w.heap.size w w') : RAOfP w0 w o e w' := by
 subst ho; exact ⟨hb, _, he, hr⟩
def zA : List Value := [.int .i64 0, .int .i64 0, .slice none 0 0]
theorem rd_setCells {W : World} {B : Nat} {CS : List Value} {base n : Nat} {sl : Value} {xs : List Value} (ho : W.ownsRow base 5 1 sl n xs) (hb : B < base) : (W.setCells B 0 CS).ownsRow base 5 1 sl n xs :=
 ownsRow_at ho (fun j hj => heapSetC _ _ _ _ _ (fun e => by have := ownsRow_ge ho j hj; omega))
theorem AnyO.is_num {base : Nat} {w : World} {u : Value} {n : Nat} (h : AnyO base w u (num n)) : u = .iface 41 (.int .u64 (n : Int)) := by
 rcases h with ⟨_, h, _⟩ | ⟨h, _⟩ | ⟨h, _⟩ | ⟨h, _⟩
 ·exact h
 ·exact absurd h (by show ¬ (56 : UInt8) = 63; decide)
 ·exact absurd h (by show ¬ (56 : UInt8) = 42; decide)
 ·exact absurd h (by show ¬ (56 : UInt8) = 35; decide)
theorem AnyO.is_blob {base : Nat} {w : World} {u : Value} {l : List UInt8} (h : AnyO base w u (blob l)) : ∃ sl, u = .iface 34 sl ∧ w.ownsRow base 5 1 sl l.length (bV l) := by
 rcases h with ⟨h, _⟩ | ⟨h, _⟩ | ⟨_, sl, h, h2⟩ | ⟨h, _⟩
 ·exact absurd h (by show ¬ (42 : UInt8) = 56; decide)
 ·exact absurd h (by show ¬ (42 : UInt8) = 63; decide)
 ·exact ⟨sl, h, h2⟩
 ·exact absurd h (by show ¬ (42 : UInt8) = 35; decide)
end Go.Proofs.YtgkelbdgdhkeoaaGreat
/- The reference's AnswerOf, walked. -/
namespace Go.Proofs.YtgkelbdgdhkeoaaGreat
open Go.RowKit
set_option linter.unusedVariables false
set_option linter.unusedSimpArgs false
open Wire Cmd
theorem rC_get (v : V) (sl : Value) : (rC v sl)[1]? = some (.int .u64 (v.n : Int)) ∧ (rC v sl)[2]? = some (.bool v.yes) ∧ (rC v sl)[3]? = some sl := ⟨rfl, rfl, rfl⟩
theorem map_three {cs : List (V × Value)} {x y z : V} (h : cs.map Prod.fst = [x, y, z]) : ∃ s1 s2 s3, cs = [(x, s1), (y, s2), (z, s3)] := by
 match cs, h with
 | [(a, s1), (b, s2), (c, s3)], h =>
  simp only [List.map_cons, List.map_nil, List.cons.injEq, and_true] at h
  obtain ⟨rfl, rfl, rfl⟩ := h
  exact ⟨s1, s2, s3, rfl⟩
end Go.Proofs.YtgkelbdgdhkeoaaGreat
/- taken, walked. -/
namespace Go.Proofs.YtgkelbdgdhkeoaaGreat
open Go.RowKit
set_option linter.unusedVariables false
set_option linter.unusedSimpArgs false
open Wire Cmd
theorem valLt {c : UInt8} {v : V} (h : ValOf c v) (hc : shL (c.toNat : Int) = 52) : v.n < 4294967296 := by
 rcases h with h | h
 ·exact h.2.2
 ·rw [hc] at h; exact absurd h.1 (by decide)
theorem heap_two (w : World) (A B : Array Value) : ((w.alloc (.cells A 70)).alloc (.cells B 70)).heap[w.heap.size + 1]? = some (.cells B 70 (0, 0)) := by
 have h := heap_alloc_new (w.alloc (.cells A 70)) (.cells B 70)
 rw [World.size_alloc] at h
 exact h
theorem resT {w : World} {fn : Func} {p : Tmp} {a b c d e f g : Value} (h : fn.results = #[.cell p 70]) (tmps : Array Value) (B : Nat) (fr : Nat × Nat) (hf : (0, 0) = fr) (hp : tmps.getD p undef = .pointer (some ⟨B, 0, none⟩)) (hx : w.heap[B]? = some (.cells #[a, b, c, d, e, f, g] 70 (0, 0))) :
  (results fn tmps).run Tryz.prog w = .ok (.agg #[a, b, c, d, e, f, g]) w :=
 results_cell_row h tmps _ B 70 _ (0, 0) _ hp hx Tryz.underlying70 rfl infoOp
set_option maxRecDepth 100000 in
set_option maxHeartbeats 3200000 in
theorem taken_any (o : Op0) (sl u : Value) (c : UInt8) (v : V) (hc : six c) (hv : ValOf c v) (W5 : World) (base : Nat) (hu : AnyO base W5 u v) (hs : W5.ownsRow base 5 1 sl o.data.length (bV o.data)) (w : World) :
  Calls Tryz.prog 88 #[.agg (oC o sl), .int .i32 (c.toNat : Int), u] w fun e w' => ∃ sl', e = .returned (.agg (oC (getL o c v) sl')) ∧ W5.ownsRow base 5 1 sl' (getL o c v).data.length (bV (getL o c v).data) ∧ Below w.heap.size w w' := by
 have HS := Lib.hid hs
 have hsr := Rd.of_own hs
 obtain ⟨ao, cap, rfl, _⟩ := hsr
 have asU : ∀ (v : Value) (T : TypeId) (W : World), (Instr.typeAssert (.iface 41 v) T 41 true).run Tryz.prog W = .ok (.tuple #[v, .bool true]) W := fun v T W => run_assert_hit Tryz.underlying41 rfl v W
 have asB : ∀ (v : Value) (T : TypeId) (W : World), (Instr.typeAssert (.iface 34 v) T 34 true).run Tryz.prog W = .ok (.tuple #[v, .bool true]) W := fun v T W => run_assert_hit Tryz.underlying34 rfl v W
 have noU : ∀ (v : Value) (T : TypeId) (W : World), (Instr.typeAssert (.iface 34 v) T 41 true).run Tryz.prog W = .ok (.tuple #[.int .u64 0, .bool false]) W := fun v T W => run_assert_miss Tryz.underlying41 rfl (by decide) zeroU64 v W
 obtain ⟨k1, v1, t1, s1, p1, c1, d1⟩ := o
 unfold oC
 dsimp only at HS ⊢
 clear hs
 rcases hc with rfl | rfl | rfl | rfl | rfl | rfl
 ·have hv1 := (valN hv rfl).1
  have hlt := valLt hv rfl
  rw [hv1] at hu
  obtain rfl := hu.is_num
  clear hu hv hv1 hlt
  show Calls Tryz.prog _ #[_, .int .i32 118, _] w _
  go_enter Tryz.func88, Tryz.ntmps88
  go_wp2_with fail
  exact bodyPost_ret (v := .agg #[.int .i64 k1, .int .u64 (v.n : Int), .int .u64 (t1 : Int), .int .i64 s1, .int .i64 p1, .int .i64 c1, .slice ao d1.length cap]) (resT rfl _ _ _ rfl rfl (heap_two _ _ _)) rfl ⟨.slice ao d1.length cap, rfl, HS.out, balloc (balloc (Below.refl _ _) _) _⟩
 ·have hv1 := (valN hv rfl).1
  have hlt := valLt hv rfl
  rw [hv1] at hu
  obtain rfl := hu.is_num
  clear hu hv hv1 hlt
  show Calls Tryz.prog _ #[_, .int .i32 116, _] w _
  go_enter Tryz.func88, Tryz.ntmps88
  go_wp2_with fail
  exact bodyPost_ret (v := .agg #[.int .i64 k1, .int .u64 (v1 : Int), .int .u64 (v.n : Int), .int .i64 s1, .int .i64 p1, .int .i64 c1, .slice ao d1.length cap]) (resT rfl _ _ _ rfl rfl (heap_two _ _ _)) rfl ⟨.slice ao d1.length cap, rfl, HS.out, balloc (balloc (Below.refl _ _) _) _⟩
 ·have hv1 := (valN hv rfl).1
  have hlt := valLt hv rfl
  rw [hv1] at hu
  obtain rfl := hu.is_num
  have hwr : IntKind.i64.wrap (v.n : Int) = v.n := IntWalk.i64_in _ (by omega)
  clear hu hv hv1 hlt
  show Calls Tryz.prog _ #[_, .int .i32 115, _] w _
  go_enter Tryz.func88, Tryz.ntmps88
  go_wp2_with fail
  exact bodyPost_ret (v := .agg #[.int .i64 k1, .int .u64 (v1 : Int), .int .u64 (t1 : Int), .int .i64 (v.n : Int), .int .i64 p1, .int .i64 c1, .slice ao d1.length cap]) (resT rfl _ _ _ rfl rfl (heap_two _ _ _)) rfl ⟨.slice ao d1.length cap, rfl, HS.out, balloc (balloc (Below.refl _ _) _) _⟩
 ·have hv1 := (valN hv rfl).1
  have hlt := valLt hv rfl
  rw [hv1] at hu
  obtain rfl := hu.is_num
  have hwr : IntKind.i64.wrap (v.n : Int) = v.n := IntWalk.i64_in _ (by omega)
  clear hu hv hv1 hlt
  show Calls Tryz.prog _ #[_, .int .i32 97, _] w _
  go_enter Tryz.func88, Tryz.ntmps88
  go_wp2_with fail
  exact bodyPost_ret (v := .agg #[.int .i64 k1, .int .u64 (v1 : Int), .int .u64 (t1 : Int), .int .i64 s1, .int .i64 (v.n : Int), .int .i64 c1, .slice ao d1.length cap]) (resT rfl _ _ _ rfl rfl (heap_two _ _ _)) rfl ⟨.slice ao d1.length cap, rfl, HS.out, balloc (balloc (Below.refl _ _) _) _⟩
 ·have hv1 := (valN hv rfl).1
  have hlt := valLt hv rfl
  rw [hv1] at hu
  obtain rfl := hu.is_num
  have hwr : IntKind.i64.wrap (v.n : Int) = v.n := IntWalk.i64_in _ (by omega)
  clear hu hv hv1 hlt
  show Calls Tryz.prog _ #[_, .int .i32 99, _] w _
  go_enter Tryz.func88, Tryz.ntmps88
  go_wp2_with fail
  exact bodyPost_ret (v := .agg #[.int .i64 k1, .int .u64 (v1 : Int), .int .u64 (t1 : Int), .int .i64 s1, .int .i64 p1, .int .i64 (v.n : Int), .slice ao d1.length cap]) (resT rfl _ _ _ rfl rfl (heap_two _ _ _)) rfl ⟨.slice ao d1.length cap, rfl, HS.out, balloc (balloc (Below.refl _ _) _) _⟩
 ·have hv1 := valB hv rfl
  rw [hv1] at hu
  obtain ⟨sl2, rfl, ho2⟩ := hu.is_blob
  have HO2 := Lib.hid ho2
  obtain ⟨ao2, cap2, rfl, _⟩ := Rd.of_own ho2
  clear hu hv hv1 ho2
  show Calls Tryz.prog _ #[_, .int .i32 100, _] w _
  go_enter Tryz.func88, Tryz.ntmps88
  go_wp2_with fail
  exact bodyPost_ret (v := .agg #[.int .i64 k1, .int .u64 (v1 : Int), .int .u64 (t1 : Int), .int .i64 s1, .int .i64 p1, .int .i64 c1, .slice ao2 v.b.length cap2]) (resT rfl _ _ _ rfl rfl (heap_two _ _ _)) rfl ⟨.slice ao2 v.b.length cap2, rfl, HO2.out, balloc (balloc (Below.refl _ _) _) _⟩
end Go.Proofs.YtgkelbdgdhkeoaaGreat
/- Of, walked. -/
namespace Go.Proofs.YtgkelbdgdhkeoaaGreat
open Go.RowKit
set_option linter.unusedVariables false
set_option linter.unusedSimpArgs false
open Wire Cmd
theorem storeInto {P : Program} (W : World) (g : Nat) (T : TypeId) (old cs : Array Value) (h : W.heap[g]? = some (.cells old T (0, 0))) (hs : old.size = cs.size) (h1 : ∀ u ∈ cs.toList, u.oneCell' = true) :
  ∃ W', (storeCells ⟨g, 0, none⟩ cs.toList).run P W = .ok () W' ∧ W'.heap[g]? = some (.cells cs T (0, 0)) ∧ Mods [g] W W' := by
 have h2 := run_storeCells_from (P := P) g T cs.toList 0 old W h (by simp; omega) h1
 simp only [List.take_zero, List.nil_append, Array.toArray_toList] at h2
 exact ⟨_, h2, setRow_heap W g _ _ T _ h, rfl, rfl, rfl, by simp [World.setRow], fun k hk hn => setRow_other W g k _ (by simpa using hn)⟩
def oO (o : Option Op0) : Op0 := o.getD ⟨0, 0, 0, 0, 0, 0, []⟩
def OOfP (w : World) (o : Option Op0) (e : Ending) (w' : World) : Prop :=
 Below w.heap.size w w' ∧ ∃ sl, e = .returned (.tuple #[.agg (oC (oO o) sl), .int .i64 (eA o)]) ∧ Rd w' 1 sl (oO o).data.length (bV (oO o).data)
def ROOfP (w0 w : World) (o : Option Op0) (e : Ending) (w' : World) : Prop :=
 Below w.heap.size w w' ∧ ∃ sl, e = .returned (.tuple #[.agg (oC (oO o) sl), .bool o.isSome]) ∧ Rd w0 1 sl (oO o).data.length (bV (oO o).data)
/-- The same, its data in new memory. -/
def OOfQ (w : World) (o : Option Op0) (e : Ending) (w' : World) : Prop :=
 Below w.heap.size w w' ∧ ∃ sl, e = .returned (.tuple #[.agg (oC (oO o) sl), .int .i64 (eA o)]) ∧ w'.ownsRow w.heap.size 5 1 sl (oO o).data.length (bV (oO o).data)
theorem OOfQ.none_of {w w' : World} {o : Option Op0} {e : Ending} (ho : o = none) (he : e = .returned (.tuple #[.agg (oC ⟨0, 0, 0, 0, 0, 0, []⟩ (.slice none 0 0)), .int .i64 4])) (hb : Below w.heap.size w w') : OOfQ w o e w' := by
 subst ho; exact ⟨hb, _, he, World.ownsRow_nil w' _ 5 1⟩
theorem OOfQ.some_of {w w' : World} {o : Option Op0} {a : Op0} {sl : Value} {e : Ending} (ho : o = some a) (he : e = .returned (.tuple #[.agg (oC a sl), .int .i64 0])) (hr : w'.ownsRow w.heap.size 5 1 sl a.data.length (bV a.data)) (hb : Below w.heap.size w w') : OOfQ w o e w' := by
 subst ho; exact ⟨hb, _, he, hr⟩
theorem OOfP.none_of {w w' : World} {o : Option Op0} {e : Ending} (ho : o = none) (he : e = .returned (.tuple #[.agg (oC ⟨0, 0, 0, 0, 0, 0, []⟩ (.slice none 0 0)), .int .i64 4])) (hb : Below w.heap.size w w') : OOfP w o e w' := by
 subst ho; exact ⟨hb, _, he, Rd.of_own (World.ownsRow_nil w' 0 5 1)⟩
theorem ROOfP.none_of {w0 w w' : World} {o : Option Op0} {e : Ending} (ho : o = none) (he : e = .returned (.tuple #[.agg (oC ⟨0, 0, 0, 0, 0, 0, []⟩ (.slice none 0 0)), .bool false])) (hb : Below w.heap.size w w') : ROOfP w0 w o e w' := by
 subst ho; exact ⟨hb, _, he, Rd.of_own (World.ownsRow_nil w0 0 5 1)⟩
theorem OOfP.some_of {w w' : World} {o : Option Op0} {a : Op0} {sl : Value} {e : Ending} (ho : o = some a) (he : e = .returned (.tuple #[.agg (oC a sl), .int .i64 0])) (hr : Rd w' 1 sl a.data.length (bV a.data)) (hb : Below w.heap.size w w') : OOfP w o e w' := by
 subst ho; exact ⟨hb, _, he, hr⟩
theorem ROOfP.some_of {w0 w w' : World} {o : Option Op0} {a : Op0} {sl : Value} {e : Ending} (ho : o = some a) (he : e = .returned (.tuple #[.agg (oC a sl), .bool true])) (hr : Rd w0 1 sl a.data.length (bV a.data)) (hb : Below w.heap.size w w') : ROOfP w0 w o e w' := by
 subst ho; exact ⟨hb, _, he, hr⟩
def zO : List Value := [.int .i64 0, .int .u64 0, .int .u64 0, .int .i64 0, .int .i64 0, .int .i64 0, .slice none 0 0]
theorem infoZO : (Tryz.prog.info? 70).map (·.size) = some zO.toArray.size := by kernel_rfl
theorem oneZO : zO.toArray.all (·.oneCell') = true := by kernel_rfl
theorem resO {w : World} {fn : Func} {p q : Tmp} (h : fn.results = #[.cell p 70, .tmp q]) (tmps : Array Value) (B : Nat) (CS : List Value) (z : Value) (hp : tmps.getD p undef = .pointer (some ⟨B, 0, none⟩)) (hq : tmps.getD q undef = z) (hl : CS.length = 7) (ht : w.there B 0 7) :
  (results fn tmps).run Tryz.prog (w.setCells B 0 CS) = .ok (.tuple #[.agg CS.toArray, z]) (w.setCells B 0 CS) :=
 results_cell_slot h tmps _ B 0 CS _ z hp hq (World.rangeAt_setCells_same w _ _ _ (by rw [hl]; exact ht)) Tryz.underlying70 rfl (by rw [hl]; exact infoOp)
/-- What a round of Of knows of memory: the iterator stands at pos; the result's box; the operation's box. -/
structure OfM (B K base : Nat) (w W5 : World) (s : ByteArray) (pos : Nat) (o : Op0) (W : World) : Prop where
 it : W.heap[K]? = some (.stringIter s pos)
 rb : W.heap[B]? = some (.cells zO.toArray 70 (0, 0))
 bx : ∃ sl, W.heap[B + 1]? = some (.cells (oC o sl) 70 (0, 0)) ∧ W5.ownsRow base 5 1 sl o.data.length (bV o.data)
 mid : ∀ j, base ≤ j → j < W5.heap.size → W.heap[j]? = W5.heap[j]?
 below : Below B w W
 kb : W5.heap.size ≤ K ∧ B + 1 < base ∧ B + 1 < K
theorem OfM.lt {B K base : Nat} {w W5 : World} {s : ByteArray} {pos : Nat} {o : Op0} {W : World} (h : OfM B K base w W5 s pos o W) : K < W.heap.size ∧ B + 1 < W.heap.size ∧ B < W.heap.size := by
 have h1 := (Array.getElem?_eq_some_iff.1 h.it).1
 obtain ⟨sl, h2, _⟩ := h.bx
 have h3 := (Array.getElem?_eq_some_iff.1 h2).1
 exact ⟨h1, h3, by omega⟩
theorem OfM.mono {B K base : Nat} {w W5 : World} {s : ByteArray} {pos : Nat} {o : Op0} {W W' : World} (h : OfM B K base w W5 s pos o W) (hb : Below W.heap.size W W') : OfM B K base w W5 s pos o W' := by
 obtain ⟨h1, h2, h3⟩ := h.lt
 obtain ⟨sl, h4, h5⟩ := h.bx
 exact ⟨(hb.block _ h1).trans h.it, (hb.block _ h3).trans h.rb, ⟨sl, (hb.block _ h2).trans h4, h5⟩, fun j hj hj2 => (hb.block j (by have := h.kb.1; omega)).trans (h.mid j hj hj2), h.below.trans (hb.mono (by omega)), h.kb⟩
theorem OfM.next {B K base : Nat} {w W5 : World} {s : ByteArray} {pos p' : Nat} {o : Op0} {W : World} (h : OfM B K base w W5 s pos o W) : OfM B K base w W5 s p' o (W.iterAt K s p') := by
 obtain ⟨h1, h2, h3⟩ := h.lt
 obtain ⟨sl, h4, h5⟩ := h.bx
 have hk := h.kb
 exact ⟨Lib.iterAt_heap W K _ pos p' h.it, (Lib.iterAt_other _ _ _ _ _ (by omega)).trans h.rb, ⟨sl, (Lib.iterAt_other _ _ _ _ _ (by omega)).trans h4, h5⟩, fun j hj hj2 => (Lib.iterAt_other _ _ _ _ _ (by omega)).trans (h.mid j hj hj2), Lib.below_iterAt h.below (by omega) _ _, h.kb⟩
theorem OfM.store {B K base : Nat} {w W5 : World} {s : ByteArray} {pos : Nat} {o o' : Op0} {sl' : Value} {W W' : World} (h : OfM B K base w W5 s pos o W) (hx : W'.heap[B + 1]? = some (.cells (oC o' sl') 70 (0, 0))) (hm : Mods [B + 1] W W') (ho : W5.ownsRow base 5 1 sl' o'.data.length (bV o'.data)) :
  OfM B K base w W5 s pos o' W' := by
 obtain ⟨h1, h2, h3⟩ := h.lt
 exact ⟨(hm.block _ h1 (by have := h.kb.2.2; simp; omega)).trans h.it, (hm.block _ h3 (by simp)).trans h.rb, ⟨sl', hx, ho⟩, fun j hj hj2 => (hm.block j (by have := h.kb.1; omega) (by have := h.kb.2.1; simp; omega)).trans (h.mid j hj hj2), h.below.trans (hm.below (by simp) (by omega)), h.kb⟩
theorem kind0_ok (k : UInt8) : (kind0 k).Ok := by
 have := k.toNat_lt
 refine ⟨⟨?_, ?_⟩, by show 0 < _; omega, by show 0 < _; omega, by show (-9223372036854775808 : Int) ≤ 0 ∧ (0 : Int) ≤ 9223372036854775807; omega, by show (-9223372036854775808 : Int) ≤ 0 ∧ (0 : Int) ≤ 9223372036854775807; omega, by show (-9223372036854775808 : Int) ≤ 0 ∧ (0 : Int) ≤ 9223372036854775807; omega⟩
 ·show (-9223372036854775808 : Int) ≤ (k.toNat : Int); omega
 ·show (k.toNat : Int) ≤ 9223372036854775807; omega
theorem vts_get : ∀ {cs : List UInt8} {l : List V}, VTs cs l → ∀ {j : Nat} {c : UInt8}, cs[j]? = some c → ∃ v, l[j]? = some v ∧ ValOf c v
 | _, _, .nil, j, c, h => by simp at h
 | _, _, .cons (v := v) hv ht, 0, c, h => by simp at h; subst h; exact ⟨v, rfl, hv⟩
 | _, _, .cons hv ht, j + 1, c, h => by
  obtain ⟨v, h1, h2⟩ := vts_get ht (j := j) (c := c) (by simpa using h)
  exact ⟨v, by simpa using h1, h2⟩
theorem getAll_snoc : ∀ (cs : List UInt8) (l : List V) (o : Op0) (c : UInt8) (v : V), cs.length = l.length → getAll o (cs ++ [c]) (l ++ [v]) = getL (getAll o cs l) c v
 | [], [], o, c, v, _ => rfl
 | d :: cs, u :: l, o, c, v, h => by
  show getAll (getL o d u) (cs ++ [c]) (l ++ [v]) = getL (getAll (getL o d u) cs l) c v
  exact getAll_snoc cs l _ c v (by simpa using h)
theorem getAll_take {cs : List UInt8} {l : List V} {o : Op0} {j : Nat} {c : UInt8} {v : V} (hc : cs[j]? = some c) (hv : l[j]? = some v) : getAll o (cs.take (j + 1)) (l.take (j + 1)) = getL (getAll o (cs.take j) (l.take j)) c v := by
 rw [List.take_add_one, List.take_add_one, hc, hv]
 refine getAll_snoc _ _ _ _ _ ?_
 have h1 := (List.getElem?_eq_some_iff.1 hc).1
 have h2 := (List.getElem?_eq_some_iff.1 hv).1
 rw [List.length_take, List.length_take]; omega
theorem range_new (w : World) (T : TypeId) (cs : List Value) : (w.alloc (.cells cs.toArray T)).rangeAt w.heap.size 0 cs := fun j u hj => by
 rw [Nat.zero_add]
 exact cellIs (heap_alloc_new w _) (by simpa using hj)
theorem getL_ok {o : Op0} {c : UInt8} {v : V} (ho : o.Ok) (hc : six c) (hv : ValOf c v) : (getL o c v).Ok := by
 obtain ⟨a, b, c', d, e, f⟩ := ho
 rcases hc with rfl | rfl | rfl | rfl | rfl | rfl
 ·have := valLt hv rfl
  exact ⟨a, by show v.n < _; omega, c', d, e, f⟩
 ·have := valLt hv rfl
  exact ⟨a, b, by show v.n < _; omega, d, e, f⟩
 ·have := valLt hv rfl
  exact ⟨a, b, c', by show (-9223372036854775808 : Int) ≤ (v.n : Int) ∧ (v.n : Int) ≤ 9223372036854775807; omega, e, f⟩
 ·have := valLt hv rfl
  exact ⟨a, b, c', d, by show (-9223372036854775808 : Int) ≤ (v.n : Int) ∧ (v.n : Int) ≤ 9223372036854775807; omega, f⟩
 ·have := valLt hv rfl
  exact ⟨a, b, c', d, e, by show (-9223372036854775808 : Int) ≤ (v.n : Int) ∧ (v.n : Int) ≤ 9223372036854775807; omega⟩
 ·exact ⟨a, b, c', d, e, f⟩
theorem getAll_ok : ∀ {cs : List UInt8} {l : List V} {o : Op0}, VTs cs l → (∀ c ∈ cs, six c) → o.Ok → (getAll o cs l).Ok
 | _, _, o, .nil, _, ho => ho
 | _, _, o, .cons (c := c) (cs := cs) (v := v) (vs := vs) hv ht, hc, ho => by
  show (getAll (getL o c v) cs vs).Ok
  exact getAll_ok ht (fun d hd => hc d (by simp [hd])) (getL_ok ho (hc _ (by simp)) hv)
set_option maxRecDepth 100000 in
set_option maxHeartbeats 12800000 in
theorem ofO_own (bs : List UInt8) (v : Value) (w : World) (hd : Rd w 1 v bs.length (bV bs)) (hm : bs.length ≤ 1000000) :
  Calls Tryz.prog 59 #[v] w (OOfQ w (ofO bs)) := by
 have HD := Lib.hid hd
 obtain ⟨ao, cap, rfl, _, _, ⟨_, hc1, hc2⟩, hcell⟩ := hd
 unfold maxLen at hc2
 cases bs with
 | nil =>
  have HE : Hid (ofO [] = none) := Lib.hid rfl
  clear hcell hm hc1
  show Calls Tryz.prog _ #[.slice ao 0 cap] w _
  go_enter Tryz.func59, Tryz.ntmps59
  go_wp2_with fail
  exact bodyPost_ret (v := .tuple #[.agg zO.toArray, .int .i64 4]) (results_cell_slot rfl _ _ w.heap.size 0 zO _ _ rfl rfl (range_new w _ zO) Tryz.underlying70 rfl infoOp) rfl (OOfQ.none_of HE.out rfl (balloc (Below.refl _ _) _))
 | cons k r =>
  obtain ⟨b, off, rfl, hbl, hk0⟩ := hcell 0 (.int .u8 (k.toNat : Int)) rfl
  rw [Nat.add_zero] at hk0
  have hkl := k.toNat_lt
  have HRV : Hid (bV (k :: r) = .int .u8 (k.toNat : Int) :: bV r) := Lib.hid rfl
  obtain ⟨m, hmm⟩ : ∃ m, (k :: r).length = m := ⟨_, rfl⟩
  have hm1 : 1 ≤ m := by rw [← hmm]; simp
  have HRL : Hid (r.length = m - 1) := Lib.hid (by rw [← hmm]; simp)
  have HMM := Lib.hid hmm
  rw [hmm] at HD hm hc1
  rw [hmm]
  have HB1 : Hid (Below w.heap.size w ((w.alloc (.cells zO.toArray 70)).alloc (.cells (oC (kind0 k) (.slice none 0 0)) 70))) := Lib.hid (balloc (balloc (Below.refl _ _) _) _)
  have HX1 : Hid (((w.alloc (.cells zO.toArray 70)).alloc (.cells (oC (kind0 k) (.slice none 0 0)) 70)).heap[w.heap.size]? = some (.cells zO.toArray 70 (0, 0)) ∧ ((w.alloc (.cells zO.toArray 70)).alloc (.cells (oC (kind0 k) (.slice none 0 0)) 70)).heap[w.heap.size + 1]? = some (.cells (oC (kind0 k) (.slice none 0 0)) 70 (0, 0))) := Lib.hid ⟨(Below.heap_alloc _ _ _ (by simp)).trans (heap_alloc_new w _), heap_two w _ _⟩
  have CS := shape_any (kind0 k) (kind0_ok k) (.slice none 0 0) ((w.alloc (.cells zO.toArray 70)).alloc (.cells (oC (kind0 k) (.slice none 0 0)) 70)) (Rd.of_own (World.ownsRow_nil _ 0 5 1))
  have hK0 : oC (kind0 k) (.slice none 0 0) = #[.int .i64 (k.toNat : Int), .int .u64 0, .int .u64 0, .int .i64 0, .int .i64 0, .int .i64 0, .slice none 0 0] := rfl
  have hkk : (kind0 k).k = (k.toNat : Int) := rfl
  have HSZ1 : Hid (((w.alloc (.cells zO.toArray 70)).alloc (.cells (oC (kind0 k) (.slice none 0 0)) 70)).heap.size = w.heap.size + 2) := Lib.hid (by simp)
  rw [hkk] at CS
  rw [hK0] at CS
  unfold zO at CS
  have hcut := fun W => run_cutL (P := Tryz.prog) W 34 (some ⟨b, off, none⟩) m cap 1 undBytes szBytes 1 (by omega) (by omega)
  rw [show (1 : Int).toNat = 1 from rfl] at hcut
  have HTL : Hid (∀ W, Below w.heap.size w W → Rd W 1 (.slice (cutA (some ⟨b, off, none⟩) cap 1 1) (m - 1) (cap - 1)) (m - 1) (bV r)) := Lib.hid (fun W hW => by
   have h := (HD.out.below hW).cut (l := 1) (k := m) (by omega) (Nat.le_refl _)
   rw [HRV.out] at h
   have e : ((Value.int .u8 (k.toNat : Int) :: bV r).drop (1 * 1)).take ((m - 1) * 1) = bV r := by
    rw [Nat.mul_one, Nat.mul_one, List.drop_one, List.tail_cons]
    exact List.take_of_length_le (by rw [bV_len, HRL.out]; exact Nat.le_refl _)
   rw [e] at h
   exact h)
  generalize cutA (some ⟨b, off, none⟩) cap 1 1 = A1 at *
  have HNM := Lib.hid (nm_six (k.toNat : Int))
  have hss : (strB (shS (nm (k.toNat : Int)))).size ≤ 3 := by rw [str_size]; unfold shS; rw [List.length_map]; exact nm_len _
  have HSS := Lib.hid hss
  have HOF : Hid (ofO (k :: r) = (unpack (shS (nm (k.toNat : Int))) r).bind fun p => if p.2 = r.length then (if mayO (getAll (kind0 k) (nm (k.toNat : Int)) p.1) then some (getAll (kind0 k) (nm (k.toNat : Int)) p.1) else none) else none) := Lib.hid rfl
  have hm0 : ((m : Int) == 0) = false := bneI (by omega)
  clear hcell hmm hK0 hkk hss
  go_enter Tryz.func59, Tryz.ntmps59
  go_wp2_with fail
  refine CS.mono ?_
  rintro e w2 ⟨v2, rfl, hb2, _⟩
  have HB2 := Lib.hid (bthen HB1.out hb2)
  have HX2 : Hid (w2.heap[w.heap.size]? = some (.cells zO.toArray 70 (0, 0)) ∧ w2.heap[w.heap.size + 1]? = some (.cells (oC (kind0 k) (.slice none 0 0)) 70 (0, 0)) ∧ w.heap.size + 2 ≤ w2.heap.size) := Lib.hid ⟨(hb2.block w.heap.size (by simp; omega)).trans HX1.out.1, (hb2.block (w.heap.size + 1) (by simp)).trans HX1.out.2, by have := hb2.size; simpa using this⟩
  have CU := unpack_any (strB (shS (nm (k.toNat : Int)))) (HTL.out w2 HB2.out) (by omega) (by have := HSS.out; omega)
  rw [chs_str, may_shS] at CU
  clear hb2 CS
  go_wp2_with fail
  refine CU.mono ?_
  rintro e WB ⟨hb3, hP⟩
  clear CU hcut hk0 hbl hm0
  have HBB := Lib.hid (bthen HB2.out hb3)
  have HXB : Hid (WB.heap[w.heap.size]? = some (.cells zO.toArray 70 (0, 0))) := Lib.hid ((hb3.block _ (by have := HX2.out.2.2; omega)).trans HX2.out.1)
  have HX3 : Hid (WB.heap[w.heap.size + 1]? = some (.cells (oC (kind0 k) (.slice none 0 0)) 70 (0, 0))) := Lib.hid ((hb3.block _ (by have := HX2.out.2.2; omega)).trans HX2.out.2.1)
  have HZ3 : Hid (w2.heap.size ≤ WB.heap.size) := Lib.hid hb3.size
  rw [if_pos rfl] at hP
  cases hu : unpack (shS (nm (k.toNat : Int))) r with
  | none =>
   rw [hu] at hP
   have HE : Hid (ofO (k :: r) = none) := Lib.hid (by rw [HOF.out, hu]; rfl)
   obtain rfl := hP
   clear hu hb3
   have HTH : Hid (WB.there w.heap.size 0 7) := Lib.hid (there_of HXB.out rfl)
   have HFIN : Hid (Below w.heap.size w (WB.setCells w.heap.size 0 zO)) := Lib.hid (belowSetC (Nat.le_refl _) _ _ _ HBB.out)
   go_wp2_with (refine wpList_store_mid rfl 70 _ _ rfl w.heap.size 0 zO.toArray rfl rfl HTH.out infoZO oneZO ?_)
   exact bodyPost_ret (v := .tuple #[.agg zO.toArray, .int .i64 4]) (resO rfl _ _ _ _ rfl rfl rfl HTH.out) rfl (OOfQ.none_of HE.out rfl HFIN.out)
  | some p =>
   obtain ⟨l, q⟩ := p
   rw [hu] at hP
   obtain ⟨v', rfl, hP⟩ := hP
   have HOF2 : Hid (ofO (k :: r) = if q = r.length then (if mayO (getAll (kind0 k) (nm (k.toNat : Int)) l) then some (getAll (kind0 k) (nm (k.toNat : Int)) l) else none) else none) := Lib.hid (by rw [HOF.out, hu]; rfl)
   have HVT := Lib.hid (unpackT _ _ _ _ hu)
   have hll : l.length = (nm (k.toNat : Int)).length := by have := (unpack_blen _ _ _ _ hu).2; unfold shS at this; rwa [List.length_map] at this
   obtain ⟨ao1, cap1, rfl, hn1, ha⟩ := hP.anys
   obtain ⟨xs, hown, hx⟩ := hP
   have hcap1 : l.length ≤ cap1 ∧ cap1 ≤ 9223372036854775807 := by obtain ⟨_, h2, h3, _⟩ := ha; unfold maxLen at h3; exact ⟨h2, h3⟩
   have HOWN := Lib.hid hown
   have HXX := Lib.hid hx
   clear hu hb3 ha hown hx
   by_cases hq : q = r.length
   ·have HOF3 : Hid (ofO (k :: r) = if mayO (getAll (kind0 k) (nm (k.toNat : Int)) l) then some (getAll (kind0 k) (nm (k.toNat : Int)) l) else none) := Lib.hid (by rw [HOF2.out, if_pos hq])
    have hqn : ((q : Int) != (m : Int) - 1) = false := by
     have := HRL.out
     rw [bne_eq_false_iff_eq]; omega
    clear hq
    obtain ⟨L, hL⟩ : ∃ L, l.length = L := ⟨_, rfl⟩
    have c0 : WB.cell? ⟨w.heap.size + 1, 0, none⟩ = some (.int .i64 (k.toNat : Int)) := cellIs HX3.out rfl
    have HLL := Lib.hid (And.intro hL hll)
    rw [hL] at hcap1 ⊢
    clear hL hll
    obtain ⟨base, hbase⟩ : ∃ b, w2.heap.size = b := ⟨_, rfl⟩
    rw [hbase] at HOWN HXX
    have HBA : Hid (w.heap.size + 1 < base ∧ base ≤ WB.heap.size) := Lib.hid (by
     have h1 := HX2.out.2.2
     have h2 := HZ3.out
     rw [hbase] at h1 h2
     exact ⟨by omega, h2⟩)
    have HNL := Lib.hid (nm_low (k.toNat : Int))
    have HCS := Lib.hid (chs_str (nm (k.toNat : Int)))
    have HS3 : Hid ((strB (nm (k.toNat : Int))).size = (nm (k.toNat : Int)).length) := Lib.hid (str_size _)
    have HN3 := Lib.hid (nm_len (k.toNat : Int))
    clear hbase
    go_wp2_with fail
    refine (names_any _ _).mono ?_
    rintro e w4 ⟨rfl, hb4⟩
    obtain ⟨K, hK⟩ : ∃ K, w4.heap.size = K := ⟨_, rfl⟩
    have HI : Hid (OfM w.heap.size K base w WB (strB (nm (k.toNat : Int))) 0 (kind0 k) (w4.iter (strB (nm (k.toNat : Int))) 0)) := Lib.hid (by
     have hbi : Below w4.heap.size w4 (w4.iter (strB (nm (k.toNat : Int))) 0) := balloc (Below.refl _ _) _
     have hb5 := bthen hb4 hbi
     have hsz := hb4.size
     obtain ⟨g1, g2⟩ := HBA.out
     refine ⟨hK ▸ World.iter_heap w4 _ 0, (hb5.block _ (by omega)).trans HXB.out, ⟨_, (hb5.block _ (by omega)).trans HX3.out, World.ownsRow_nil _ _ _ _⟩, fun j hj hj2 => hb5.block j hj2, bthen HBB.out hb5, by omega, g1, by omega⟩)
    clear hb4 c0 hqn
    go_wp2_with fail
    clear hK
    generalize w4.iter (strB (nm (k.toNat : Int))) 0 = wi at HI ⊢
    generalize hs : strB (nm (k.toNat : Int)) = s at *
    have HS := Lib.hid hs
    clear hs
    obtain rfl : L = s.size := by have h := HLL.out; have h2 := HS3.out; omega
    clear hm hm1 hc1 hc2 hkl
    go_loopg [] s.size (fun g wr => ∃ pos : Nat, pos ≤ s.size ∧ g = s.size - pos ∧ OfM w.heap.size K base w WB s pos (getAll (kind0 k) ((nm (k.toNat : Int)).take pos) (l.take pos)) wr)
    case atStart => exact ⟨0, by omega, by omega, HI.out⟩
    case round =>
     obtain ⟨pos, hp, hg, hmm⟩ := hrel
     have HG := Lib.hid hg
     have HM := Lib.hid hmm
     have hit : wr.heap[K]? = some (.stringIter s pos) := hmm.it
     clear hg hmm
     by_cases hlt : pos < s.size
     ·obtain ⟨c, hc⟩ : ∃ c, (s[pos]'hlt) = c := ⟨_, rfl⟩
      have hget : (nm (k.toNat : Int))[pos]? = some c := by
       have h1 := chs_get hlt
       rw [HCS.out, hc] at h1; exact h1
      have hlow : c.toNat < 128 := HNL.out c (List.mem_of_getElem? hget)
      have hdec : Utf8.decode s pos = (c.toNat, 1) := by rw [← hc]; exact decode_ascii s pos hlt (by rw [hc]; exact hlow)
      have hnx := fun ty => Lib.run_next_any_at (P := Tryz.prog) wr K s pos ty hit hlt
      simp only [hdec] at hnx
      have HM2 : Hid (OfM w.heap.size K base w WB s (pos + 1) (getAll (kind0 k) ((nm (k.toNat : Int)).take pos) (l.take pos)) (wr.iterAt K s (pos + 1))) := Lib.hid HM.out.next
      obtain ⟨wr2, hwr2⟩ : ∃ W, wr.iterAt K s (pos + 1) = W := ⟨_, rfl⟩
      rw [hwr2] at hnx HM2
      obtain ⟨sl, hbx2, hso⟩ := HM2.out.bx
      obtain ⟨x, hx, hvo⟩ := vts_get HVT.out hget
      obtain ⟨u, hu, hau⟩ := HXX.out pos x hx
      obtain ⟨g, rfl⟩ : ∃ g, ao1 = some ⟨g, 0, none⟩ := by
       rcases HOWN.out.2 with ⟨hv, hn0⟩ | ⟨g, cap', cur, hv, _⟩
       ·have := HLL.out.1; omega
       ·simp at hv; exact ⟨g, hv.1⟩
      have hcellu : wr2.cell? ⟨g, pos, none⟩ = some u := by
       have h1 := HOWN.out.cellAt pos (by have := HLL.out.1; omega)
       rw [hu] at h1
       obtain ⟨q1, q2⟩ := HOWN.out.lt g rfl
       exact (World.cell?_of_block (HM2.out.mid g q1 q2)).trans h1
      have CT := taken_any (getAll (kind0 k) ((nm (k.toNat : Int)).take pos) (l.take pos)) sl u c x (HNM.out c (List.mem_of_getElem? hget)) hvo WB base hau hso wr2.drew
      have HGN : Hid (getAll (kind0 k) ((nm (k.toNat : Int)).take (pos + 1)) (l.take (pos + 1)) = getL (getAll (kind0 k) ((nm (k.toNat : Int)).take pos) (l.take pos)) c x) := Lib.hid (getAll_take hget hx)
      obtain ⟨CO, hCO, hcl⟩ : ∃ CO : List Value, oC (getAll (kind0 k) ((nm (k.toNat : Int)).take pos) (l.take pos)) sl = CO.toArray ∧ CO.length = 7 := ⟨_, rfl, rfl⟩
      have HRC : Hid (wr2.drew.rangeAt (w.heap.size + 1) 0 CO) := Lib.hid (fun j z hj => by
       rw [Nat.zero_add]
       refine cellIs (w := wr2.drew) hbx2 ?_
       rw [hCO]; simpa using hj)
      have HIC : Hid ((Tryz.prog.info? 70).map (·.size) = some CO.length) := Lib.hid (by rw [hcl]; exact infoOp)
      have HCO := Lib.hid hCO
      rw [hCO] at CT
      have HCT := Lib.hid CT
      clear hwr2 hbx2 hit hdec hc hget hlow hu hau hx hvo hso CT hCO hcl
      have hcd : wr2.drew.cell? ⟨g, pos, none⟩ = some u := hcellu
      have hund := Tryz.underlying70
      go_upto_region 11 with fail
      refine wp_region_still_tail 6 (by kernel_rfl) (by kernel_rfl) ?_
      change wpStill _ _ wr2.drew (fun a' => wpList _ _ _ _ a' wr2.drew) _ _
      simp only [List.take_succ_cons, List.take_zero, List.drop_succ_cons, List.drop_zero]
      refine wpStill_load_mid rfl 70 _ rfl (w.heap.size + 1) 0 rfl CO _ HRC.out hund rfl HIC.out ?_
      iterate 5 still_step
      refine wpStill_nil ?_
      go_wp2_with fail
      refine HCT.out.mono ?_
      rintro e wx ⟨sl', rfl, hso', hbx⟩
      have HM3 := Lib.hid (HM2.out.mono (bthen (Below.refl _ wr2).drew hbx))
      obtain ⟨sl3, hbx3, _⟩ := HM3.out.bx
      obtain ⟨OA, hOA, hsz7, hone⟩ : ∃ OA, oC (getL (getAll (kind0 k) ((nm (k.toNat : Int)).take pos) (l.take pos)) c x) sl' = OA ∧ OA.size = 7 ∧ (∀ u ∈ OA.toList, u.oneCell' = true) := ⟨_, rfl, rfl, by
       obtain ⟨ao', cap', rfl, _⟩ := Rd.of_own hso'
       intro u hu
       simp only [oC, List.mem_cons, List.not_mem_nil, or_false] at hu
       rcases hu with rfl | rfl | rfl | rfl | rfl | rfl | rfl <;> rfl⟩
      obtain ⟨wy, hst, hxy, hmy⟩ := storeInto (P := Tryz.prog) wx (w.heap.size + 1) 70 _ OA hbx3 (by rw [hsz7]; rfl) hone
      have HMY : Hid (OfM w.heap.size K base w WB s (pos + 1) (getAll (kind0 k) ((nm (k.toNat : Int)).take (pos + 1)) (l.take (pos + 1))) wy) := Lib.hid (by
       rw [HGN.out]
       exact HM3.out.store (by rw [hOA]; exact hxy) hmy hso')
      rw [hOA]
      clear hbx hbx3 hso' hOA hone hxy hmy hcd hcellu hund hnx
      go_wp2_with fail
      go_roundg (s.size - (pos + 1))
      case rel => exact ⟨pos + 1, by omega, rfl, HMY.out⟩
      case measure => have := HG.out; omega
     ·obtain rfl : pos = s.size := by omega
      have hnx := fun ty => Lib.run_next_end_at (P := Tryz.prog) wr K s s.size ty hit (by omega)
      obtain ⟨sl, hbx, hso⟩ := HM.out.bx
      have htk : (nm (k.toNat : Int)).take s.size = nm (k.toNat : Int) := List.take_of_length_le (by rw [HS3.out]; exact Nat.le_refl _)
      have htl : l.take s.size = l := List.take_of_length_le (by rw [HS3.out, HLL.out.2]; exact Nat.le_refl _)
      rw [htk, htl] at hbx hso
      have HOO : Hid (wr.ownsRow base 5 1 sl (getAll (kind0 k) (nm (k.toNat : Int)) l).data.length (bV (getAll (kind0 k) (nm (k.toNat : Int)) l).data)) := Lib.hid (ownsRow_at hso (fun j hj => HM.out.mid j (ownsRow_ge hso j hj) (ownsRow_lt hso j hj)))
      have hok : (getAll (kind0 k) (nm (k.toNat : Int)) l).Ok := getAll_ok HVT.out (fun c hc => HNM.out c hc) (kind0_ok k)
      have CM := mayO_any (getAll (kind0 k) (nm (k.toNat : Int)) l) hok sl wr (Rd.of_own HOO.out)
      generalize getAll (kind0 k) (nm (k.toNat : Int)) l = od at *
      obtain ⟨CO, hCO, hcl, hco⟩ : ∃ CO : List Value, oC od sl = CO.toArray ∧ CO.length = 7 ∧ CO.toArray.all (·.oneCell') = true := ⟨_, rfl, rfl, by
       obtain ⟨ao', cap', rfl, _⟩ := Rd.of_own HOO.out
       kernel_rfl⟩
      have HRC : Hid (wr.rangeAt (w.heap.size + 1) 0 CO) := Lib.hid (fun j z hj => by
       rw [Nat.zero_add]
       refine cellIs hbx ?_
       rw [hCO]; simpa using hj)
      have HIC : Hid ((Tryz.prog.info? 70).map (·.size) = some CO.length) := Lib.hid (by rw [hcl]; exact infoOp)
      have HIC2 : Hid ((Tryz.prog.info? 70).map (·.size) = some CO.toArray.size) := Lib.hid (by rw [List.size_toArray, hcl]; exact infoOp)
      have HSZ : Hid (CO.toArray.size = 7) := Lib.hid (by rw [List.size_toArray]; exact hcl)
      have HCL := Lib.hid (And.intro hcl hco)
      have HCO := Lib.hid hCO
      rw [hCO] at CM
      have HCM := Lib.hid CM
      have HBX := Lib.hid hbx
      clear CM hCO hcl hco hbx hso htk htl hok
      go_wp2_with (refine wpList_load_mid rfl 70 _ rfl (w.heap.size + 1) 0 rfl CO _ HRC.out Tryz.underlying70 rfl HIC.out ?_)
      refine HCM.out.mono ?_
      rintro e WC ⟨rfl, hb5⟩
      have HM5 := Lib.hid (HM.out.mono hb5)
      have HBB : Hid (Below w.heap.size w WC) := Lib.hid HM5.out.below
      have HXB : Hid (WC.heap[w.heap.size]? = some (.cells zO.toArray 70 (0, 0))) := Lib.hid HM5.out.rb
      have HRC5 : Hid (WC.rangeAt (w.heap.size + 1) 0 CO) := Lib.hid (rangeAt_below HRC.out HM.out.lt.2.1 hb5)
      have HOO5 := Lib.hid (ownsRow_below HOO.out hb5)
      have HTH : Hid (WC.there w.heap.size 0 7) := Lib.hid (there_of HXB.out rfl)
      clear hb5 hit hnx
      cases hmy : mayO od with
      | false =>
       have HE : Hid (ofO (k :: r) = none) := Lib.hid (by rw [HOF3.out, hmy]; rfl)
       clear hmy
       have HFIN : Hid (Below w.heap.size w (WC.setCells w.heap.size 0 zO)) := Lib.hid (belowSetC (Nat.le_refl _) _ _ _ HBB.out)
       go_wp2_with (refine wpList_store_mid rfl 70 _ _ rfl w.heap.size 0 zO.toArray rfl rfl HTH.out infoZO oneZO ?_)
       exact bodyPost_ret (v := .tuple #[.agg zO.toArray, .int .i64 4]) (resO rfl _ _ _ _ rfl rfl rfl HTH.out) rfl (OOfQ.none_of HE.out rfl HFIN.out)
      | true =>
       have HE : Hid (ofO (k :: r) = some od) := Lib.hid (by rw [HOF3.out, hmy]; rfl)
       clear hmy
       have HTH2 : Hid (WC.there w.heap.size 0 CO.toArray.size) := Lib.hid (by rw [HSZ.out]; exact HTH.out)
       have HFIN : Hid (Below w.heap.size w (WC.setCells w.heap.size 0 CO)) := Lib.hid (belowSetC (Nat.le_refl _) _ _ _ HBB.out)
       have HFR : Hid ((WC.setCells w.heap.size 0 CO).ownsRow w.heap.size 5 1 sl od.data.length (bV od.data)) := Lib.hid (ownsRow_base (rd_setCells HOO5.out (by have := HBA.out.1; omega)) (by have := HBA.out.1; omega))
       go_wp2_with (first
        | (refine wpList_load_mid rfl 70 _ rfl (w.heap.size + 1) 0 rfl CO _ HRC5.out Tryz.underlying70 rfl HIC.out ?_)
        | (refine wpList_store_mid rfl 70 _ _ rfl w.heap.size 0 CO.toArray rfl rfl HTH2.out HIC2.out HCL.out.2 ?_))
       exact bodyPost_ret (v := .tuple #[.agg CO.toArray, .int .i64 0]) (resO rfl _ _ _ _ rfl rfl HCL.out.1 HTH.out) rfl (OOfQ.some_of HE.out (by rw [HCO.out]) HFR.out HFIN.out)
   ·have HE : Hid (ofO (k :: r) = none) := Lib.hid (by rw [HOF2.out, if_neg hq])
    have hqn : ((q : Int) != (m : Int) - 1) = true := by
     have := HRL.out
     rw [bne_iff_ne]; omega
    clear hq hn1 hll
    have HTH : Hid (WB.there w.heap.size 0 7) := Lib.hid (there_of HXB.out rfl)
    have HFIN : Hid (Below w.heap.size w (WB.setCells w.heap.size 0 zO)) := Lib.hid (belowSetC (Nat.le_refl _) _ _ _ HBB.out)
    go_wp2_with (refine wpList_store_mid rfl 70 _ _ rfl w.heap.size 0 zO.toArray rfl rfl HTH.out infoZO oneZO ?_)
    exact bodyPost_ret (v := .tuple #[.agg zO.toArray, .int .i64 4]) (resO rfl _ _ _ _ rfl rfl rfl HTH.out) rfl (OOfQ.none_of HE.out rfl HFIN.out)
end Go.Proofs.YtgkelbdgdhkeoaaGreat
/- The reference's Of, walked. -/
namespace Go.Proofs.YtgkelbdgdhkeoaaGreat
open Go.RowKit
set_option linter.unusedVariables false
set_option linter.unusedSimpArgs false
open Wire Cmd
theorem getL_dlen {o : Op0} {c : UInt8} {v : V} {N : Nat} (ho : o.data.length ≤ N) (hv : v.b.length ≤ N) : (getL o c v).data.length ≤ N := by
 unfold getL
 (repeat' split) <;> assumption
theorem getAll_dlen : ∀ {cs : List UInt8} {l : List V} {o : Op0} {N : Nat}, o.data.length ≤ N → (∀ v ∈ l, v.b.length ≤ N) → (getAll o cs l).data.length ≤ N
 | [], _, o, N, ho, _ => by unfold getAll; exact ho
 | _ :: _, [], o, N, ho, _ => by unfold getAll; exact ho
 | c :: cs, v :: vs, o, N, ho, hl => by
  show (getAll (getL o c v) cs vs).data.length ≤ N
  exact getAll_dlen (getL_dlen ho (hl v (by simp))) fun u hu => hl u (by simp [hu])
/-- What a round of the reference's Of knows of memory. -/
structure ROfM (B base : Nat) (w0 w WB : World) (o : Op0) (W : World) : Prop where
 rb : W.heap[B]? = some (.cells zO.toArray 70 (0, 0))
 bx : ∃ sl, W.heap[B + 1]? = some (.cells (oC o sl) 70 (0, 0)) ∧ Rd w0 1 sl o.data.length (bV o.data)
 mid : ∀ j, base ≤ j → j < WB.heap.size → W.heap[j]? = WB.heap[j]?
 below : Below B w W
 kb : WB.heap.size ≤ W.heap.size ∧ B + 1 < base
theorem ROfM.lt {B base : Nat} {w0 w WB : World} {o : Op0} {W : World} (h : ROfM B base w0 w WB o W) : B + 1 < W.heap.size ∧ B < W.heap.size := by
 obtain ⟨sl, h2, _⟩ := h.bx
 have h3 := (Array.getElem?_eq_some_iff.1 h2).1
 exact ⟨h3, by omega⟩
theorem ROfM.mono {B base : Nat} {w0 w WB : World} {o : Op0} {W W' : World} (h : ROfM B base w0 w WB o W) (hb : Below W.heap.size W W') : ROfM B base w0 w WB o W' := by
 obtain ⟨h2, h3⟩ := h.lt
 obtain ⟨sl, h4, h5⟩ := h.bx
 exact ⟨(hb.block _ h3).trans h.rb, ⟨sl, (hb.block _ h2).trans h4, h5⟩, fun j hj hj2 => (hb.block j (by have := h.kb.1; omega)).trans (h.mid j hj hj2), h.below.trans (hb.mono (by omega)), Nat.le_trans h.kb.1 hb.size, h.kb.2⟩
theorem ROfM.store {B base : Nat} {w0 w WB : World} {o o' : Op0} {W : World} (h : ROfM B base w0 w WB o W) (i : Nat) (v : Value)
  (hs : ∀ sb, Rd w0 1 sb o.data.length (bV o.data) → ∃ sb', (oC o sb).setIfInBounds i v = oC o' sb' ∧ Rd w0 1 sb' o'.data.length (bV o'.data)) :
  ROfM B base w0 w WB o' (W.setCell ⟨B + 1, i, none⟩ v) := by
 obtain ⟨h2, h3⟩ := h.lt
 obtain ⟨sl, h4, h5⟩ := h.bx
 obtain ⟨sb', e, hr⟩ := hs sl h5
 exact ⟨(Below.heap_setCell W ⟨B + 1, i, none⟩ v B (by simp)).trans h.rb, ⟨sb', by rw [setC_heap h4, e], hr⟩, fun j hj hj2 => (Below.heap_setCell W ⟨B + 1, i, none⟩ v j (by have := h.kb.2; simp; omega)).trans (h.mid j hj hj2), h.below.setCell (p := ⟨B + 1, i, none⟩) (by simp) v, by simpa [World.setCell] using h.kb.1, h.kb.2⟩
/-- The reference's Unpack, in one form. -/
theorem ru_of {w0 w w' : World} {s bs : List UInt8} {e : Ending} (h : RUnpackP w0 w true (unpack s bs) e w') : ∃ (v' : Value) (q : Nat) (code : Int), e = .returned (.tuple #[v', .int .i64 (q : Int), .int .i64 code]) ∧ Below w.heap.size w w' ∧ ((unpack s bs = none ∧ code = 4) ∨ (code = 0 ∧ ∃ cs, unpack s bs = some (cs.map Prod.fst, q) ∧ RVrow w0 w.heap.size w' v' cs)) := by
 obtain ⟨hb, hP⟩ := h
 rw [if_pos rfl] at hP
 cases hu : unpack s bs with
 | none =>
  rw [hu] at hP
  exact ⟨_, 0, 4, hP, hb, .inl ⟨rfl, rfl⟩⟩
 | some p =>
  obtain ⟨l, q⟩ := p
  rw [hu] at hP
  obtain ⟨v', cs, he, hr, hl⟩ := hP
  exact ⟨v', q, 0, he, hb, .inr ⟨rfl, cs, by rw [hl], hr⟩⟩
set_option maxRecDepth 100000 in
set_option maxHeartbeats 12800000 in
theorem rofO_any (bs : List UInt8) (v : Value) (w0 w : World) (hd0 : Rd w0 1 v bs.length (bV bs)) (hbw : Below w0.heap.size w0 w) (hm : bs.length ≤ 20000) :
  Calls Tryz.prog 75 #[v] w (ROOfP w0 w (ofO bs)) := by
 have HD0 := Lib.hid hd0
 have HBW0 := Lib.hid hbw
 have hd := hd0.below hbw
 clear hd0 hbw
 obtain ⟨ao, cap, rfl, _, _, ⟨_, hc1, hc2⟩, hcell⟩ := hd
 unfold maxLen at hc2
 cases bs with
 | nil =>
  have HE : Hid (ofO [] = none) := Lib.hid rfl
  clear hcell hm hc1
  show Calls Tryz.prog _ #[.slice ao 0 cap] w _
  go_enter Tryz.func75, Tryz.ntmps75
  go_wp2_with fail
  exact bodyPost_ret (v := .tuple #[.agg zO.toArray, .bool false]) (results_cell_slot rfl _ _ w.heap.size 0 zO _ _ rfl rfl (range_new w _ zO) Tryz.underlying70 rfl infoOp) rfl (ROOfP.none_of HE.out rfl (balloc (Below.refl _ _) _))
 | cons k r =>
  obtain ⟨b, off, rfl, hbl, hk0⟩ := hcell 0 (.int .u8 (k.toNat : Int)) rfl
  rw [Nat.add_zero] at hk0
  have hkl := k.toNat_lt
  have HRV : Hid (bV (k :: r) = .int .u8 (k.toNat : Int) :: bV r) := Lib.hid rfl
  obtain ⟨m, hmm⟩ : ∃ m, (k :: r).length = m := ⟨_, rfl⟩
  have hm1 : 1 ≤ m := by rw [← hmm]; simp
  have HRL : Hid (r.length = m - 1) := Lib.hid (by rw [← hmm]; simp)
  have HMM := Lib.hid hmm
  rw [hmm] at HD0 hm hc1
  rw [hmm]
  have HB1 : Hid (Below w.heap.size w ((w.alloc (.cells zO.toArray 70)).alloc (.cells (oC (kind0 k) (.slice none 0 0)) 70))) := Lib.hid (balloc (balloc (Below.refl _ _) _) _)
  have HX1 : Hid (((w.alloc (.cells zO.toArray 70)).alloc (.cells (oC (kind0 k) (.slice none 0 0)) 70)).heap[w.heap.size]? = some (.cells zO.toArray 70 (0, 0)) ∧ ((w.alloc (.cells zO.toArray 70)).alloc (.cells (oC (kind0 k) (.slice none 0 0)) 70)).heap[w.heap.size + 1]? = some (.cells (oC (kind0 k) (.slice none 0 0)) 70 (0, 0))) := Lib.hid ⟨(Below.heap_alloc _ _ _ (by simp)).trans (heap_alloc_new w _), heap_two w _ _⟩
  have HSZ1 : Hid (((w.alloc (.cells zO.toArray 70)).alloc (.cells (oC (kind0 k) (.slice none 0 0)) 70)).heap.size = w.heap.size + 2) := Lib.hid (by simp)
  have CNM := Lib.hid (rnames_any (k.toNat : Int))
  have CSH := Lib.hid (rshape_any (k.toNat : Int))
  have hcut := fun W => run_cutL (P := Tryz.prog) W 34 (some ⟨b, off, none⟩) m cap 1 undBytes szBytes 1 (by omega) (by omega)
  rw [show (1 : Int).toNat = 1 from rfl] at hcut
  have HTL : Hid (Rd w0 1 (.slice (cutA (some ⟨b, off, none⟩) cap 1 1) (m - 1) (cap - 1)) (m - 1) (bV r)) := Lib.hid (by
   have h := HD0.out.cut (l := 1) (k := m) (by omega) (Nat.le_refl _)
   rw [HRV.out] at h
   have e : ((Value.int .u8 (k.toNat : Int) :: bV r).drop (1 * 1)).take ((m - 1) * 1) = bV r := by
    rw [Nat.mul_one, Nat.mul_one, List.drop_one, List.tail_cons]
    exact List.take_of_length_le (by rw [bV_len, HRL.out]; exact Nat.le_refl _)
   rw [e] at h
   exact h)
  generalize cutA (some ⟨b, off, none⟩) cap 1 1 = A1 at *
  have HNM := Lib.hid (nm_six (k.toNat : Int))
  have hss : (strB (shS (nm (k.toNat : Int)))).size ≤ 3 := by rw [str_size]; unfold shS; rw [List.length_map]; exact nm_len _
  have CU : Hid (∀ W, Below w.heap.size w W → Calls Tryz.prog 50 #[.string (strB (shS (nm (k.toNat : Int)))), .slice A1 (m - 1) (cap - 1)] W fun e w' => ∃ (v' : Value) (q : Nat) (code : Int), e = .returned (.tuple #[v', .int .i64 (q : Int), .int .i64 code]) ∧ Below W.heap.size W w' ∧ ((unpack (shS (nm (k.toNat : Int))) r = none ∧ code = 4) ∨ (code = 0 ∧ ∃ cs, unpack (shS (nm (k.toNat : Int))) r = some (cs.map Prod.fst, q) ∧ RVrow w0 W.heap.size w' v' cs))) := Lib.hid (fun W hW => by
   have h := runpack_any (strB (shS (nm (k.toNat : Int)))) HTL.out (bthen HBW0.out hW) (by omega) (by omega)
   rw [chs_str, may_shS] at h
   exact h.mono fun _ _ hh => ru_of hh)
  have HOF : Hid (ofO (k :: r) = (unpack (shS (nm (k.toNat : Int))) r).bind fun p => if p.2 = r.length then (if mayO (getAll (kind0 k) (nm (k.toNat : Int)) p.1) then some (getAll (kind0 k) (nm (k.toNat : Int)) p.1) else none) else none) := Lib.hid rfl
  have hm0 : ((m : Int) == 0) = false := bneI (by omega)
  obtain ⟨W1, hW1⟩ : ∃ W, ((w.alloc (.cells zO.toArray 70)).alloc (.cells (oC (kind0 k) (.slice none 0 0)) 70)) = W := ⟨_, rfl⟩
  have hW1' := hW1
  have hK0 : oC (kind0 k) (.slice none 0 0) = #[.int .i64 (k.toNat : Int), .int .u64 0, .int .u64 0, .int .i64 0, .int .i64 0, .int .i64 0, .slice none 0 0] := rfl
  rw [hK0] at hW1'
  unfold zO at hW1'
  rw [hW1] at HB1 HX1 HSZ1
  have hk1 : W1.cell? ⟨w.heap.size + 1, 0, none⟩ = some (.int .i64 (k.toNat : Int)) := cellIs HX1.out.2 rfl
  have HW1 := Lib.hid hW1'
  clear hcell hmm hK0 hss hW1 hW1'
  go_enter Tryz.func75, Tryz.ntmps75
  go_upto_region 4 with fail
  rw [HW1.out]
  clear hk0 hbl hm0
  go_wp2_with fail
  refine (CNM.out _).mono ?_
  rintro e w2 ⟨rfl, rfl⟩
  go_upto_region 5 with fail
  have HSS : Hid (∀ X, Below W1.heap.size W1 X → X.cell? ⟨w.heap.size + 1, 0, none⟩ = some (.int .i64 (k.toNat : Int)) ∧ Below W1.heap.size W1 X) := Lib.hid (fun X hX => ⟨(hX.cell (p := ⟨w.heap.size + 1, 0, none⟩) (by show w.heap.size + 1 < _; rw [HSZ1.out]; omega)).trans (cellIs HX1.out.2 rfl), hX⟩)
  refine wp_region_held_drew (S := fun X => X.cell? ⟨w.heap.size + 1, 0, none⟩ = some (.int .i64 (k.toNat : Int)) ∧ Below W1.heap.size W1 X) (by kernel_rfl) ?_ (fun hHeld => ?_)
  ·exact HSS.out _ (Below.refl _ W1).drew
  refine wpAnyH_take (i := 0) (v := ?_) rfl (by kernel_rfl) (by kernel_rfl) (by kernel_rfl) (fun _ _ _ h => h) (Or.inl ⟨by rfl, ?_⟩) (by assumption) ?_
  rotate_left
  ·(intro w hSw; (try dsimp only at hSw); simp only [List.getElem_toArray, List.getElem_cons_zero, List.getElem_cons_succ]; go_simp; first | done | with_reducible rfl)
  simp only [List.getElem_toArray, List.getElem_cons_zero, List.getElem_cons_succ, Act.put, List.setIfInBounds_toArray, List.set_cons_zero, List.set_cons_succ]
  refine wpAnyH_take (i := 1) (v := ?_) rfl (by kernel_rfl) (by kernel_rfl) (by kernel_rfl) (fun _ _ _ h => h) (Or.inl ⟨by rfl, ?_⟩) (by assumption) ?_
  rotate_left
  ·(intro w hSw; (try dsimp only at hSw); simp only [List.getElem_toArray, List.getElem_cons_zero, List.getElem_cons_succ]; go_simp; first | done | with_reducible rfl)
  simp only [List.getElem_toArray, List.getElem_cons_zero, List.getElem_cons_succ, Act.put, List.setIfInBounds_toArray, List.set_cons_zero, List.set_cons_succ]
  refine wpAnyH_take (i := 3) (v := ?_) rfl (by kernel_rfl) (by kernel_rfl) (by kernel_rfl) (fun _ _ _ h => h) (Or.inl ⟨by rfl, ?_⟩) (by assumption) ?_
  rotate_left
  ·(intro w hSw; (try dsimp only at hSw); simp only [List.getElem_toArray, List.getElem_cons_zero, List.getElem_cons_succ]; go_simp; first | done | with_reducible rfl)
  simp only [List.getElem_toArray, List.getElem_cons_zero, List.getElem_cons_succ, Act.put, List.setIfInBounds_toArray, List.set_cons_zero, List.set_cons_succ]
  refine wpAnyH_take (i := 4) (v := ?_) rfl (by kernel_rfl) (by kernel_rfl) (by kernel_rfl) (fun _ _ _ h => h) (Or.inl ⟨by rfl, ?_⟩) (by assumption) ?_
  rotate_left
  ·(intro w hSw; (try dsimp only at hSw); simp only [List.getElem_toArray, List.getElem_cons_zero, List.getElem_cons_succ]; go_simp; first | done | with_reducible rfl)
  simp only [List.getElem_toArray, List.getElem_cons_zero, List.getElem_cons_succ, Act.put, List.setIfInBounds_toArray, List.set_cons_zero, List.set_cons_succ]
  refine wpAnyH_ready (rs := [2]) (by kernel_rfl) (by simp) ?_
  refine AllReadyH.cons rfl (fun K hK => ?_) AllReadyH.nil
  simp only [List.getElem_toArray, List.getElem_cons_zero, List.getElem_cons_succ]
  go_simp
  refine (CSH.out _).mono ?_
  rintro e w5 ⟨rfl, rfl⟩
  dsimp only
  refine hK.out _ _ ?_ (fun hHeld => ?_)
  ·exact hHeld
  clear hK K
  try simp only [Act.put, List.setIfInBounds_toArray, List.set_cons_zero, List.set_cons_succ]
  have HBQ := Lib.hid hHeld.2
  refine wpAnyH_ready (rs := [5]) (by kernel_rfl) (by simp) ?_
  refine AllReadyH.cons rfl (fun K hK => ?_) AllReadyH.nil
  simp only [List.getElem_toArray, List.getElem_cons_zero, List.getElem_cons_succ]
  go_simp
  refine (CU.out _ (bthen HB1.out hHeld.2)).mono ?_
  rintro e WB ⟨v', q, code, rfl, hb3, hP⟩
  dsimp only
  refine hK.out _ _ ?_ (fun hHeld => ?_)
  ·exact HSS.out _ (bthen hHeld.2 hb3)
  clear hK K
  try simp only [Act.put, List.setIfInBounds_toArray, List.set_cons_zero, List.set_cons_succ]
  refine wpAnyH_take (i := 6) (v := ?_) rfl (by kernel_rfl) (by kernel_rfl) (by kernel_rfl) (fun _ _ _ h => h) (Or.inl ⟨by rfl, ?_⟩) (by assumption) ?_
  rotate_left
  ·(intro w hSw; (try dsimp only at hSw); simp only [List.getElem_toArray, List.getElem_cons_zero, List.getElem_cons_succ]; go_simp; first | done | with_reducible rfl)
  simp only [List.getElem_toArray, List.getElem_cons_zero, List.getElem_cons_succ, Act.put, List.setIfInBounds_toArray, List.set_cons_zero, List.set_cons_succ]
  refine wpAnyH_take (i := 7) (v := ?_) rfl (by kernel_rfl) (by kernel_rfl) (by kernel_rfl) (fun _ _ _ h => h) (Or.inl ⟨by rfl, ?_⟩) (by assumption) ?_
  rotate_left
  ·(intro w hSw; (try dsimp only at hSw); simp only [List.getElem_toArray, List.getElem_cons_zero, List.getElem_cons_succ]; go_simp; first | done | with_reducible rfl)
  simp only [List.getElem_toArray, List.getElem_cons_zero, List.getElem_cons_succ, Act.put, List.setIfInBounds_toArray, List.set_cons_zero, List.set_cons_succ]
  refine wpAnyH_take (i := 8) (v := ?_) rfl (by kernel_rfl) (by kernel_rfl) (by kernel_rfl) (fun _ _ _ h => h) (Or.inl ⟨by rfl, ?_⟩) (by assumption) ?_
  rotate_left
  ·(intro w hSw; (try dsimp only at hSw); simp only [List.getElem_toArray, List.getElem_cons_zero, List.getElem_cons_succ]; go_simp; first | done | with_reducible rfl)
  simp only [List.getElem_toArray, List.getElem_cons_zero, List.getElem_cons_succ, Act.put, List.setIfInBounds_toArray, List.set_cons_zero, List.set_cons_succ]
  refine wpAnyH_take (i := 9) (v := ?_) rfl (by kernel_rfl) (by kernel_rfl) (by kernel_rfl) (fun _ _ _ h => h) (Or.inl ⟨by rfl, ?_⟩) (by assumption) ?_
  rotate_left
  ·(intro w hSw; (try dsimp only at hSw); simp only [List.getElem_toArray, List.getElem_cons_zero, List.getElem_cons_succ]; go_simp; first | done | with_reducible rfl)
  simp only [List.getElem_toArray, List.getElem_cons_zero, List.getElem_cons_succ, Act.put, List.setIfInBounds_toArray, List.set_cons_zero, List.set_cons_succ]
  refine wpAnyH_take (i := 10) (v := ?_) rfl (by kernel_rfl) (by kernel_rfl) (by kernel_rfl) (fun _ _ _ h => h) (Or.inl ⟨by rfl, ?_⟩) (by assumption) ?_
  rotate_left
  ·(intro w hSw; (try dsimp only at hSw); simp only [List.getElem_toArray, List.getElem_cons_zero, List.getElem_cons_succ]; go_simp; first | done | with_reducible rfl)
  simp only [List.getElem_toArray, List.getElem_cons_zero, List.getElem_cons_succ, Act.put, List.setIfInBounds_toArray, List.set_cons_zero, List.set_cons_succ]
  refine wpAnyH_take (i := 11) (v := ?_) rfl (by kernel_rfl) (by kernel_rfl) (by kernel_rfl) (fun _ _ _ h => h) (Or.inl ⟨by rfl, ?_⟩) (by assumption) ?_
  rotate_left
  ·(intro w hSw; (try dsimp only at hSw); simp only [List.getElem_toArray, List.getElem_cons_zero, List.getElem_cons_succ]; go_simp; first | done | with_reducible rfl)
  simp only [List.getElem_toArray, List.getElem_cons_zero, List.getElem_cons_succ, Act.put, List.setIfInBounds_toArray, List.set_cons_zero, List.set_cons_succ]
  refine wpAnyH_take (i := 12) (v := ?_) rfl (by kernel_rfl) (by kernel_rfl) (by kernel_rfl) (fun _ _ _ h => h) (Or.inl ⟨by rfl, ?_⟩) (by assumption) ?_
  rotate_left
  ·(intro w hSw; (try dsimp only at hSw); simp only [List.getElem_toArray, List.getElem_cons_zero, List.getElem_cons_succ]; go_simp; first | done | with_reducible rfl)
  simp only [List.getElem_toArray, List.getElem_cons_zero, List.getElem_cons_succ, Act.put, List.setIfInBounds_toArray, List.set_cons_zero, List.set_cons_succ]
  refine wpAnyH_done (by kernel_rfl) ?_ _
  have HBB : Hid (Below w.heap.size w WB) := Lib.hid (bthen HB1.out hHeld.2)
  have HXB : Hid (WB.heap[w.heap.size]? = some (.cells zO.toArray 70 (0, 0))) := Lib.hid ((hHeld.2.block _ (by rw [HSZ1.out]; omega)).trans HX1.out.1)
  have HX3 : Hid (WB.heap[w.heap.size + 1]? = some (.cells (oC (kind0 k) (.slice none 0 0)) 70 (0, 0))) := Lib.hid ((hHeld.2.block _ (by rw [HSZ1.out]; omega)).trans HX1.out.2)
  have HZB : Hid (W1.drew.heap.size ≤ WB.heap.size) := Lib.hid hb3.size
  clear hcut hb3 hHeld hk1
  rcases hP with ⟨hu, rfl⟩ | ⟨rfl, cs, hu, hrow⟩
  ·have HE : Hid (ofO (k :: r) = none) := Lib.hid (by rw [HOF.out, hu]; rfl)
   clear hu
   have HTH : Hid (WB.there w.heap.size 0 7) := Lib.hid (there_of HXB.out rfl)
   have HFIN : Hid (Below w.heap.size w (WB.setCells w.heap.size 0 zO)) := Lib.hid (belowSetC (Nat.le_refl _) _ _ _ HBB.out)
   go_wp2_with (refine wpList_store_mid rfl 70 _ _ rfl w.heap.size 0 zO.toArray rfl rfl HTH.out infoZO oneZO ?_)
   exact bodyPost_ret (v := .tuple #[.agg zO.toArray, .bool false]) (resO rfl _ _ _ _ rfl rfl rfl HTH.out) rfl (ROOfP.none_of HE.out rfl HFIN.out)
  ·have HOF2 : Hid (ofO (k :: r) = if q = r.length then (if mayO (getAll (kind0 k) (nm (k.toNat : Int)) (cs.map Prod.fst)) then some (getAll (kind0 k) (nm (k.toNat : Int)) (cs.map Prod.fst)) else none) else none) := Lib.hid (by rw [HOF.out, hu]; rfl)
   have HVT := Lib.hid (unpackT _ _ _ _ hu)
   have hll : cs.length = (nm (k.toNat : Int)).length := by have := (unpack_blen _ _ _ _ hu).2; unfold shS at this; rw [List.length_map, List.length_map] at this; exact this
   have HBL : Hid (∀ v ∈ cs.map Prod.fst, v.b.length ≤ r.length) := Lib.hid (unpack_blen _ _ _ _ hu).1
   have hql : q ≤ m - 1 := by
    have h1 := ulen_le (shS (nm (k.toNat : Int))) r
    rw [(ucode_of (may_shS _) hu).2.2, HRL.out] at h1
    exact h1
   obtain ⟨base, hbase⟩ : ∃ b, W1.drew.heap.size = b := ⟨_, rfl⟩
   rw [hbase] at hrow
   have HBA : Hid (w.heap.size + 1 < base ∧ base ≤ WB.heap.size) := Lib.hid (by
    have h2 := HZB.out
    have h1 : W1.drew.heap.size = w.heap.size + 2 := HSZ1.out
    rw [hbase] at h1 h2
    exact ⟨by omega, h2⟩)
   obtain ⟨hown, hxs⟩ := hrow
   have hall : ∀ l ∈ cs.map (fun p => rC p.1 p.2), l.length = 260 := by
    intro l hl
    obtain ⟨z, hz, rfl⟩ := List.mem_map.1 hl
    exact rC_len (hxs z hz).1.x
   have HALL := Lib.hid hall
   have HXS := Lib.hid hxs
   have HOWN := Lib.hid hown
   obtain ⟨ao1, cap1, rfl, _, _, ⟨_, hcp1, hcp2⟩, _⟩ := Rd.of_own hown
   have hcap1 : cap1 ≤ 9223372036854775807 := by unfold maxLen at hcp2; exact hcp2
   clear hu hall hxs hown hcp2 hbase
   by_cases hq : q = r.length
   ·have HOF3 : Hid (ofO (k :: r) = if mayO (getAll (kind0 k) (nm (k.toNat : Int)) (cs.map Prod.fst)) then some (getAll (kind0 k) (nm (k.toNat : Int)) (cs.map Prod.fst)) else none) := Lib.hid (by rw [HOF2.out, if_pos hq])
    have hqn : ((q : Int) + 1 != (m : Int)) = false := by
     have := HRL.out
     rw [bne_eq_false_iff_eq]; omega
    clear hq
    have HNL := Lib.hid (nm_low (k.toNat : Int))
    have HCS := Lib.hid (chs_str (nm (k.toNat : Int)))
    have HS3 : Hid ((strB (nm (k.toNat : Int))).size = (nm (k.toNat : Int)).length) := Lib.hid (str_size _)
    have hs3 : (strB (nm (k.toNat : Int))).size ≤ 3 := by rw [str_size]; exact nm_len _
    have HI : Hid (ROfM w.heap.size base w0 w WB (kind0 k) WB) := Lib.hid ⟨HXB.out, ⟨_, HX3.out, Rd.of_own (World.ownsRow_nil w0 0 5 1)⟩, fun _ _ _ => rfl, HBB.out, Nat.le_refl _, HBA.out.1⟩
    generalize hs : strB (nm (k.toNat : Int)) = s at *
    have HS := Lib.hid hs
    have HLN : Hid (cs.length = s.size) := Lib.hid (by rw [hll, HS3.out])
    obtain ⟨L, hL⟩ : ∃ L, cs.length = L := ⟨_, rfl⟩
    rw [hL] at hcp1 ⊢
    have hLs : L = s.size := by rw [← hL]; exact HLN.out
    subst hLs
    clear hs hL hll
    go_wp2_with fail
    clear hqn
    go_loopw [9] (fun i wr => ∃ pos : Nat, pos ≤ s.size ∧ i = .int .i64 (pos : Int) ∧ ROfM w.heap.size base w0 w WB (getAll (kind0 k) ((nm (k.toNat : Int)).take pos) ((cs.map Prod.fst).take pos)) wr) (fun i _ => s.size - (intOf i).toNat)
    case atStart => exact ⟨0, by omega, rfl, HI.out⟩
    case round =>
     obtain ⟨pos, hp, rfl, hmm⟩ := hrel
     have HM := Lib.hid hmm
     clear hmm
     by_cases hlt : pos < s.size
     ·obtain ⟨sl, hbx2, hso⟩ := HM.out.bx
      clear hso
      have hget := chs_get hlt
      rw [HCS.out] at hget
      obtain ⟨⟨x, sx⟩, hx⟩ : ∃ x, cs[pos]? = some x := ⟨_, List.getElem?_eq_getElem (by rw [HLN.out]; exact hlt)⟩
      have hx1 : (cs.map Prod.fst)[pos]? = some x := by rw [List.getElem?_map, hx]; rfl
      obtain ⟨x', hx', hvo⟩ := vts_get HVT.out hget
      obtain rfl : x = x' := by rw [hx1] at hx'; exact Option.some.inj hx'
      have HRX : Hid (Rd w0 1 sx x.b.length (bV x.b)) := Lib.hid (HXS.out (x, sx) (List.mem_of_getElem? hx)).2
      obtain ⟨g, rfl⟩ : ∃ g, ao1 = some ⟨g, 0, none⟩ := by
       rcases HOWN.out.2 with ⟨hv, hn0⟩ | ⟨g, cap', cur, hv, _⟩
       ·have := HLN.out; omega
       ·simp at hv; exact ⟨g, hv.1⟩
      have hfl : ∀ (i : Nat) (u : Value), (rC x sx)[i]? = some u → wr.cell? ⟨g, pos * 260 + i, none⟩ = some u := by
       intro i u hi
       obtain ⟨_, _, he, _, _, _, hc⟩ := Rd.of_own HOWN.out
       obtain ⟨b1, o1, e1, _, h1⟩ := hc _ _ (flat_get HALL.out (j := pos) (l := rC x sx) (by rw [List.getElem?_map, hx]; rfl) hi)
       obtain ⟨rfl, _, _⟩ := Value.slice.inj he
       obtain ⟨rfl, rfl⟩ : b1 = g ∧ o1 = 0 := by injection (Option.some.inj e1) with q1 q2; exact ⟨q1.symm, q2.symm⟩
       rw [Nat.zero_add] at h1
       obtain ⟨q1, q2⟩ := HOWN.out.lt b1 rfl
       exact (World.cell?_of_block (HM.out.mid b1 q1 q2)).trans h1
      have f1 := hfl 1 _ (rC_get x sx).1
      have f3 := hfl 3 _ (rC_get x sx).2.2
      have HGN : Hid (getAll (kind0 k) ((nm (k.toNat : Int)).take (pos + 1)) ((cs.map Prod.fst).take (pos + 1)) = getL (getAll (kind0 k) ((nm (k.toNat : Int)).take pos) ((cs.map Prod.fst).take pos)) (s[pos]'hlt) x) := Lib.hid (getAll_take hget hx1)
      have h6 := HNM.out _ (List.mem_of_getElem? hget)
      clear hget hx hx1 hx' hfl
      generalize hc : (s[pos]'hlt) = c at HGN hvo h6
      rcases h6 with rfl | rfl | rfl | rfl | rfl | rfl
      ·have hcn : ((s[pos]'hlt).toNat : Int) = 118 := by rw [hc]; rfl
       have HST : Hid (ROfM w.heap.size base w0 w WB (getAll (kind0 k) ((nm (k.toNat : Int)).take (pos + 1)) ((cs.map Prod.fst).take (pos + 1))) (wr.setCell ⟨w.heap.size + 1, 1, none⟩ (.int .u64 (x.n : Int)))) := Lib.hid (by
        rw [HGN.out]
        exact HM.out.store 1 _ (fun sb h => ⟨sb, rfl, h⟩))
       have hcl : ∃ z, wr.cell? ⟨w.heap.size + 1, 1, none⟩ = some z := ⟨_, cellIs hbx2 rfl⟩
       have hfz : wr.frozen? ⟨w.heap.size + 1, 1, none⟩ = false := frozenOf hbx2 1
       clear hc
       obtain ⟨z, hcl⟩ := hcl
       clear hbx2 HM
       go_wp2_with fail
       go_roundw
       case rel => exact ⟨pos + 1, by omega, by go_num, HST.out⟩
       case measure => simp [intOf]; omega
      ·have hcn : ((s[pos]'hlt).toNat : Int) = 116 := by rw [hc]; rfl
       have HST : Hid (ROfM w.heap.size base w0 w WB (getAll (kind0 k) ((nm (k.toNat : Int)).take (pos + 1)) ((cs.map Prod.fst).take (pos + 1))) (wr.setCell ⟨w.heap.size + 1, 2, none⟩ (.int .u64 (x.n : Int)))) := Lib.hid (by
        rw [HGN.out]
        exact HM.out.store 2 _ (fun sb h => ⟨sb, rfl, h⟩))
       have hcl : ∃ z, wr.cell? ⟨w.heap.size + 1, 2, none⟩ = some z := ⟨_, cellIs hbx2 rfl⟩
       have hfz : wr.frozen? ⟨w.heap.size + 1, 2, none⟩ = false := frozenOf hbx2 2
       clear hc
       obtain ⟨z, hcl⟩ := hcl
       clear hbx2 HM
       go_wp2_with fail
       go_roundw
       case rel => exact ⟨pos + 1, by omega, by go_num, HST.out⟩
       case measure => simp [intOf]; omega
      ·have hcn : ((s[pos]'hlt).toNat : Int) = 115 := by rw [hc]; rfl
       have hlv := valLt hvo rfl
       have hwr : IntKind.i64.wrap (x.n : Int) = x.n := IntWalk.i64_in _ (by omega)
       clear hlv
       have HST : Hid (ROfM w.heap.size base w0 w WB (getAll (kind0 k) ((nm (k.toNat : Int)).take (pos + 1)) ((cs.map Prod.fst).take (pos + 1))) (wr.setCell ⟨w.heap.size + 1, 3, none⟩ (.int .i64 (x.n : Int)))) := Lib.hid (by
        rw [HGN.out]
        exact HM.out.store 3 _ (fun sb h => ⟨sb, rfl, h⟩))
       have hcl : ∃ z, wr.cell? ⟨w.heap.size + 1, 3, none⟩ = some z := ⟨_, cellIs hbx2 rfl⟩
       have hfz : wr.frozen? ⟨w.heap.size + 1, 3, none⟩ = false := frozenOf hbx2 3
       clear hc
       obtain ⟨z, hcl⟩ := hcl
       clear hbx2 HM
       go_wp2_with fail
       go_roundw
       case rel => exact ⟨pos + 1, by omega, by go_num, HST.out⟩
       case measure => simp [intOf]; omega
      ·have hcn : ((s[pos]'hlt).toNat : Int) = 97 := by rw [hc]; rfl
       have hlv := valLt hvo rfl
       have hwr : IntKind.i64.wrap (x.n : Int) = x.n := IntWalk.i64_in _ (by omega)
       clear hlv
       have HST : Hid (ROfM w.heap.size base w0 w WB (getAll (kind0 k) ((nm (k.toNat : Int)).take (pos + 1)) ((cs.map Prod.fst).take (pos + 1))) (wr.setCell ⟨w.heap.size + 1, 4, none⟩ (.int .i64 (x.n : Int)))) := Lib.hid (by
        rw [HGN.out]
        exact HM.out.store 4 _ (fun sb h => ⟨sb, rfl, h⟩))
       have hcl : ∃ z, wr.cell? ⟨w.heap.size + 1, 4, none⟩ = some z := ⟨_, cellIs hbx2 rfl⟩
       have hfz : wr.frozen? ⟨w.heap.size + 1, 4, none⟩ = false := frozenOf hbx2 4
       clear hc
       obtain ⟨z, hcl⟩ := hcl
       clear hbx2 HM
       go_wp2_with fail
       go_roundw
       case rel => exact ⟨pos + 1, by omega, by go_num, HST.out⟩
       case measure => simp [intOf]; omega
      ·have hcn : ((s[pos]'hlt).toNat : Int) = 99 := by rw [hc]; rfl
       have hlv := valLt hvo rfl
       have hwr : IntKind.i64.wrap (x.n : Int) = x.n := IntWalk.i64_in _ (by omega)
       clear hlv
       have HST : Hid (ROfM w.heap.size base w0 w WB (getAll (kind0 k) ((nm (k.toNat : Int)).take (pos + 1)) ((cs.map Prod.fst).take (pos + 1))) (wr.setCell ⟨w.heap.size + 1, 5, none⟩ (.int .i64 (x.n : Int)))) := Lib.hid (by
        rw [HGN.out]
        exact HM.out.store 5 _ (fun sb h => ⟨sb, rfl, h⟩))
       have hcl : ∃ z, wr.cell? ⟨w.heap.size + 1, 5, none⟩ = some z := ⟨_, cellIs hbx2 rfl⟩
       have hfz : wr.frozen? ⟨w.heap.size + 1, 5, none⟩ = false := frozenOf hbx2 5
       clear hc
       obtain ⟨z, hcl⟩ := hcl
       clear hbx2 HM
       go_wp2_with fail
       go_roundw
       case rel => exact ⟨pos + 1, by omega, by go_num, HST.out⟩
       case measure => simp [intOf]; omega
      ·have hcn : ((s[pos]'hlt).toNat : Int) = 100 := by rw [hc]; rfl
       obtain ⟨aox, capx, rfl, _⟩ := HRX.out
       have HST : Hid (ROfM w.heap.size base w0 w WB (getAll (kind0 k) ((nm (k.toNat : Int)).take (pos + 1)) ((cs.map Prod.fst).take (pos + 1))) (wr.setCell ⟨w.heap.size + 1, 6, none⟩ (.slice aox x.b.length capx))) := Lib.hid (by
        rw [HGN.out]
        exact HM.out.store 6 _ (fun sb h => ⟨_, rfl, HRX.out⟩))
       have hcl : ∃ z, wr.cell? ⟨w.heap.size + 1, 6, none⟩ = some z := ⟨_, cellIs hbx2 rfl⟩
       have hfz : wr.frozen? ⟨w.heap.size + 1, 6, none⟩ = false := frozenOf hbx2 6
       clear hc
       obtain ⟨z, hcl⟩ := hcl
       clear hbx2 HM
       go_wp2_with fail
       go_roundw
       case rel => exact ⟨pos + 1, by omega, by go_num, HST.out⟩
       case measure => simp [intOf]; omega
     ·obtain rfl : pos = s.size := by omega
      obtain ⟨sl, hbx, hso⟩ := HM.out.bx
      have htk : (nm (k.toNat : Int)).take s.size = nm (k.toNat : Int) := List.take_of_length_le (by rw [HS3.out]; exact Nat.le_refl _)
      have htl : (cs.map Prod.fst).take s.size = cs.map Prod.fst := List.take_of_length_le (by rw [List.length_map, HLN.out]; exact Nat.le_refl _)
      rw [htk, htl] at hbx hso
      have hok : (getAll (kind0 k) (nm (k.toNat : Int)) (cs.map Prod.fst)).Ok := getAll_ok HVT.out (fun c hc => HNM.out c hc) (kind0_ok k)
      have hdl : (getAll (kind0 k) (nm (k.toNat : Int)) (cs.map Prod.fst)).data.length ≤ 1000000 := by
       refine getAll_dlen (Nat.zero_le _) fun v hv => ?_
       have h1 := HBL.out v hv
       rw [HRL.out] at h1
       omega
      generalize getAll (kind0 k) (nm (k.toNat : Int)) (cs.map Prod.fst) = od at *
      have HSO := Lib.hid hso
      obtain ⟨aos, caps, rfl, _⟩ := hso
      have CM := rmayO_any od hok aos caps wr hdl
      rw [mayR_mayO] at CM
      obtain ⟨CO, hCO, hcl, hco⟩ : ∃ CO : List Value, oC od (.slice aos od.data.length caps) = CO.toArray ∧ CO.length = 7 ∧ CO.toArray.all (·.oneCell') = true := ⟨_, rfl, rfl, by kernel_rfl⟩
      have HRC : Hid (wr.rangeAt (w.heap.size + 1) 0 CO) := Lib.hid (fun j z hj => by
       rw [Nat.zero_add]
       refine cellIs hbx ?_
       rw [hCO]; simpa using hj)
      have HIC : Hid ((Tryz.prog.info? 70).map (·.size) = some CO.length) := Lib.hid (by rw [hcl]; exact infoOp)
      have HIC2 : Hid ((Tryz.prog.info? 70).map (·.size) = some CO.toArray.size) := Lib.hid (by rw [List.size_toArray, hcl]; exact infoOp)
      have HSZ : Hid (CO.toArray.size = 7) := Lib.hid (by rw [List.size_toArray]; exact hcl)
      have HCL := Lib.hid (And.intro hcl hco)
      have HCO := Lib.hid hCO
      rw [hCO] at CM
      have HCM := Lib.hid CM
      clear CM hCO hcl hco hbx htk htl hok hdl
      go_wp2_with (refine wpList_load_mid rfl 70 _ rfl (w.heap.size + 1) 0 rfl CO _ HRC.out Tryz.underlying70 rfl HIC.out ?_)
      refine HCM.out.mono ?_
      rintro e WC ⟨rfl, hb5⟩
      have HM5 := Lib.hid (HM.out.mono hb5)
      have HBB : Hid (Below w.heap.size w WC) := Lib.hid HM5.out.below
      have HXB : Hid (WC.heap[w.heap.size]? = some (.cells zO.toArray 70 (0, 0))) := Lib.hid HM5.out.rb
      have HRC5 : Hid (WC.rangeAt (w.heap.size + 1) 0 CO) := Lib.hid (rangeAt_below HRC.out HM.out.lt.1 hb5)
      have HTH : Hid (WC.there w.heap.size 0 7) := Lib.hid (there_of HXB.out rfl)
      clear hb5
      cases hmy : mayO od with
      | false =>
       have HE : Hid (ofO (k :: r) = none) := Lib.hid (by rw [HOF3.out, hmy]; rfl)
       clear hmy
       have HFIN : Hid (Below w.heap.size w (WC.setCells w.heap.size 0 zO)) := Lib.hid (belowSetC (Nat.le_refl _) _ _ _ HBB.out)
       go_wp2_with (refine wpList_store_mid rfl 70 _ _ rfl w.heap.size 0 zO.toArray rfl rfl HTH.out infoZO oneZO ?_)
       exact bodyPost_ret (v := .tuple #[.agg zO.toArray, .bool false]) (resO rfl _ _ _ _ rfl rfl rfl HTH.out) rfl (ROOfP.none_of HE.out rfl HFIN.out)
      | true =>
       have HE : Hid (ofO (k :: r) = some od) := Lib.hid (by rw [HOF3.out, hmy]; rfl)
       clear hmy
       have HTH2 : Hid (WC.there w.heap.size 0 CO.toArray.size) := Lib.hid (by rw [HSZ.out]; exact HTH.out)
       have HFIN : Hid (Below w.heap.size w (WC.setCells w.heap.size 0 CO)) := Lib.hid (belowSetC (Nat.le_refl _) _ _ _ HBB.out)
       go_wp2_with (first
        | (refine wpList_load_mid rfl 70 _ rfl (w.heap.size + 1) 0 rfl CO _ HRC5.out Tryz.underlying70 rfl HIC.out ?_)
        | (refine wpList_store_mid rfl 70 _ _ rfl w.heap.size 0 CO.toArray rfl rfl HTH2.out HIC2.out HCL.out.2 ?_))
       exact bodyPost_ret (v := .tuple #[.agg CO.toArray, .bool true]) (resO rfl _ _ _ _ rfl rfl HCL.out.1 HTH.out) rfl (ROOfP.some_of HE.out (by rw [HCO.out]) HSO.out HFIN.out)
   ·have HE : Hid (ofO (k :: r) = none) := Lib.hid (by rw [HOF2.out, if_neg hq])
    have hqn : ((q : Int) + 1 != (m : Int)) = true := by
     have := HRL.out
     rw [bne_iff_ne]; omega
    clear hq hll
    have HTH : Hid (WB.there w.heap.size 0 7) := Lib.hid (there_of HXB.out rfl)
    have HFIN : Hid (Below w.heap.size w (WB.setCells w.heap.size 0 zO)) := Lib.hid (belowSetC (Nat.le_refl _) _ _ _ HBB.out)
    go_wp2_with (refine wpList_store_mid rfl 70 _ _ rfl w.heap.size 0 zO.toArray rfl rfl HTH.out infoZO oneZO ?_)
    exact bodyPost_ret (v := .tuple #[.agg zO.toArray, .bool false]) (resO rfl _ _ _ _ rfl rfl rfl HTH.out) rfl (ROOfP.none_of HE.out rfl HFIN.out)
end Go.Proofs.YtgkelbdgdhkeoaaGreat
