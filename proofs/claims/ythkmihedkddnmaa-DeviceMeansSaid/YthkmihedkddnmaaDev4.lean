/- Devices: how their maps read. -/
import Derived.Maps.OwnSet
import Derived.Test.YthkmihedkddnmaaDev2
import Derived.Test.YthkmihedkddnmaaWA
namespace Go.Proofs.Ythkmihedkddnmaa
open Go.RowKit Go.Maps
set_option linter.unusedVariables false
set_option linter.unusedSimpArgs false

/-- A block as a map's element. -/
def blkD (b : List UInt8) : DataW Unit := .agg (b.map fun x => .lit (.int .u8 (x.toNat : Int)))
theorem blkD_inj {a b : List UInt8} (h : blkD a = blkD b) : a = b := by
  unfold blkD at h
  have h1 := DataW.agg.inj h
  induction a generalizing b with
  | nil => cases b with
    | nil => rfl
    | cons y b => simp at h1
  | cons x a ih => cases b with
    | nil => simp at h1
    | cons y b =>
      simp only [List.map_cons, List.cons.injEq, DataW.lit.injEq, Lit.int.injEq, true_and] at h1
      have e : x = y := UInt8.toNat_inj.1 (by omega)
      rw [e, ih (by rw [h1.2]) h1.2]
theorem bA_inj {a b : List UInt8} (h : bA a = bA b) : a = b := by
  unfold bA at h
  have h1 := Value.agg.inj h
  have h2 : bV a = bV b := by simpa using congrArg Array.toList h1
  refine List.ext_getElem? fun i => ?_
  have h3 : (bV a)[i]? = (bV b)[i]? := by rw [h2]
  rw [bV_get?, bV_get?] at h3
  cases ha : a[i]? with
  | none => rw [ha] at h3; cases hb : b[i]? with
    | none => rfl
    | some y => rw [hb] at h3; simp at h3
  | some x => rw [ha] at h3; cases hb : b[i]? with
    | none => rw [hb] at h3; simp at h3
    | some y =>
      rw [hb] at h3
      simp only [Option.map_some, Option.some.injEq, Value.int.injEq, true_and] at h3
      have e : x = y := UInt8.toNat_inj.1 (by omega)
      rw [e]
open Classical in
noncomputable def RBlk (v : Value) : Option (DataW Unit × List MemPlace) := if h : ∃ b : List UInt8, b.length = 256 ∧ v = bA b then some (blkD h.choose, []) else none
theorem RBlk_mk {b : List UInt8} (h : b.length = 256) : RBlk (bA b) = some (blkD b, []) := by
  have hx : ∃ c : List UInt8, c.length = 256 ∧ bA b = bA c := ⟨b, h, rfl⟩
  unfold RBlk
  rw [dif_pos hx]
  have := bA_inj hx.choose_spec.2
  rw [← this]
theorem RBlk_inv {v : Value} {b : List UInt8} {ps : List MemPlace} (h : RBlk v = some (blkD b, ps)) : b.length = 256 ∧ v = bA b ∧ ps = [] := by
  unfold RBlk at h
  split at h
  · rename_i hx
    simp only [Option.some.injEq, Prod.mk.injEq] at h
    have e := blkD_inj h.1
    have hs := hx.choose_spec
    rw [e] at hs
    exact ⟨hs.1, hs.2, h.2.symm⟩
  · cases h
/-- A volume as a map's element: its size, its blocks' map. -/
def volD (x : Int × Option Nat) : DataW Unit := .agg [.lit (.int .i64 x.1), .lit (.int .i64 (match x.2 with | none => -1 | some b => (b : Int)))]
def RVol (v : Value) : Option (DataW Unit × List MemPlace) :=
  match v with
  | .agg ⟨[.int .i64 s, .map p]⟩ => some (volD (s, p), [])
  | _ => none
theorem RVol_mk (s : Int) (p : Option Nat) : RVol (.agg #[.int .i64 s, .map p]) = some (volD (s, p), []) := rfl
theorem volD_inj {x y : Int × Option Nat} (h : volD x = volD y) : x = y := by
  obtain ⟨a, p⟩ := x
  obtain ⟨b, q⟩ := y
  unfold volD at h
  simp only [DataW.agg.injEq, List.cons.injEq, DataW.lit.injEq, Lit.int.injEq, true_and, and_true] at h
  obtain ⟨rfl, h2⟩ := h
  cases p <;> cases q <;> simp at h2 ⊢ <;> omega
theorem RVol_inv {v : Value} {x : Int × Option Nat} {ps : List MemPlace} (h : RVol v = some (volD x, ps)) : v = .agg #[.int .i64 x.1, .map x.2] ∧ ps = [] := by
  unfold RVol at h
  split at h
  · rename_i s p
    simp only [Option.some.injEq, Prod.mk.injEq] at h
    have e := volD_inj h.1
    subst e
    exact ⟨rfl, h.2.symm⟩
  · cases h

section
variable {α : Type} {P : Program} {k : TypeId} {R : Value → Option (DataW Unit × List MemPlace)} {q : IntKind} {f : α → DataW Unit}
/-- Block b is a map that reads as the list l. -/
def MapL (w : World) (P : Program) (k : TypeId) (R : Value → Option (DataW Unit × List MemPlace)) (q : IntKind) (f : α → DataW Unit) (b : Nat) (l : List (Nat × α)) : Prop := w.ownsMap P k R b l.length (encM q f l)
theorem mapL_of {w : World} {b n : Nat} {l : List (Nat × α)} (h : w.ownsMap P k R b n (encM q f l)) : MapL w P k R q f b l := by
  obtain ⟨es, clock, hb, F, hs, hD⟩ := h
  refine ⟨es, clock, hb, F, ?_, hD⟩
  have h1 := DataW.map.inj hD
  have h2 := congrArg List.length h1
  rw [length_read] at h2
  have h3 : (encA q f l).length = l.length := by simp [encA]
  omega
theorem mapL_new (w : World) (P : Program) (k : TypeId) (R : Value → Option (DataW Unit × List MemPlace)) (q : IntKind) (f : α → DataW Unit) : MapL (w.alloc (.map #[] 0)) P k R q f w.heap.size [] := World.ownsMap_made w P k R
theorem MapL.lt {w : World} {b : Nat} {l : List (Nat × α)} (h : MapL w P k R q f b l) : b < w.heap.size := World.ownsMap.lt h
theorem MapL.at_ {w w' : World} {b : Nat} {l : List (Nat × α)} (h : MapL w P k R q f b l) (hb : w'.heap[b]? = w.heap[b]?) : MapL w' P k R q f b l := by
  obtain ⟨es, clock, h1, h2⟩ := h
  exact ⟨es, clock, hb.trans h1, h2⟩
theorem MapL.below {w w' : World} {b : Nat} {l : List (Nat × α)} (h : MapL w P k R q f b l) (hb : Below w.heap.size w w') : MapL w' P k R q f b l := h.at_ (hb.block _ h.lt)
theorem MapL.mods {w w' : World} {F : List Nat} {b : Nat} {l : List (Nat × α)} (h : MapL w P k R q f b l) (hm : Mods F w w') (hb : b ∉ F) : MapL w' P k R q f b l := h.at_ (hm.block _ h.lt hb)
/-- It is a map's block. -/
theorem MapL.isMap {w : World} {b : Nat} {l : List (Nat × α)} (h : MapL w P k R q f b l) : ∃ es clock, w.heap[b]? = some (.map es clock) := by
  obtain ⟨es, clock, h1, _⟩ := h
  exact ⟨es, clock, h1⟩
theorem keyL {P : Program} {k : TypeId} {q : IntKind} (hk : P.underlying k = some (.int q)) {n : Nat} (hw : (Lit.int q (n : Int)).wf = true) : keyOf P k (.int q (n : Int)) = some (.int q (n : Int)) := keyOf_int_mk hk hw
/-- Looked up. -/
theorem MapL.look {w : World} {b : Nat} {l : List (Nat × α)} (h : MapL w P k R q f b l) (hk : P.underlying k = some (.int q)) {t e : TypeId} (ht : P.underlying t = some (.map k e)) {z : Value} {zd : DataW Unit} {zp : List MemPlace}
    (hz : (zeroValue e).run P w = .ok z w) (hzd : R z = some (zd, zp)) {n : Nat} (hw : (Lit.int q (n : Int)).wf = true) :
    ∃ v ps, (Instr.lookup t (.map (some b)) (.int q (n : Int)) false).run P w = .ok v w ∧ R v = some ((match getA n l with | some a => f a | none => zd), ps) := by
  obtain ⟨v, ps, h1, h2⟩ := World.ownsMap.lookup h (int_keyed hk) ht hz hzd (keyL hk hw)
  rw [at_enc] at h2
  exact ⟨v, ps, h1, h2⟩
theorem MapL.lookOk {w : World} {b : Nat} {l : List (Nat × α)} (h : MapL w P k R q f b l) (hk : P.underlying k = some (.int q)) {t e : TypeId} (ht : P.underlying t = some (.map k e)) {z : Value} {zd : DataW Unit} {zp : List MemPlace}
    (hz : (zeroValue e).run P w = .ok z w) (hzd : R z = some (zd, zp)) {n : Nat} (hw : (Lit.int q (n : Int)).wf = true) :
    ∃ v ps, (Instr.lookup t (.map (some b)) (.int q (n : Int)) true).run P w = .ok (.tuple #[v, .bool (getA n l).isSome]) w ∧ R v = some ((match getA n l with | some a => f a | none => zd), ps) := by
  obtain ⟨v, ps, h1, h2⟩ := World.ownsMap.look_ok h (int_keyed hk) ht hz hzd (keyL hk hw)
  rw [at_enc] at h2
  rw [has_enc] at h1
  exact ⟨v, ps, h1, h2⟩
/-- Written. -/
theorem MapL.put {w : World} {b : Nat} {l : List (Nat × α)} (h : MapL w P k R q f b l) (hk : P.underlying k = some (.int q)) {t e : TypeId} (ht : P.underlying t = some (.map k e)) (hn : l.length < maxLen) {n : Nat} (hw : (Lit.int q (n : Int)).wf = true) {v : Value} {a : α} {ps : List MemPlace} (hv : R v = some (f a, ps)) :
    ∃ w', (Instr.mapUpdate t (.map (some b)) (.int q (n : Int)) v).run P w = .ok () w' ∧ MapL w' P k R q f b (putA n a l) ∧ Mods [b] w w' := by
  obtain ⟨w', h1, h2, h3⟩ := World.ownsMap.update h (int_keyed hk) ht hn (keyL hk hw) hv
  rw [put_enc] at h2
  exact ⟨w', h1, mapL_of h2, ⟨h3.os, h3.tape, h3.output, h3.size, fun i hi hne => h3.block i hi (fun e => hne (by simp [Option.some.inj e]))⟩⟩
/-- Struck. -/
theorem MapL.del {w : World} {b : Nat} {l : List (Nat × α)} (h : MapL w P k R q f b l) (hk : P.underlying k = some (.int q)) {t e : TypeId} (ht : P.underlying t = some (.map k e)) {n : Nat} (hw : (Lit.int q (n : Int)).wf = true) (ty : TypeId) :
    ∃ w', (Builtin.delete_ #[t, k] ty #[.map (some b), .int q (n : Int)]).run P w = .ok (.tuple #[]) w' ∧ MapL w' P k R q f b (delA n l) ∧ Mods [b] w w' := by
  obtain ⟨w', h1, h2, h3⟩ := World.ownsMap.drop h (int_keyed hk) ht (keyL hk hw) ty
  rw [del_enc] at h2
  have h4 := h3.grown
  exact ⟨w', h1, mapL_of h2, ⟨h4.os, h4.tape, h4.output, h4.size, fun i hi hne => h4.block i hi (fun e => hne (by simp [Option.some.inj e]))⟩⟩
theorem MapL.len {w : World} {b : Nat} {l : List (Nat × α)} (h : MapL w P k R q f b l) {t e : TypeId} (ht : P.underlying t = some (.map k e)) (ty : TypeId) : (Builtin.len_ #[t] ty #[.map (some b)]).run P w = .ok (.int .i64 (l.length : Int)) w := by
  have := World.ownsMap.len h ht ty
  rw [size_enc] at this
  exact this
end
end Go.Proofs.Ythkmihedkddnmaa
