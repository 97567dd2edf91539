/- Devices: Block, walked. -/
import Derived.Test.YthkmihedkddnmaaDev20
namespace Go.Proofs.Ythkmihedkddnmaa
open Go.RowKit Go.Maps Wire Cmd
set_option linter.unusedVariables false
set_option linter.unusedSimpArgs false

/-- What is at a number, be it below nought. -/
def getI {α : Type} (k : Int) (m : List (Nat × α)) : Option α := if k < 0 then none else getA k.toNat m
theorem getI_nat {α : Type} (k : Nat) (m : List (Nat × α)) : getI (k : Int) m = getA k m := by
  unfold getI
  rw [if_neg (by omega)]
  rfl
theorem enc_neg {α H : Type} (q : IntKind) (f : α → DataW H) (k : Int) (hk : k < 0) (m : List (Nat × α)) : (encA q f m).find? (fun p => p.1.sameKey (.int q k)) = none := by
  rw [List.find?_eq_none]
  intro p hp
  obtain ⟨x, hx, rfl⟩ := List.mem_map.1 hp
  simp only [Lit.sameKey, true_and, decide_eq_true_eq]
  omega
theorem at_enc_neg {α H : Type} (q : IntKind) (f : α → DataW H) (k : Int) (hk : k < 0) (l : List (Nat × α)) (z : DataW H) : (encM q f l).atKey (.int q k) z = z := by
  have h := enc_neg q f k hk l
  unfold encM DataW.atKey
  dsimp only
  rw [h]
theorem fldVol (w : World) (s : Int) (p : Option Nat) : (Instr.field 53 (.agg #[.int .i64 s, .map p]) 1).run Try.prog w = .ok (.map p) w := by kernel_rfl
theorem MapL.blkOk {w : World} {b : Nat} {m : List (Nat × List UInt8)} (h : MapL w Try.prog 3 RBlk .i64 blkD b m) {k : Int} (hk : -9223372036854775808 ≤ k ∧ k ≤ 9223372036854775807) :
    (Instr.lookup 51 (.map (some b)) (.int .i64 k) true).run Try.prog w = .ok (.tuple #[bA ((getI k m).getD zeroB), .bool (getI k m).isSome]) w := by
  have hw : (Lit.int .i64 k).wf = true := by
    have e1 : IntKind.i64.min = -9223372036854775808 := rfl
    have e2 : IntKind.i64.max = 9223372036854775807 := rfl
    simp [Lit.wf, e1, e2]
    omega
  obtain ⟨v, ps, h1, h2⟩ := World.ownsMap.look_ok (show w.ownsMap _ _ _ b m.length (encM .i64 blkD m) from h) (int_keyed undInt) undBlks (zeroBlk w) (RBlk_mk (b := zeroB) (by unfold zeroB; rw [List.length_replicate])) (keyOf_int_mk undInt hw)
  have hat : (encM .i64 blkD m).atKey (.int .i64 k) (blkD zeroB) = blkD ((getI k m).getD zeroB) ∧ Maps.has (encM .i64 blkD m) (.int .i64 k) = (getI k m).isSome := by
    unfold getI
    by_cases hn : k < 0
    · rw [if_pos hn]
      refine ⟨?_, ?_⟩
      · rw [at_enc_neg .i64 blkD k hn m]
        rfl
      · show (encA .i64 blkD m).any _ = _
        rw [Bool.eq_iff_iff]
        simp only [Option.isSome_none, Bool.false_eq_true, iff_false, Bool.not_eq_true]
        rw [List.any_eq_false]
        intro p hp
        have := List.find?_eq_none.1 (enc_neg .i64 blkD k hn m) p hp
        simpa using this
    · rw [if_neg hn]
      obtain ⟨kn, rfl⟩ : ∃ kn : Nat, k = (kn : Int) := ⟨k.toNat, by omega⟩
      rw [at_enc, has_enc, Int.toNat_natCast]
      refine ⟨?_, rfl⟩
      cases getA kn m <;> rfl
  rw [hat.1] at h2
  rw [hat.2] at h1
  obtain ⟨_, rfl, _⟩ := RBlk_inv h2
  exact h1
theorem nilBlk (w : World) (k : Int) (hk : -9223372036854775808 ≤ k ∧ k ≤ 9223372036854775807) : (Instr.lookup 51 (.map none) (.int .i64 k) true).run Try.prog w = .ok (.tuple #[bA zeroB, .bool false]) w := by
  have hw : (Lit.int .i64 k).wf = true := by
    have e1 : IntKind.i64.min = -9223372036854775808 := rfl
    have e2 : IntKind.i64.max = 9223372036854775807 := rfl
    simp [Lit.wf, e1, e2]
    omega
  exact Maps.look_nil true (int_keyed undInt) undBlks (zeroBlk w) (keyOf_int_mk undInt hw)
/-- A block in a box, whole. -/
theorem blkBox {X : World} {b : Nat} {c : List UInt8} (h : X.heap[b]? = some (.cells (bV c).toArray 42 (0, 0))) : X.rangeAt b 0 (bV c) := fun j u hj => by
  rw [Nat.zero_add]
  exact cellOf' h j (by simpa using hj)
theorem infoB {c : List UInt8} (h : c.length = 256) : (Try.prog.info? 42).map (·.size) = some (bV c).length := by rw [bV_len, h]; exact infoBlk
theorem blkThere {X : World} {b : Nat} (h : X.heap[b]? = some (.cells Try.zeroCells42 42 (0, 0))) {c : List UInt8} (hc : c.length = 256) : X.there b 0 (bV c).toArray.size := fun j hj => by
  have hj : j < 256 := by simpa [bV_len, hc] using hj
  rw [Nat.zero_add]
  exact ⟨by rw [cell_of_row X _ j _ _ _ h, Array.getElem?_eq_getElem (by rw [zszM]; exact hj)]; rfl, frozenOf h j⟩
/-- The end of Block: what was looked up, and is it there? -/
theorem blkEnd {fn : Func} {p u : Tmp} {X : World} {b : Nat} {c : List UInt8} {y : Value} (tmps : Array Value) (h : fn.results = #[.cell p 42, .tmp u]) (hp : tmps.getD p undef = .pointer (some ⟨b, 0, none⟩)) (hx : tmps.getD u undef = y)
    (hb : X.heap[b]? = some (.cells Try.zeroCells42 42 (0, 0))) (hc : c.length = 256) : (results fn tmps).run Try.prog (X.setCells b 0 (bV c)) = .ok (.tuple #[bA c, y]) (X.setCells b 0 (bV c)) :=
  res_blk h tmps _ _ c _ hp hx (World.rangeAt_setCells_same X _ _ _ (by have := blkThere hb hc; rwa [List.size_toArray] at this)) hc
theorem zcells : Try.zeroCells42 = (bV zeroB).toArray := by kernel_rfl
theorem zoneBlk : Try.zeroCells42.all (·.oneCell') = true := by kernel_rfl
set_option maxRecDepth 100000 in
set_option maxHeartbeats 3200000 in
theorem dblock_in (n0 : Nat) (w : World) (B Ba : Nat) (l : List (Nat × (Vl × Nat))) (h : DevAt n0 w B Ba l) (n : Nat) (hn : n < 18446744073709551616) (x : Vl × Nat) (hg : getA n l = some x) (k : Int) (hk : -9223372036854775808 ≤ k ∧ k ≤ 9223372036854775807) :
    Calls Try.prog 13 #[.pointer (some ⟨B, 0, none⟩), .int .u64 (n : Int), .int .i64 k] w fun e w' => e = .returned (.tuple #[bA ((getI k x.1.m).getD zeroB), .bool (getI k x.1.m).isSome]) ∧ Below w.heap.size w w' := by
  obtain ⟨w1, hw1⟩ : ∃ W, w.alloc (.cells Try.zeroCells42 42) = W := ⟨_, rfl⟩
  have hb1 : Below w.heap.size w w1 := by rw [← hw1]; exact balloc (Below.refl _ _) _
  have HZ1 : Hid (w1.heap[w.heap.size]? = some (.cells Try.zeroCells42 42 (0, 0))) := Lib.hid (by rw [← hw1]; exact heap_alloc_new w _)
  have hd1 := h.below hb1
  have HB1 := Lib.hid hb1
  have CT := dthere_any w1 _ true hd1.dv
  have c0 := hd1.cell
  obtain ⟨_, hl⟩ := hd1.look hn hg
  have hl2 := (hd1.vol _ (getA_some hg)).blkOk hk
  have hvok := h.ok.vol (n, x.1) (by unfold strip mapA; exact List.mem_map.2 ⟨_, getA_some hg, rfl⟩)
  obtain ⟨c, hc2⟩ : ∃ c, (getI k x.1.m).getD zeroB = c := ⟨_, rfl⟩
  obtain ⟨q, hq⟩ : ∃ q, (getI k x.1.m).isSome = q := ⟨_, rfl⟩
  have hc : c.length = 256 := by
    rw [← hc2]
    unfold getI
    split
    · show zeroB.length = 256
      unfold zeroB
      rw [List.length_replicate]
    · exact blkAt_len hvok.blk k.toNat
  dsimp only at hl2
  rw [hc2, hq] at hl2 ⊢
  clear hc2 hq hvok h hd1 hb1 hg
  unfold bA at hl2
  go_enter Try.func13, Try.ntmps13
  go_wp2_with fail
  refine CT.mono ?_
  rintro e w1' ⟨rfl, rfl⟩
  clear hw1 CT
  have hfl := fldVol
  have hst : (storeCells ⟨w1.heap.size, 0, none⟩ (bV c)).run Try.prog (w1.alloc (.cells Try.zeroCells42 42)) = .ok () (w1.alloc (.cells (bV c).toArray 42)) := by
    have := run_storeNew (P := Try.prog) w1 42 Try.zeroCells42 (bV c).toArray (by rw [zszM]; simp [bV_len, hc]) (by simpa using bV_one c)
    simpa using this
  have hcs : (bV c).toArray.size = 256 := by simp [bV_len, hc]
  have hx2 := heap_alloc_new w1 (.cells (bV c).toArray 42)
  have hx1 : (w1.alloc (.cells (bV c).toArray 42)).heap[w.heap.size]? = some (.cells Try.zeroCells42 42 (0, 0)) := (Below.heap_alloc _ _ _ (Array.getElem?_eq_some_iff.1 HZ1.out).1).trans HZ1.out
  have HX := Lib.hid (And.intro hx1 hx2)
  have HC := Lib.hid hc
  clear hx1 hx2 hc
  go_wp2_with fail
  obtain ⟨w2, hw2⟩ : ∃ W, w1.alloc (.cells (bV c).toArray 42) = W := ⟨_, rfl⟩
  have hb2 : Below w1.heap.size w1 w2 := by rw [← hw2]; exact balloc (Below.refl _ _) _
  rw [hw2] at HX ⊢
  clear hw2 hst
  have HB2 := Lib.hid (bthen HB1.out hb2)
  clear hb2
  refine wp_load_mid (P := Try.prog) 42 _ rfl w1.heap.size 0 rfl (bV c) _ (blkBox HX.out.2) Try.underlying42 rfl (infoB HC.out) ?_
  go_wp2_with (refine wpList_store_mid rfl 42 _ _ rfl w.heap.size 0 (bV c).toArray rfl rfl (blkThere HX.out.1 HC.out) (by rw [List.size_toArray]; exact infoB HC.out) (all_oneCell_toArray (bV_one c)) ?_)
  refine bodyPost_ret (v := .tuple #[bA c, .bool q]) (blkEnd _ rfl rfl rfl HX.out.1 HC.out) rfl ⟨rfl, ?_⟩
  exact belowSet (Nat.le_refl _) _ _ _ HB2.out
set_option maxRecDepth 100000 in
set_option maxHeartbeats 3200000 in
theorem dblock_out (n0 : Nat) (w : World) (B Ba : Nat) (l : List (Nat × (Vl × Nat))) (h : DevAt n0 w B Ba l) (n : Nat) (hn : n < 18446744073709551616) (hg : getA n l = none) (k : Int) (hk : -9223372036854775808 ≤ k ∧ k ≤ 9223372036854775807) :
    Calls Try.prog 13 #[.pointer (some ⟨B, 0, none⟩), .int .u64 (n : Int), .int .i64 k] w fun e w' => e = .returned (.tuple #[bA zeroB, .bool false]) ∧ Below w.heap.size w w' := by
  obtain ⟨w1, hw1⟩ : ∃ W, w.alloc (.cells Try.zeroCells42 42) = W := ⟨_, rfl⟩
  have hb1 : Below w.heap.size w w1 := by rw [← hw1]; exact balloc (Below.refl _ _) _
  have HZ1 : Hid (w1.heap[w.heap.size]? = some (.cells Try.zeroCells42 42 (0, 0))) := Lib.hid (by rw [← hw1]; exact heap_alloc_new w _)
  have hd1 := h.below hb1
  have HB1 := Lib.hid hb1
  have CT := dthere_any w1 _ true hd1.dv
  have c0 := hd1.cell
  obtain ⟨_, hl⟩ := hd1.lookNo hn hg
  have hl2 := nilBlk w1 k hk
  obtain ⟨c, hc2⟩ : ∃ c, zeroB = c := ⟨_, rfl⟩
  obtain ⟨q, hq⟩ : ∃ q, false = q := ⟨_, rfl⟩
  have hc : c.length = 256 := by
    rw [← hc2]
    unfold zeroB
    rw [List.length_replicate]
  rw [hc2, hq] at hl2
  rw [hc2, hq]
  clear hc2 hq h hd1 hb1 hg
  unfold bA at hl2
  go_enter Try.func13, Try.ntmps13
  go_wp2_with fail
  refine CT.mono ?_
  rintro e w1' ⟨rfl, rfl⟩
  clear hw1 CT
  have hfl := fldVol
  have hst : (storeCells ⟨w1.heap.size, 0, none⟩ (bV c)).run Try.prog (w1.alloc (.cells Try.zeroCells42 42)) = .ok () (w1.alloc (.cells (bV c).toArray 42)) := by
    have := run_storeNew (P := Try.prog) w1 42 Try.zeroCells42 (bV c).toArray (by rw [zszM]; simp [bV_len, hc]) (by simpa using bV_one c)
    simpa using this
  have hcs : (bV c).toArray.size = 256 := by simp [bV_len, hc]
  have hx2 := heap_alloc_new w1 (.cells (bV c).toArray 42)
  have hx1 : (w1.alloc (.cells (bV c).toArray 42)).heap[w.heap.size]? = some (.cells Try.zeroCells42 42 (0, 0)) := (Below.heap_alloc _ _ _ (Array.getElem?_eq_some_iff.1 HZ1.out).1).trans HZ1.out
  have HX := Lib.hid (And.intro hx1 hx2)
  have HC := Lib.hid hc
  clear hx1 hx2 hc
  go_wp2_with fail
  obtain ⟨w2, hw2⟩ : ∃ W, w1.alloc (.cells (bV c).toArray 42) = W := ⟨_, rfl⟩
  have hb2 : Below w1.heap.size w1 w2 := by rw [← hw2]; exact balloc (Below.refl _ _) _
  rw [hw2] at HX ⊢
  clear hw2 hst
  have HB2 := Lib.hid (bthen HB1.out hb2)
  clear hb2
  refine wp_load_mid (P := Try.prog) 42 _ rfl w1.heap.size 0 rfl (bV c) _ (blkBox HX.out.2) Try.underlying42 rfl (infoB HC.out) ?_
  go_wp2_with (refine wpList_store_mid rfl 42 _ _ rfl w.heap.size 0 (bV c).toArray rfl rfl (blkThere HX.out.1 HC.out) (by rw [List.size_toArray]; exact infoB HC.out) (all_oneCell_toArray (bV_one c)) ?_)
  refine bodyPost_ret (v := .tuple #[bA c, .bool q]) (blkEnd _ rfl rfl rfl HX.out.1 HC.out) rfl ⟨rfl, ?_⟩
  exact belowSet (Nat.le_refl _) _ _ _ HB2.out
set_option maxRecDepth 100000 in
set_option maxHeartbeats 3200000 in
theorem dblock_no (w : World) (v : Value) (n k : Int) (h : DevV w v false) :
    Calls Try.prog 13 #[v, .int .u64 n, .int .i64 k] w fun e w' => e = .returned (.tuple #[bA zeroB, .bool false]) ∧ Below w.heap.size w w' := by
  obtain ⟨w1, hw1⟩ : ∃ W, w.alloc (.cells Try.zeroCells42 42) = W := ⟨_, rfl⟩
  have hb1 : Below w.heap.size w w1 := by rw [← hw1]; exact balloc (Below.refl _ _) _
  have HZ1 : Hid (w1.heap[w.heap.size]? = some (.cells Try.zeroCells42 42 (0, 0))) := Lib.hid (by rw [← hw1]; exact heap_alloc_new w _)
  have HB1 := Lib.hid hb1
  have CT := dthere_any w1 v false (h.below hb1)
  clear h hb1
  go_enter Try.func13, Try.ntmps13
  go_wp2_with fail
  refine CT.mono ?_
  rintro e w1' ⟨rfl, rfl⟩
  clear hw1 CT
  have hz : zeroB.length = 256 := by
    unfold zeroB
    rw [List.length_replicate]
  have HZ := Lib.hid hz
  have hth := blkThere HZ1.out hz
  rw [← zcells] at hth
  have HTH := Lib.hid hth
  have HEN : Hid (∀ {fn : Func} {p u : Tmp} (tmps : Array Value), fn.results = #[.cell p 42, .tmp u] → tmps.getD p undef = .pointer (some ⟨w.heap.size, 0, none⟩) → tmps.getD u undef = .bool false →
      (results fn tmps).run Try.prog (w1.setCells w.heap.size 0 (bV zeroB)) = .ok (.tuple #[bA zeroB, .bool false]) (w1.setCells w.heap.size 0 (bV zeroB))) := Lib.hid (fun tmps h hp hx => blkEnd tmps h hp hx HZ1.out HZ.out)
  clear hz hth
  go_wp2_with (refine wpList_store_mid rfl 42 _ _ rfl w.heap.size 0 Try.zeroCells42 rfl rfl HTH.out (by rw [zszM]; exact infoBlk) zoneBlk ?_)
  have hl : Try.zeroCells42.toList = bV zeroB := by rw [zcells]
  rw [hl]
  refine bodyPost_ret (v := .tuple #[bA zeroB, .bool false]) (HEN.out _ rfl rfl rfl) rfl ⟨rfl, ?_⟩
  exact belowSet (Nat.le_refl _) _ _ _ HB1.out
end Go.Proofs.Ythkmihedkddnmaa
