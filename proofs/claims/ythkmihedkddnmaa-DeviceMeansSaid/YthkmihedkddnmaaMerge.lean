/- part.Merge and part.Cut, walked, where they may be. -/
import Derived.Test.YthkmihedkddnmaaWA
import Derived.Laws.CopyOwn
import Derived.Laws.ResultCell
namespace Go.Proofs.Ythkmihedkddnmaa
open Go.RowKit
set_option linter.unusedVariables false
set_option linter.unusedSimpArgs false

/-- copy into a block that is known whole: just that block changes. -/
theorem run_copy_mid {P : Program} (w : World) (dT sT rT : TypeId) (elem : TypeId) (hu : P.underlying dT = some (.slice elem)) (hsz : (P.info? elem).map (·.size) = some 1)
    (dp sp : Option Addr) (dLen dCap sLen sCap : Nat) (g off : Nat) (cur : List Value) (t : TypeId) (hg : w.heap[g]? = some (.cells cur.toArray t (0, 0))) (cs : List Value) (hn : cs.length = Nat.min sLen dLen)
    (hpos : 0 < cs.length → dp = some ⟨g, off, none⟩ ∧ ∃ ad, sp = some ad ∧ ∀ j v, cs[j]? = some v → w.cell? (ad.add j) = some v)
    (hfit : off + cs.length ≤ cur.length) (h1 : ∀ v ∈ cs, v.oneCell' = true) :
    ∃ w', (Builtin.copy_ #[dT, sT] rT #[.slice dp dLen dCap, .slice sp sLen sCap]).run P w = .ok (.int .i64 (cs.length : Int)) w' ∧ w'.heap[g]? = some (.cells (splice cur off cs).toArray t (0, 0)) ∧ Mods [g] w w' := by
  by_cases h0 : cs.length = 0
  · obtain rfl : cs = [] := List.eq_nil_of_length_eq_zero h0
    exact ⟨w, run_copy_none (P := P) w dT sT rT elem dp sp dLen dCap sLen sCap hu hsz (by simpa using hn.symm), (by simpa [splice] using hg), Mods.refl _ _⟩
  · obtain ⟨rfl, ad, rfl, hsrc⟩ := hpos (by omega)
    exact ⟨_, run_copy_row (P := P) w dT sT rT elem g off dLen dCap ad sLen sCap cur.toArray t cs hu hsz hg hn hsrc (by simpa using hfit) h1, (by simpa [splice] using setRow_heap w g _ _ t _ hg), rfl, rfl, rfl, by simp [World.setRow], fun k hk hn => setRow_other w g k _ (by simpa using hn)⟩

/-- A block with data from a sector on. -/
def mergeB (b : List UInt8) (f : Nat) (d : List UInt8) : List UInt8 := splice b (f * 64) d
def cutB (b : List UInt8) (f t : Nat) : List UInt8 := (b.drop (f * 64)).take ((t - f) * 64)
theorem bV_splice (b d : List UInt8) (o : Nat) : splice (bV b) o (bV d) = bV (splice b o d) := by
  unfold splice
  simp only [bV, List.map_append, List.map_take, List.map_drop, List.length_map]
theorem mergeB_len {b d : List UInt8} {f : Nat} (h : f * 64 + d.length ≤ b.length) : (mergeB b f d).length = b.length := length_splice _ _ _ h
theorem cut_merge {b d : List UInt8} {f t : Nat} (hf : f ≤ t) (hd : d.length = (t - f) * 64) (h : t * 64 ≤ b.length) : cutB (mergeB b f d) f t = d := by
  unfold cutB mergeB splice
  have e : (b.take (f * 64)).length = f * 64 := by rw [List.length_take]; omega
  rw [List.drop_append_of_le_length (by omega), List.drop_eq_nil_of_le (by omega), List.nil_append, ← hd, List.take_left]
theorem merge_cut {b d : List UInt8} {f t : Nat} (hf : f ≤ t) (hd : d.length = (t - f) * 64) (h : t * 64 ≤ b.length) : mergeB (mergeB b f d) f (cutB b f t) = b := by
  have hc : (cutB b f t).length = (t - f) * 64 := by unfold cutB; rw [List.length_take, List.length_drop]; omega
  have hft : f * 64 + (t - f) * 64 = t * 64 := by omega
  have e : (b.take (f * 64)).length = f * 64 := by rw [List.length_take]; omega
  have h1 : (mergeB b f d).take (f * 64) = b.take (f * 64) := by
    unfold mergeB splice
    rw [List.take_append_of_le_length (by omega), List.take_of_length_le (by omega)]
  have h2 : (mergeB b f d).drop (t * 64) = b.drop (t * 64) := by
    unfold mergeB splice
    rw [← List.append_assoc]
    have e2 : (b.take (f * 64) ++ d).length = t * 64 := by rw [List.length_append]; omega
    rw [show t * 64 = (b.take (f * 64) ++ d).length from e2.symm, List.drop_left, e2]
    rw [hd, hft]
  have h3 : mergeB (mergeB b f d) f (cutB b f t) = (mergeB b f d).take (f * 64) ++ (cutB b f t ++ (mergeB b f d).drop (f * 64 + (cutB b f t).length)) := rfl
  rw [h3, hc, hft, h1, h2]
  unfold cutB
  rw [← List.append_assoc, show b.drop (t * 64) = (b.drop (f * 64)).drop ((t - f) * 64) by rw [List.drop_drop, hft], List.append_assoc, List.take_append_drop, List.take_append_drop]

theorem zszM : Try.zeroCells42.size = 256 := by kernel_rfl
theorem infoBlk : (Try.prog.info? 42).map (·.size) = some 256 := by kernel_rfl
theorem undBlk8 : Try.prog.underlying 5 = some (.int .u8) := Try.underlying5

theorem run_sliceL (w : World) (g f : Nat) (hf : f ≤ 4) : ∃ dp, (f < 4 → dp = some ⟨g, f * 64, none⟩) ∧ ∀ W, (Instr.sliceAt 42 (.pointer (some ⟨g, 0, none⟩)) (some (.int .i64 ((f : Int) * 64))) none none).run Try.prog W = .ok (.slice dp (256 - f * 64) (256 - f * 64)) W := by
  have hl : Try.prog.arrayLen 42 = 256 := by kernel_rfl
  have hs : ∀ W, (sizeOf (Try.prog.elem 42)).run Try.prog W = .ok 1 W := fun W => by kernel_rfl
  refine ⟨if 256 = f * 64 then some ⟨g, 0, none⟩ else some ⟨g, f * 64, none⟩, fun h => by rw [if_neg (by omega)], fun W => ?_⟩
  rw [run_sliceAt_array_l (P := Try.prog) W 42 ⟨g, 0, none⟩ (by kernel_rfl) .i64 ((f : Int) * 64) (by omega) (by rw [hl]; omega), hs, hl]
  simp only [Result.andThen_ok, slicedAt, show ((f : Int) * 64).toNat = f * 64 by omega]
  by_cases h : 256 = f * 64
  · rw [if_pos h, if_pos h]
  · rw [if_neg h, if_neg h, Nat.mul_one, Addr.add_lit, Nat.zero_add]

theorem res_blk {fn : Func} {p u : Tmp} (h : fn.results = #[.cell p 42, .tmp u]) (tmps : Array Value) (w : World) (g : Nat) (L : List UInt8) (x : Value) (hp : tmps.getD p undef = .pointer (some ⟨g, 0, none⟩)) (hx : tmps.getD u undef = x) (hr : w.rangeAt g 0 (bV L)) (hl : L.length = 256) :
    (results fn tmps).run Try.prog w = .ok (.tuple #[bA L, x]) w := by
  rw [results_cell_tmp h, hp, hx]
  have := run_loadVar_mid (P := Try.prog) w g 0 42 (bV L) _ hr Try.underlying42 rfl (by rw [bV_len, hl]; exact infoBlk)
  simp only [asAddr, Sem.run_pure, Result.andThen_ok, this]
  rfl

theorem run_sliceLH (g f t : Nat) (hf : f < t) (ht : t ≤ 4) : ∀ W, (Instr.sliceAt 42 (.pointer (some ⟨g, 0, none⟩)) (some (.int .i64 ((f : Int) * 64))) (some (.int .i64 ((t : Int) * 64))) none).run Try.prog W = .ok (.slice (some ⟨g, f * 64, none⟩) ((t - f) * 64) (256 - f * 64)) W := fun W => by
  have hl : Try.prog.arrayLen 42 = 256 := by kernel_rfl
  have hs : ∀ W, (sizeOf (Try.prog.elem 42)).run Try.prog W = .ok 1 W := fun W => by kernel_rfl
  rw [run_sliceAt_array_lh (P := Try.prog) W 42 ⟨g, 0, none⟩ (by kernel_rfl) .i64 .i64 ((f : Int) * 64) ((t : Int) * 64) (by omega) (by omega) (by rw [hl]; omega), hs, hl]
  simp only [Result.andThen_ok, slicedAt, show ((f : Int) * 64).toNat = f * 64 by omega, show ((t : Int) * 64).toNat = t * 64 by omega]
  rw [if_neg (by omega), Nat.mul_one, Addr.add_lit, Nat.zero_add, Nat.sub_mul]
theorem belowSet {B b : Nat} {a : World} (hb : B ≤ b) : ∀ (vs : List Value) (o : Nat) (w : World), Below B a w → Below B a (w.setCells b o vs)
  | [], _, _, h => h
  | v :: r, o, w, h => by
    rw [World.setCells]
    exact belowSet hb r (o + 1) _ (h.setCell (p := ⟨b, o, none⟩) hb v)

set_option maxRecDepth 100000 in
set_option maxHeartbeats 3200000 in
theorem merge_ok (b : List UInt8) (hb : b.length = 256) (f : Nat) (hf : f ≤ 4) (v : Value) (n : Nat) (d : List UInt8) (w : World) (hrd : Rd w 1 v n (bV d)) (hn : n % 64 = 0) (hn2 : n ≤ (4 - f) * 64) :
    Calls Try.prog 38 #[bA b, .int .i64 (f : Int), v] w fun e w' => e = .returned (.tuple #[bA (mergeB b f d), .int .i64 0]) ∧ Below w.heap.size w w' := by
  have hdl : d.length = n := by obtain ⟨_, _, _, hl, _⟩ := hrd; simpa [bV] using hl
  have HDL := Lib.hid hdl
  have HRD := Lib.hid hrd
  obtain ⟨ao, cap, rfl, _, _, ⟨_, hc1, hc2⟩, hcell⟩ := hrd
  unfold maxLen at hc2
  have HCELL := Lib.hid hcell
  obtain ⟨dp, hdp, hsl⟩ := run_sliceL w w.heap.size f hf
  have HDP := Lib.hid hdp
  have hzz := zszM
  have hbl : (bV b).length = 256 := by rw [bV_len, hb]
  have HBL := Lib.hid hbl
  have HB := Lib.hid hb
  have hra : ((w.alloc (.cells (bV b).toArray 42)).alloc (.cells Try.zeroCells42 42)).rangeAt w.heap.size 0 (bV b) := World.rangeAt_alloc (fun j u hj => by
    rw [Nat.zero_add]
    exact cellOf' (heap_alloc_new w _) j (by simpa using hj)) _
  have hi : (Try.prog.info? 42).map (·.size) = some (bV b).length := by rw [hbl]; exact infoBlk
  have HR := Lib.hid (And.intro hra hi)
  have hst := run_storeNew (P := Try.prog) ((w.alloc (.cells (bV b).toArray 42)).alloc (.cells Try.zeroCells42 42)) 42 Try.zeroCells42 (bV b).toArray (by rw [hzz]; simp [hbl]) (by simpa using bV_one b)
  rw [World.size_alloc, World.size_alloc] at hst
  have hxs : (bV b).toArray.size = 256 := by simp [hbl]
  have HSPL : Hid (splice (bV b) (f * 64) (bV d) = bV (mergeB b f d)) := Lib.hid (bV_splice b d _)
  have HD1 := Lib.hid (bV_one d)
  have HML : Hid ((mergeB b f d).length = 256) := Lib.hid (by rw [mergeB_len (by omega), hb])
  have hn3 : ¬ ((4 - (f : Int)) * 64 < (n : Int)) := by omega
  have hn4 : (n : Int) % 64 = 0 := by omega
  unfold bA
  generalize mergeB b f d = M at *
  generalize hBV : bV b = X at *
  generalize hXA : X.toArray = XA at *
  have HXA := Lib.hid hXA
  clear hdl hcell hdp hbl hra hi hb hXA
  have HW : Hid (((((w.alloc (.cells XA 42)).alloc (.cells Try.zeroCells42 42)).alloc (.cells XA 42)).heap[w.heap.size]? = some (.cells X.toArray 42 (0, 0)) ∧
      (((w.alloc (.cells XA 42)).alloc (.cells Try.zeroCells42 42)).alloc (.cells XA 42)).heap[w.heap.size + 1]? = some (.cells Try.zeroCells42 42 (0, 0)) ∧
      (((w.alloc (.cells XA 42)).alloc (.cells Try.zeroCells42 42)).alloc (.cells XA 42)).heap[w.heap.size + 1 + 1]? = some (.cells X.toArray 42 (0, 0))) ∧
      Below w.heap.size w (((w.alloc (.cells XA 42)).alloc (.cells Try.zeroCells42 42)).alloc (.cells XA 42))) := Lib.hid (by
    rw [HXA.out]
    refine ⟨⟨?_, ?_, ?_⟩, balloc (balloc (balloc (Below.refl _ _) _) _) _⟩
    · rw [Below.heap_alloc _ _ _ (by simp; omega), Below.heap_alloc _ _ _ (by simp), heap_alloc_new]
    · rw [Below.heap_alloc _ _ _ (by simp)]
      have := heap_alloc_new (w.alloc (.cells XA 42)) (.cells Try.zeroCells42 42)
      rwa [World.size_alloc] at this
    · have := heap_alloc_new ((w.alloc (.cells XA 42)).alloc (.cells Try.zeroCells42 42)) (.cells XA 42)
      rwa [World.size_alloc, World.size_alloc] at this)
  have HSRC : Hid (0 < (bV d).length → dp = some ⟨w.heap.size, f * 64, none⟩ ∧ ∃ ad, ao = some ad ∧ ∀ j v, (bV d)[j]? = some v → (((w.alloc (.cells XA 42)).alloc (.cells Try.zeroCells42 42)).alloc (.cells XA 42)).cell? (ad.add j) = some v) := Lib.hid (fun h0 => by
    have h1 : 0 < d.length := by simpa [bV_len] using h0
    refine ⟨HDP.out (by rw [HDL.out] at h1; omega), ?_⟩
    obtain ⟨b1, off1, ha, _, _⟩ := HCELL.out 0 _ (List.getElem?_eq_getElem h0)
    refine ⟨⟨b1, off1, none⟩, ha, fun j v hj => ?_⟩
    obtain ⟨b2, off2, ha2, hlt, hcell⟩ := HCELL.out j v hj
    rw [ha] at ha2
    obtain ⟨rfl, rfl⟩ : b1 = b2 ∧ off1 = off2 := by simpa using ha2
    rw [Addr.add_lit]
    exact (HW.out.2.cell (p := ⟨b1, off1 + j, none⟩) hlt).trans hcell)
  have hbd : (bV d).length = n := by rw [bV_len, HDL.out]
  have HBD := Lib.hid hbd
  have hmn : n = Nat.min n (256 - f * 64) := (Nat.min_eq_left (by omega)).symm
  have HMN := Lib.hid hmn
  clear hbd hmn
  obtain ⟨w2, hcp, hg2, hm2⟩ := run_copy_mid (P := Try.prog) (((w.alloc (.cells XA 42)).alloc (.cells Try.zeroCells42 42)).alloc (.cells XA 42)) 25 25 3 5 Try.underlying25 (by kernel_rfl) dp ao (256 - f * 64) (256 - f * 64) n cap w.heap.size (f * 64) X 42 HW.out.1.1 (bV d) (by rw [HBD.out]; exact HMN.out) HSRC.out (by rw [HBD.out, HBL.out]; omega) HD1.out
  rw [HBD.out] at hcp
  rw [HSPL.out] at hg2
  have hra2 : w2.rangeAt w.heap.size 0 (bV M) := fun j u hj => by
    rw [Nat.zero_add]
    exact cellOf' hg2 j (by simpa using hj)
  have h21 : w2.heap[w.heap.size + 1]? = some (.cells Try.zeroCells42 42 (0, 0)) := (hm2.block _ (Array.getElem?_eq_some_iff.1 HW.out.1.2.1).1 (by simp)).trans HW.out.1.2.1
  have h22 : w2.heap[w.heap.size + 1 + 1]? = some (.cells X.toArray 42 (0, 0)) := (hm2.block _ (Array.getElem?_eq_some_iff.1 HW.out.1.2.2).1 (by simp; omega)).trans HW.out.1.2.2
  have hrx2 : w2.rangeAt (w.heap.size + 1 + 1) 0 X := fun j u hj => by
    rw [Nat.zero_add]
    exact cellOf' h22 j (by simpa using hj)
  have hth : w2.there (w.heap.size + 1) 0 (bV M).toArray.size := fun j hj => by
    have hj : j < 256 := by simpa [bV_len, HML.out] using hj
    rw [Nat.zero_add]
    exact ⟨by rw [cell_of_row w2 _ j _ _ _ h21, Array.getElem?_eq_getElem (by rw [hzz]; exact hj)]; rfl, frozenOf h21 j⟩
  have hbw2 : Below w.heap.size w w2 := HW.out.2.trans (hm2.below (by simp) HW.out.2.size)
  have hbm : (bV M).length = 256 := by rw [bV_len, HML.out]
  have him : (Try.prog.info? 42).map (·.size) = some (bV M).length := by rw [hbm]; exact infoBlk
  have hix : (Try.prog.info? 42).map (·.size) = some X.length := by rw [HBL.out]; exact infoBlk
  have him2 : (Try.prog.info? 42).map (·.size) = some (bV M).toArray.size := by rw [List.size_toArray]; exact him
  have hone : ∀ u ∈ bV M, u.oneCell' = true := bV_one M
  have HF := Lib.hid (And.intro hra2 (And.intro hrx2 (And.intro hth (And.intro hbw2 (And.intro him (And.intro hix (And.intro him2 hone)))))))
  have heq : ∀ W, (binOp .eql 42 (.agg (bV M).toArray) (.agg XA)).run Try.prog W = .ok (.bool (M == b)) W := fun W => by
    have := run_eql_bytes (P := Try.prog) W (t := 42) (e := 5) (n := 256) Try.underlying42 Try.underlying5 rfl rfl M b HML.out HB.out
    unfold bA at this
    rw [hBV, HXA.out] at this
    exact this
  have HMB : Hid (M = b → XA = (bV M).toArray) := Lib.hid (fun e => by rw [e, hBV, HXA.out])
  clear hra2 hrx2 hth hbw2 him hix him2 hone hbm h21 h22 hm2 hg2
  go_enter Try.func38, Try.ntmps38
  go_wp2_with fail
  refine wp_load_mid 42 _ rfl w.heap.size 0 rfl X _ HR.out.1 Try.underlying42 rfl HR.out.2 ?_
  rw [HXA.out]
  go_wp2_with fail
  refine wp_load_mid 42 _ rfl w.heap.size 0 rfl (bV M) _ HF.out.1 Try.underlying42 rfl HF.out.2.2.2.2.1 ?_
  go_wp2_with fail
  refine wp_load_mid 42 _ rfl (w.heap.size + 1 + 1) 0 rfl X _ HF.out.2.1 Try.underlying42 rfl HF.out.2.2.2.2.2.1 ?_
  rw [HXA.out]
  have hend : ∀ {fn : Func} {p u : Tmp} (tmps : Array Value), fn.results = #[.cell p 42, .tmp u] → tmps.getD p undef = .pointer (some ⟨w.heap.size + 1, 0, none⟩) → tmps.getD u undef = .int .i64 0 →
      (results fn tmps).run Try.prog (w2.setCells (w.heap.size + 1) 0 (bV M)) = .ok (.tuple #[.agg (bV M).toArray, .int .i64 0]) (w2.setCells (w.heap.size + 1) 0 (bV M)) := fun tmps h hp hx =>
    res_blk h tmps _ _ M _ hp hx (World.rangeAt_setCells_same w2 _ _ _ (by have := HF.out.2.2.1; rwa [List.size_toArray] at this)) HML.out
  have HE : Hid (∀ {fn : Func} {p u : Tmp} (tmps : Array Value), fn.results = #[.cell p 42, .tmp u] → tmps.getD p undef = .pointer (some ⟨w.heap.size + 1, 0, none⟩) → tmps.getD u undef = .int .i64 0 →
      (results fn tmps).run Try.prog (w2.setCells (w.heap.size + 1) 0 (bV M)) = .ok (.tuple #[.agg (bV M).toArray, .int .i64 0]) (w2.setCells (w.heap.size + 1) 0 (bV M))) := Lib.hid hend
  have hbe : Below w.heap.size w (w2.setCells (w.heap.size + 1) 0 (bV M)) := belowSet (by omega) _ _ _ HF.out.2.2.2.1
  have HBE := Lib.hid hbe
  clear hend hbe hcp hst
  cases hq : (M == b) with
  | true =>
    rw [hq] at heq
    have HXM := Lib.hid (HMB.out (eq_of_beq hq))
    clear hq
    go_wp2_with fail
    refine wp_load_mid 42 _ rfl (w.heap.size + 1 + 1) 0 rfl X _ HF.out.2.1 Try.underlying42 rfl HF.out.2.2.2.2.2.1 ?_
    rw [HXA.out, HXM.out]
    clear heq
    go_wp2_with (refine wpList_store_mid rfl 42 _ _ rfl (w.heap.size + 1) 0 (bV M).toArray rfl rfl HF.out.2.2.1 HF.out.2.2.2.2.2.2.1 (all_oneCell_toArray HF.out.2.2.2.2.2.2.2) ?_)
    exact bodyPost_ret (v := .tuple #[.agg (bV M).toArray, .int .i64 0]) (HE.out _ rfl rfl rfl) rfl ⟨rfl, HBE.out⟩
  | false =>
    rw [hq] at heq
    clear hq
    go_wp2_with fail
    refine wp_load_mid 42 _ rfl w.heap.size 0 rfl (bV M) _ HF.out.1 Try.underlying42 rfl HF.out.2.2.2.2.1 ?_
    clear heq
    go_wp2_with (refine wpList_store_mid rfl 42 _ _ rfl (w.heap.size + 1) 0 (bV M).toArray rfl rfl HF.out.2.2.1 HF.out.2.2.2.2.2.2.1 (all_oneCell_toArray HF.out.2.2.2.2.2.2.2) ?_)
    exact bodyPost_ret (v := .tuple #[.agg (bV M).toArray, .int .i64 0]) (HE.out _ rfl rfl rfl) rfl ⟨rfl, HBE.out⟩

set_option maxRecDepth 100000 in
set_option maxHeartbeats 3200000 in
theorem cut_ok (b : List UInt8) (hb : b.length = 256) (blk : Int) (f t : Nat) (hf : f < t) (ht : t ≤ 4) (w : World) :
    Calls Try.prog 41 #[bA b, .agg #[.int .i64 blk, .int .i64 (f : Int), .int .i64 (t : Int)]] w fun e w' => ∃ v', e = .returned v' ∧ w'.ownsRow w.heap.size 5 1 v' ((t - f) * 64) (bV (cutB b f t)) ∧ Below w.heap.size w w' := by
  have hs1 := run_sliceLH w.heap.size f t (by omega) ht
  have hb2 : Below w.heap.size w ((w.alloc (.cells (bV b).toArray 42)).alloc (.cells #[.int .i64 blk, .int .i64 (f : Int), .int .i64 (t : Int)] 81)) := balloc (balloc (Below.refl _ _) _) _
  have hn := Rd.new w 42 b 256 hb (by omega)
  have hn2 := (hn.below (balloc (Below.refl _ _) (.cells #[.int .i64 blk, .int .i64 (f : Int), .int .i64 (t : Int)] 81))).cut (l := f * 64) (k := t * 64) (by omega) (by omega)
  rw [Nat.mul_one, Nat.mul_one, ← Nat.sub_mul, show ((bV b).drop (f * 64)).take ((t - f) * 64) = bV (cutB b f t) from by unfold cutB; simp [bV, List.map_take, List.map_drop]] at hn2
  have hcu : cutA (some ⟨w.heap.size, 0, none⟩) 256 (f * 64) 1 = some ⟨w.heap.size, f * 64, none⟩ := by
    unfold cutA
    rw [if_neg (by omega), Nat.mul_one, Option.map_some, Addr.add_lit, Nat.zero_add]
  rw [hcu] at hn2
  have HN2 := Lib.hid hn2
  have HB2 := Lib.hid hb2
  clear hn hn2 hcu hb2
  unfold bA
  generalize (bV b).toArray = XA at *
  go_enter Try.func41, Try.ntmps41
  go_wp2_with fail
  refine (clone8 _ _ (cutB b f t) _ HN2.out (by omega)).mono ?_
  rintro e w1 ⟨v1, rfl, ho, hb1⟩
  have HO := Lib.hid (ownsRow_base (base' := w.heap.size) ho (by simp; omega))
  have HB1 := Lib.hid (bthen HB2.out hb1)
  clear ho hb1
  go_wp2_with fail
  go_ret
  exact ⟨_, rfl, HO.out, HB1.out⟩
end Go.Proofs.Ythkmihedkddnmaa
