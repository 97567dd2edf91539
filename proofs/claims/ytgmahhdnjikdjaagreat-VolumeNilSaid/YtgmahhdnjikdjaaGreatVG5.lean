import Derived.Test.YtgmahhdnjikdjaaGreatVG4
import Derived.Test.YtgmahhdnjikdjaaGreatVG1
import Derived.Laws.CopyOwn
import Derived.Laws.ResultCell
import Derived.Test.YtgmahhdnjikdjaaGreatProg
import Derived.Below
import Derived.Deep.LoopGhost
import Derived.Test.YtgmahhdnjikdjaaGreatVG2
set_option linter.unusedVariables false
set_option linter.unusedSimpArgs false
/- Disks: New, walked. -/
namespace Go.Proofs.YtgmahhdnjikdjaaGreat
open Go.RowKit Wire
set_option linter.unusedVariables false
set_option linter.unusedSimpArgs false
theorem infoSec4 : (Tryz.prog.info? 152).map (fun i => (i.zero, i.size, i.bytes)) = some (some (.agg (List.replicate 64 (Value.int .u8 0)).toArray), 64, 64) := by kernel_rfl
theorem made_rep (v : Value) (k n : Nat) (hk : 0 < k) : (madeCells (List.replicate k v).toArray n).toList = List.replicate n v := by
 rw [List.eq_replicate_iff]
 refine ⟨by rw [Array.length_toList, size_madeCells], fun x hx => ?_⟩
 unfold madeCells at hx
 simp only [Array.toList_map, List.mem_map] at hx
 obtain ⟨i, _, rfl⟩ := hx
 have h1 : i % (List.replicate k v).toArray.size < (List.replicate k v).toArray.size := Nat.mod_lt _ (by simpa using hk)
 rw [getElem!_pos (List.replicate k v).toArray _ h1]
 simp
theorem secsC_zeros (n : Nat) : secsC (List.replicate n (zeros 64)) = List.replicate (n * 64) (Value.int .u8 0) := by
 induction n with
 | zero => rfl
 | succ n ih =>
  rw [List.replicate_succ]
  show bV (zeros 64) ++ secsC (List.replicate n (zeros 64)) = _
  rw [ih, show (n + 1) * 64 = 64 + n * 64 by omega, ← List.replicate_append_replicate]
  congr 1
/-- A new disk. -/
def dk0 (n : Nat) : Dk := ⟨List.replicate n (zeros 64), [], -1, false⟩
theorem dknew_at (w : World) (n : Nat) (h1 : 1 ≤ n) (h2 : n ≤ 8192) : Calls Tryz.prog 21 #[.int .i64 (n : Int)] w fun e w' => ∃ B iv, e = .returned (.tuple #[.pointer (some ⟨B, 0, none⟩), .int .i64 0]) ∧ DkAt w.heap.size w' B iv (.slice none 0 0) (dk0 n) ∧ Below w.heap.size w w' := by
 go_enter Tryz.func21, Tryz.ntmps21
 go_upto_region 3 with fail
 go_wp2_with (refine wpList_mk rfl _ _ 64 rfl w.heap.size 152 _ 64 64 Tryz.underlying64 infoSec4 (by decide) .i64 .i64 (n : Int) (n : Int) n rfl rfl rfl rfl (by omega) (Nat.le_refl _) ?_; intro w1 ho1 hb1)
 go_ret2
 rw [show (Value.agg (List.replicate 64 (Value.int .u8 0)).toArray).cells = (List.replicate 64 (Value.int .u8 0)).toArray from rfl, made_rep _ _ _ (by decide), ← secsC_zeros] at ho1
 have hb2 : Below w1.heap.size w1 (w1.alloc (.cells #[.slice (some ⟨w.heap.size, 0, none⟩) n n, .slice none 0 0, .int .i64 (-1), .bool false] 67)) := balloc (Below.refl _ _) _
 refine ⟨w1.heap.size, .slice (some ⟨w.heap.size, 0, none⟩) n n, rfl, ⟨heap_alloc_new _ _, ?_, World.ownsRow_nil _ _ _ _, fun s hs => ?_, fun p hp => (by cases hp), hb1.size⟩, bthn hb1 hb2⟩
 ·have h3 := ownsRow_below ho1 hb2
  show (w1.alloc _).ownsRow _ _ _ _ (List.replicate n (zeros 64)).length _
  rw [List.length_replicate]
  exact h3
 ·rw [List.eq_of_mem_replicate hs]
  exact List.length_replicate
end Go.Proofs.YtgmahhdnjikdjaaGreat
/- part.Merge and part.Cut, walked, where they may be. -/
namespace Go.Proofs.YtgmahhdnjikdjaaGreat
open Go.RowKit
set_option linter.unusedVariables false
set_option linter.unusedSimpArgs false
/-- copy into a block that is known whole: just that block changes. -/
theorem run_copy_mid {P : Program} (w : World) (dT sT rT : TypeId) (elem : TypeId) (hu : P.underlying dT = some (.slice elem)) (hsz : (P.info? elem).map (·.size) = some 1)
  (dp sp : Option Addr) (dLen dCap sLen sCap : Nat) (g off : Nat) (cur : List Value) (t : TypeId) (hg : w.heap[g]? = some (.cells cur.toArray t (0, 0))) (cs : List Value) (hn : cs.length = Nat.min sLen dLen)
  (hpos : 0 < cs.length → dp = some ⟨g, off, none⟩ ∧ ∃ ad, sp = some ad ∧ ∀ j v, cs[j]? = some v → w.cell? (ad.add j) = some v)
  (hfit : off + cs.length ≤ cur.length) (h1 : ∀ v ∈ cs, v.oneCell' = true) :
  ∃ w', (Builtin.copy_ #[dT, sT] rT #[.slice dp dLen dCap, .slice sp sLen sCap]).run P w = .ok (.int .i64 (cs.length : Int)) w' ∧ w'.heap[g]? = some (.cells (splice cur off cs).toArray t (0, 0)) ∧ Mods [g] w w' := by
 by_cases h0 : cs.length = 0
 ·obtain rfl : cs = [] := List.eq_nil_of_length_eq_zero h0
  exact ⟨w, run_copy_none (P := P) w dT sT rT elem dp sp dLen dCap sLen sCap hu hsz (by simpa using hn.symm), (by simpa [splice] using hg), Mods.refl _ _⟩
 ·obtain ⟨rfl, ad, rfl, hsrc⟩ := hpos (by omega)
  exact ⟨_, run_copy_row (P := P) w dT sT rT elem g off dLen dCap ad sLen sCap cur.toArray t cs hu hsz hg hn hsrc (by simpa using hfit) h1, (by simpa [splice] using setRow_heap w g _ _ t _ hg), rfl, rfl, rfl, by simp [World.setRow], fun k hk hn => setRow_other w g k _ (by simpa using hn)⟩
/-- A block with data from a sector on. -/
def mergeB (b : List UInt8) (f : Nat) (d : List UInt8) : List UInt8 := splice b (f * 64) d
def cutB (b : List UInt8) (f t : Nat) : List UInt8 := (b.drop (f * 64)).take ((t - f) * 64)
theorem bV_splice (b d : List UInt8) (o : Nat) : splice (bV b) o (bV d) = bV (splice b o d) := by
 unfold splice
 simp only [bV, List.map_append, List.map_take, List.map_drop, List.length_map]
theorem zszM : Tryz.zeroCells78.size = 256 := by kernel_rfl
theorem infoBlk : (Tryz.prog.info? 78).map (·.size) = some 256 := by kernel_rfl
theorem run_sliceL (w : World) (g f : Nat) (hf : f ≤ 4) : ∃ dp, (f < 4 → dp = some ⟨g, f * 64, none⟩) ∧ ∀ W, (Instr.sliceAt 78 (.pointer (some ⟨g, 0, none⟩)) (some (.int .i64 ((f : Int) * 64))) none none).run Tryz.prog W = .ok (.slice dp (256 - f * 64) (256 - f * 64)) W := by
 have hl : Tryz.prog.arrayLen 78 = 256 := by kernel_rfl
 have hs : ∀ W, (sizeOf (Tryz.prog.elem 78)).run Tryz.prog W = .ok 1 W := fun W => by kernel_rfl
 refine ⟨if 256 = f * 64 then some ⟨g, 0, none⟩ else some ⟨g, f * 64, none⟩, fun h => by rw [if_neg (by omega)], fun W => ?_⟩
 rw [run_sliceAt_array_l (P := Tryz.prog) W 78 ⟨g, 0, none⟩ (by kernel_rfl) .i64 ((f : Int) * 64) (by omega) (by rw [hl]; omega), hs, hl]
 simp only [Result.andThen_ok, slicedAt, show ((f : Int) * 64).toNat = f * 64 by omega]
 by_cases h : 256 = f * 64
 ·rw [if_pos h, if_pos h]
 ·rw [if_neg h, if_neg h, Nat.mul_one, Addr.add_lit, Nat.zero_add]
theorem res_blk {fn : Func} {p u : Tmp} (h : fn.results = #[.cell p 78, .tmp u]) (tmps : Array Value) (w : World) (g : Nat) (L : List UInt8) (x : Value) (hp : tmps.getD p undef = .pointer (some ⟨g, 0, none⟩)) (hx : tmps.getD u undef = x) (hr : w.rangeAt g 0 (bV L)) (hl : L.length = 256) :
  (results fn tmps).run Tryz.prog w = .ok (.tuple #[bA L, x]) w := by
 rw [results_cell_tmp h, hp, hx]
 have := run_loadVar_mid (P := Tryz.prog) w g 0 78 (bV L) _ hr Tryz.underlying78 rfl (by rw [bV_len, hl]; exact infoBlk)
 simp only [asAddr, Sem.run_pure, Result.andThen_ok, this]
 rfl
theorem run_sliceLH (g f t : Nat) (hf : f < t) (ht : t ≤ 4) : ∀ W, (Instr.sliceAt 78 (.pointer (some ⟨g, 0, none⟩)) (some (.int .i64 ((f : Int) * 64))) (some (.int .i64 ((t : Int) * 64))) none).run Tryz.prog W = .ok (.slice (some ⟨g, f * 64, none⟩) ((t - f) * 64) (256 - f * 64)) W := fun W => by
 have hl : Tryz.prog.arrayLen 78 = 256 := by kernel_rfl
 have hs : ∀ W, (sizeOf (Tryz.prog.elem 78)).run Tryz.prog W = .ok 1 W := fun W => by kernel_rfl
 rw [run_sliceAt_array_lh (P := Tryz.prog) W 78 ⟨g, 0, none⟩ (by kernel_rfl) .i64 .i64 ((f : Int) * 64) ((t : Int) * 64) (by omega) (by omega) (by rw [hl]; omega), hs, hl]
 simp only [Result.andThen_ok, slicedAt, show ((f : Int) * 64).toNat = f * 64 by omega, show ((t : Int) * 64).toNat = t * 64 by omega]
 rw [if_neg (by omega), Nat.mul_one, Addr.add_lit, Nat.zero_add, Nat.sub_mul]
end Go.Proofs.YtgmahhdnjikdjaaGreat
/- super: has, Blocks, Write, walked. -/
namespace Go.Proofs.YtgmahhdnjikdjaaGreat
open Go.RowKit Wire
set_option linter.unusedVariables false
set_option linter.unusedSimpArgs false
set_option maxRecDepth 100000 in
set_option maxHeartbeats 1600000 in
theorem sblocks_any (w : World) (a b : Int) (ha : 0 ≤ a ∧ a ≤ 1000000) (hb : 0 ≤ b ∧ b ≤ 1000000) : Calls Tryz.prog 91 #[.int .i64 a, .int .i64 b] w fun e w' => e = .returned (.int .i64 (2 + a + b)) ∧ w = w' := by
 go_enter Tryz.func91, Tryz.ntmps91
 go_wp2_with fail
 go_ret
 exact ⟨rfl, rfl⟩
theorem shas_ok (n0 : Nat) (w : World) (B : Nat) (iv jv : Value) (d : Dk) (h : DkAt n0 w B iv jv d) (k : Nat) (hk : k * 4 + 4 ≤ d.img.length) (hn : d.img.length ≤ 1000000) : Calls Tryz.prog 68 #[.pointer (some ⟨B, 0, none⟩), .int .i64 (k : Int)] w fun e w' => e = .returned (.int .i64 0) ∧ w = w' := by
 have CS := dsec_at n0 w B iv jv d h
 obtain ⟨n, hnn⟩ : ∃ n, d.img.length = n := ⟨_, rfl⟩
 rw [hnn] at CS hk hn
 have hq : Int.tdiv (n : Int) 4 = ((n / 4 : Nat) : Int) := rfl
 have hw : IntKind.i64.wrap ((n / 4 : Nat) : Int) = ((n / 4 : Nat) : Int) := IntWalk.i64_in _ ⟨by omega, by omega⟩
 have hlt : decide (((n / 4 : Nat) : Int) ≤ (k : Int)) = false := decide_eq_false (by omega)
 clear h hnn
 have CS2 := CS
 go_enter Tryz.func68, Tryz.ntmps68
 go_wp2_with fail
 refine CS.mono ?_
 rintro e w2 ⟨rfl, rfl⟩
 clear CS
 go_wp2_with fail
 refine CS2.mono ?_
 rintro e w2 ⟨rfl, rfl⟩
 clear CS2
 go_wp2_with fail
 go_ret
 exact ⟨rfl, rfl⟩
/-- A block is written up to sector n. -/
def Dk.wrN (d : Dk) (k : Nat) (b : List UInt8) : Nat → Dk
 | 0 => d
 | n + 1 => (d.wrN k b n).wr (k * 4 + n) (sec b n)
theorem Dk.wrN_at (d : Dk) (k : Nat) (b : List UInt8) : ∀ n, (d.wrN k b n).img = wrBn d.img k b n ∧ (d.wrN k b n).left = d.left ∧ (d.wrN k b n).dead = d.dead ∧ (d.wrN k b n).jr.length = d.jr.length + n
 | 0 => ⟨rfl, rfl, rfl, rfl⟩
 | n + 1 => by
  obtain ⟨h1, h2, h3, h4⟩ := Dk.wrN_at d k b n
  refine ⟨?_, h2, h3, ?_⟩
  ·show (d.wrN k b n).img.set _ _ = _
   rw [h1]; rfl
  ·show ((d.wrN k b n).jr ++ [_]).length = _
   rw [List.length_append, h4]; rfl
def Dk.wrK (d : Dk) (k : Nat) (b : List UInt8) : Dk := d.wrN k b 4
/-- A block of another type is none of the disk's. -/
theorem DkAt.apart {n0 : Nat} {w : World} {B g : Nat} {iv jv : Value} {d : Dk} (h : DkAt n0 w B iv jv d) {cs : Array Value} {t : TypeId} {f : Nat × Nat} (hg : w.heap[g]? = some (.cells cs t f)) (h1 : t ≠ 67) (h2 : t ≠ 152) (h3 : t ≠ 229) : g ∉ dF B iv jv := fun hh => by
 rcases List.mem_cons.1 hh with rfl | hh
 ·rw [h.box] at hg
  exact h1 (Obj.cells.inj (Option.some.inj hg)).2.1.symm
 ·rcases List.mem_append.1 hh with hh | hh
  ·exact ob_tag h.img hg h2 hh
  ·exact ob_tag h.jrn hg h3 hh
theorem undSec : Tryz.prog.underlying 152 = some (.array 64 5) := by kernel_rfl
theorem run_arr (g o n c : Nat) (h : 64 ≤ n) : ∀ W, (Instr.arrayAt 152 (.slice (some ⟨g, o, none⟩) n c)).run Tryz.prog W = .ok (.pointer (some ⟨g, o, none⟩)) W := fun W => by
 unfold Instr.arrayAt
 rw [Sem.run_bind, run_underlying undSec W]
 simp only [Result.andThen_ok]
 rw [if_neg (by omega)]
 rfl
theorem sec_range {w : World} {g i : Nat} {b : List UInt8} (h : w.rangeAt g 0 (bV b)) : w.rangeAt g (i * 64) (bV (sec b i)) := fun j u hj => by
 have h1 := h (i * 64 + j) u (by
  rw [bV_get?] at hj ⊢
  unfold sec at hj
  rw [List.getElem?_take] at hj
  split at hj
  ·rwa [List.getElem?_drop] at hj
  ·cases hj)
 rwa [Nat.zero_add] at h1
set_option maxRecDepth 100000 in
set_option maxHeartbeats 6400000 in
theorem swrite_at (n0 : Nat) (w : World) (B : Nat) (iv jv : Value) (d : Dk) (h : DkAt n0 w B iv jv d) (hn0 : n0 ≤ w.heap.size) (hl : d.left < 0) (hd : d.dead = false) (k : Nat) (b : List UInt8) (hb : b.length = 256) (hk : k * 4 + 4 ≤ d.img.length) (hn : d.img.length ≤ 1000000) (hj : d.jr.length ≤ 900000) :
  Calls Tryz.prog 29 #[.pointer (some ⟨B, 0, none⟩), .int .i64 (k : Int), .agg (bV b).toArray] w fun e w' => e = .returned (.int .i64 0) ∧ ∃ jv', DkAt n0 w' B iv jv' (d.wrK k b) ∧ Chg (dF B iv jv) w w' (dF B iv jv') := by
 obtain ⟨w1, hw1⟩ : ∃ W, w.alloc (.cells (bV b).toArray 78) = W := ⟨_, rfl⟩
 have hb1 : Below w.heap.size w w1 := by rw [← hw1]; exact balloc (Below.refl _ _) _
 have HX1 : Hid (w1.heap[w.heap.size]? = some (.cells (bV b).toArray 78 (0, 0))) := Lib.hid (by rw [← hw1]; exact heap_alloc_new _ _)
 have HD1 := Lib.hid (h.below hb1)
 have CH := shas_ok n0 w1 B iv jv d HD1.out k hk hn
 have HC1 : Hid (Chg (dF B iv jv) w w1 (dF B iv jv)) := Lib.hid (Chg.of_below hb1)
 have HBL := Lib.hid hb
 have HLD := Lib.hid (And.intro hl hd)
 have HNB := Lib.hid hn0
 obtain ⟨n, hnn⟩ : ∃ n, d.img.length = n := ⟨_, rfl⟩
 rw [hnn] at hk hn
 have HNN := Lib.hid hnn
 clear h hn0 hl hd hb hb1 hnn
 go_enter Tryz.func29, Tryz.ntmps29
 go_wp2_with fail
 (try rw [hw1])
 clear hw1
 refine CH.mono ?_
 rintro e w2 ⟨rfl, rfl⟩
 clear CH
 go_wp2_with fail
 go_loopw [16] (fun v wr => ∃ (i : Nat) (jv' : Value), i ≤ 4 ∧ v = .int .i64 (i : Int) ∧ DkAt n0 wr B iv jv' (d.wrN k b i) ∧ Chg (dF B iv jv) w wr (dF B iv jv') ∧ wr.heap[w.heap.size]? = some (.cells (bV b).toArray 78 (0, 0))) (fun v _ => 4 - (Go.RowKit.intOf v).toNat)
 case atStart => exact ⟨0, jv, by omega, rfl, HD1.out, HC1.out, HX1.out⟩
 case round =>
  obtain ⟨i, jv', hi, rfl, hdk, hch, hx⟩ := hrel
  have HDK := Lib.hid hdk
  have HCH := Lib.hid hch
  have HX := Lib.hid hx
  clear hdk hch hx
  by_cases hlt : i < 4
  ·have HRA : Hid (wr.rangeAt w.heap.size (i * 64) (bV (sec b i))) := Lib.hid (sec_range (rangeOf HX.out))
   have HSL : Hid ((sec b i).length = 64) := Lib.hid (sec_len HBL.out hlt)
   have hcut : ∀ W, (Instr.sliceAt 78 (.pointer (some ⟨w.heap.size, 0, none⟩)) (some (.int .i64 ((i : Int) * 64))) (some (.int .i64 (((i : Int) + 1) * 64))) none).run Tryz.prog W = .ok (.slice (some ⟨w.heap.size, i * 64, none⟩) 64 (256 - i * 64)) W := fun W => by
    have h := run_sliceLH w.heap.size i (i + 1) (by omega) (by omega) W
    rw [show ((i + 1 : Nat) : Int) = (i : Int) + 1 by omega, show (i + 1 - i) * 64 = 64 by omega] at h
    exact h
   have harr := run_arr w.heap.size (i * 64) 64 (256 - i * 64) (Nat.le_refl _)
   obtain ⟨S, hS⟩ : ∃ S, sec b i = S := ⟨_, rfl⟩
   rw [hS] at HRA HSL
   have CW : Calls Tryz.prog 69 #[.pointer (some ⟨B, 0, none⟩), .int .i64 ((k : Int) * 4 + (i : Int)), .agg (bV S).toArray] wr fun e w' => e = .returned (.int .i64 0) ∧ ∃ jv'', DkAt n0 w' B iv jv'' ((d.wrN k b i).wr (k * 4 + i) S) ∧ Chg (dF B iv jv') wr w' (dF B iv jv'') := by
    obtain ⟨e1, e2, e3, e4⟩ := d.wrN_at k b i
    have hl1 : (d.wrN k b i).img.length = n := by rw [e1, wrBn_len, HNN.out]
    have h1 := dwrite_at n0 wr B iv jv' (d.wrN k b i) HDK.out (Nat.le_trans HNB.out HCH.out.size) (by rw [e2]; exact HLD.out.1) (by rw [e3]; exact HLD.out.2) (k * 4 + i) S HSL.out (by omega) (by omega) (by omega)
    rw [show ((k * 4 + i : Nat) : Int) = (k : Int) * 4 + (i : Int) by omega] at h1
    exact h1
   have HSE := Lib.hid hS
   clear hS
   go_upto_region 7 with fail
   apply wp_region_lit
   repeat (first
    | (refine wpList_load_mid rfl 152 _ rfl w.heap.size (i * 64) rfl (bV S) _ HRA.out Tryz.underlying152 rfl (infoS HSL.out) ?_)
    | go_step)
   refine CW.mono ?_
   rintro e w2 ⟨rfl, jv2, hd2, hc2⟩
   dsimp only
   have HX2 : Hid (w2.heap[w.heap.size]? = some (.cells (bV b).toArray 78 (0, 0))) := Lib.hid ((hc2.1.block _ (Array.getElem?_eq_some_iff.1 HX.out).1 (HDK.out.apart HX.out (by decide) (by decide) (by decide))).trans HX.out)
   have HD2 : Hid (DkAt n0 w2 B iv jv2 (d.wrN k b (i + 1))) := Lib.hid (by show DkAt n0 w2 B iv jv2 ((d.wrN k b i).wr (k * 4 + i) (sec b i)); rw [HSE.out]; exact hd2)
   have HC2 := Lib.hid (HCH.out.trans hc2)
   clear CW hd2 hc2 hcut harr
   go_wp2_with fail
   go_roundw
   case rel => exact ⟨i + 1, jv2, by omega, by go_num, HD2.out, HC2.out, HX2.out⟩
   case measure => simp [Go.RowKit.intOf]; omega
  ·obtain rfl : i = 4 := by omega
   go_wp2_with fail
   go_ret
   exact ⟨rfl, jv', HDK.out, HCH.out⟩
end Go.Proofs.YtgmahhdnjikdjaaGreat
/- super: Read, walked. -/
namespace Go.Proofs.YtgmahhdnjikdjaaGreat
open Go.RowKit Wire
set_option linter.unusedVariables false
set_option linter.unusedSimpArgs false
/-- A block read up to sector n. -/
def curB (img : List (List UInt8)) (k i : Nat) : List UInt8 := ((List.range i).flatMap fun j => img.getD (k * 4 + j) []) ++ zeros (256 - i * 64)
theorem head_len {img : List (List UInt8)} {k : Nat} (h : Secs img) (hk : k * 4 + 4 ≤ img.length) : ∀ i, i ≤ 4 → ((List.range i).flatMap fun j => img.getD (k * 4 + j) []).length = i * 64
 | 0, _ => rfl
 | i + 1, hi => by
  rw [List.range_succ, List.flatMap_append, List.length_append, head_len h hk i (by omega)]
  have : (img.getD (k * 4 + i) []).length = 64 := by
   rw [List.getD_eq_getElem?_getD, List.getElem?_eq_getElem (by omega)]
   exact h _ (List.getElem_mem _)
  simp only [List.flatMap_cons, List.flatMap_nil, List.append_nil, this]
  omega
theorem curB_len {img : List (List UInt8)} {k : Nat} (h : Secs img) (hk : k * 4 + 4 ≤ img.length) {i : Nat} (hi : i ≤ 4) : (curB img k i).length = 256 := by
 unfold curB zeros
 rw [List.length_append, head_len h hk i hi, List.length_replicate]
 omega
theorem curB_next {img : List (List UInt8)} {k : Nat} (h : Secs img) (hk : k * 4 + 4 ≤ img.length) {i : Nat} (hi : i < 4) {s : List UInt8} (hs : img[k * 4 + i]? = some s) : splice (curB img k i) (i * 64) s = curB img k (i + 1) := by
 have hl := head_len h hk i (by omega)
 have hsl : s.length = 64 := h s (List.mem_of_getElem? hs)
 unfold splice curB
 rw [List.take_append_of_le_length (by omega), List.take_of_length_le (by omega), List.range_succ, List.flatMap_append]
 simp only [List.flatMap_cons, List.flatMap_nil, List.append_nil]
 rw [List.getD_eq_getElem?_getD, hs, Option.getD_some, List.append_assoc]
 congr 2
 rw [← hl, List.drop_append, List.drop_eq_nil_of_le (by omega), List.nil_append, Nat.add_sub_cancel_left, hsl]
 unfold zeros
 rw [List.drop_replicate]
 congr 1
 omega
theorem curB_end (img : List (List UInt8)) (k : Nat) : curB img k 4 = rdB img k := by
 unfold curB rdB zeros
 simp
theorem run_sliceSec (g : Nat) : ∀ W, (Instr.sliceAt 152 (.pointer (some ⟨g, 0, none⟩)) none none none).run Tryz.prog W = .ok (.slice (some ⟨g, 0, none⟩) 64 64) W := fun W => by
 have hl : Tryz.prog.arrayLen 152 = 64 := by kernel_rfl
 have hs : ∀ W, (sizeOf (Tryz.prog.elem 152)).run Tryz.prog W = .ok 1 W := fun W => by kernel_rfl
 rw [run_sliceAt_array_all (P := Tryz.prog) W 152 ⟨g, 0, none⟩ (by kernel_rfl), hs, hl]
 simp [Result.andThen_ok, slicedAt, Addr.add_lit]
theorem blk_one (bs : List UInt8) : (bV bs).toArray.all (·.oneCell') = true := Array.all_eq_true_iff_forall_mem.2 (fun v hv => bV_one bs v (by simpa using hv))
/-- Ahead of a sector: what has been read lies in the box. -/
def SRd (w wr : World) (img : List (List UInt8)) (k i : Nat) : Prop := Below w.heap.size w wr ∧ wr.heap[w.heap.size]? = some (.cells (bV (curB img k i)).toArray 78 (0, 0))
theorem srd_next {w wr w3 w4 : World} {img : List (List UInt8)} {k i : Nat} {S : List UInt8} (h : SRd w wr img k i) (hb : Below wr.heap.size wr w3) (hg : w4.heap[w.heap.size]? = some (.cells (splice (bV (curB img k i)) (i * 64) (bV S)).toArray 78 (0, 0))) (hm : Mods [w.heap.size] w3 w4) (hs : Secs img) (hk : k * 4 + 4 ≤ img.length) (hi : i < 4) (hS : img[k * 4 + i]? = some S) : SRd w w4 img k (i + 1) := by
 have hw3 : Below w.heap.size w w3 := bthn h.1 hb
 refine ⟨hw3.trans (hm.below (fun k hk => by rw [List.mem_singleton.1 hk]; exact Nat.le_refl _) hw3.size), ?_⟩
 rw [bV_splice, curB_next hs hk hi hS] at hg
 exact hg
set_option maxRecDepth 100000 in
set_option maxHeartbeats 6400000 in
theorem sread_at (n0 : Nat) (w : World) (B : Nat) (iv jv : Value) (d : Dk) (h : DkAt n0 w B iv jv d) (k : Nat) (hk : k * 4 + 4 ≤ d.img.length) (hn : d.img.length ≤ 1000000) :
  Calls Tryz.prog 63 #[.pointer (some ⟨B, 0, none⟩), .int .i64 (k : Int)] w fun e w' => e = .returned (.tuple #[bA (rdB d.img k), .int .i64 0]) ∧ Below w.heap.size w w' := by
 obtain ⟨w1, hw1⟩ : ∃ W, w.alloc (.cells Tryz.zeroCells78 78) = W := ⟨_, rfl⟩
 have hb1 : Below w.heap.size w w1 := by rw [← hw1]; exact balloc (Below.refl _ _) _
 have HX1 : Hid (SRd w w1 d.img k 0) := Lib.hid ⟨hb1, by
  have e : (bV (curB d.img k 0)).toArray = Tryz.zeroCells78 := by
   show (bV (List.replicate 256 0)).toArray = _
   kernel_rfl
  rw [e, ← hw1]; exact heap_alloc_new _ _⟩
 have HD1 := Lib.hid (h.below hb1)
 have CH := shas_ok n0 w1 B iv jv d HD1.out k hk hn
 have HSEC := Lib.hid h.secs
 have HKN := Lib.hid hk
 have HH := Lib.hid h
 obtain ⟨n, hnn⟩ : ∃ n, d.img.length = n := ⟨_, rfl⟩
 rw [hnn] at hk hn
 have HNN := Lib.hid hnn
 clear h hb1 hnn
 go_enter Tryz.func63, Tryz.ntmps63
 go_wp2_with fail
 (try rw [hw1])
 clear hw1
 refine CH.mono ?_
 rintro e w2 ⟨rfl, rfl⟩
 clear CH
 go_wp2_with fail
 go_loopw [17] (fun v wr => ∃ i : Nat, i ≤ 4 ∧ v = .int .i64 (i : Int) ∧ SRd w wr d.img k i) (fun v _ => 4 - (Go.RowKit.intOf v).toNat)
 case atStart => exact ⟨0, by omega, rfl, HX1.out⟩
 case round =>
  obtain ⟨i, hi, rfl, hsr⟩ := hrel
  have HSR := Lib.hid hsr
  clear hsr
  by_cases hlt : i < 4
  ·obtain ⟨S, hS⟩ : ∃ S, d.img[k * 4 + i]? = some S := ⟨_, List.getElem?_eq_getElem (by rw [HNN.out]; omega)⟩
   have HSG := Lib.hid hS
   have HSL : Hid (S.length = 64) := Lib.hid (HSEC.out S (List.mem_of_getElem? hS))
   have CR : Calls Tryz.prog 117 #[.pointer (some ⟨B, 0, none⟩), .int .i64 ((k : Int) * 4 + (i : Int))] wr fun e w' => e = .returned (.tuple #[.agg (bV S).toArray, .int .i64 0]) ∧ Below wr.heap.size wr w' := by
    have h1 := dread_at n0 wr B iv jv d (HH.out.below HSR.out.1) (k * 4 + i) S hS (by rw [HNN.out]; exact hn)
    rw [show ((k * 4 + i : Nat) : Int) = (k : Int) * 4 + (i : Int) by omega] at h1
    exact h1
   clear hS
   go_wp2_with fail
   refine CR.mono ?_
   rintro e w2 ⟨rfl, hb2⟩
   dsimp only
   have HB2 := Lib.hid hb2
   clear CR hb2
   have hsb : (bV S).toArray.size = 64 := by rw [List.size_toArray, bV_len, HSL.out]
   repeat (first
    | (refine wpList_store_mid rfl 152 _ _ rfl w2.heap.size 0 (bV S).toArray rfl rfl (by rw [hsb]; exact thereOf (heap_alloc_new w2 _) (by simp)) (by rw [hsb]; exact infoSec) (blk_one S) ?_)
    | go_step)
   obtain ⟨q, hq⟩ : ∃ q, w2.heap.size = q := ⟨_, rfl⟩
   obtain ⟨w3, hw3⟩ : ∃ W, (w2.alloc (.cells #[.int .u8 0, .int .u8 0, .int .u8 0, .int .u8 0, .int .u8 0, .int .u8 0, .int .u8 0, .int .u8 0, .int .u8 0, .int .u8 0, .int .u8 0, .int .u8 0, .int .u8 0, .int .u8 0, .int .u8 0, .int .u8 0, .int .u8 0, .int .u8 0, .int .u8 0, .int .u8 0, .int .u8 0, .int .u8 0, .int .u8 0, .int .u8 0, .int .u8 0, .int .u8 0, .int .u8 0, .int .u8 0, .int .u8 0, .int .u8 0, .int .u8 0, .int .u8 0, .int .u8 0, .int .u8 0, .int .u8 0, .int .u8 0, .int .u8 0, .int .u8 0, .int .u8 0, .int .u8 0, .int .u8 0, .int .u8 0, .int .u8 0, .int .u8 0, .int .u8 0, .int .u8 0, .int .u8 0, .int .u8 0, .int .u8 0, .int .u8 0, .int .u8 0, .int .u8 0, .int .u8 0, .int .u8 0, .int .u8 0, .int .u8 0, .int .u8 0, .int .u8 0, .int .u8 0, .int .u8 0, .int .u8 0, .int .u8 0, .int .u8 0, .int .u8 0] 152)).setCells w2.heap.size 0 (bV S) = W := ⟨_, rfl⟩
   have HB3 : Hid (Below wr.heap.size wr w3) := Lib.hid (by rw [← hw3]; exact bthn HB2.out (belowSets (Nat.le_refl _) _ _ _ (balloc (Below.refl _ _) _)))
   have HQ3 : Hid (w3.rangeAt q 0 (bV S)) := Lib.hid (by rw [← hw3, ← hq]; exact World.rangeAt_setCells_same _ _ _ _ (by rw [bV_len, HSL.out]; exact thereOf (heap_alloc_new w2 _) (by simp)))
   have HQL : Hid (w.heap.size < wr.heap.size ∧ wr.heap.size ≤ q) := Lib.hid ⟨(Array.getElem?_eq_some_iff.1 HSR.out.2).1, by rw [← hq]; exact HB2.out.size⟩
   have HQ4 : Hid (q < w3.heap.size) := Lib.hid (by
    obtain ⟨u, hu⟩ : ∃ u, (bV S)[0]? = some u := ⟨_, List.getElem?_eq_getElem (by rw [bV_len, HSL.out]; decide)⟩
    exact World.block_lt_of_cell? w3 _ (HQ3.out 0 u hu))
   rw [hw3, hq]
   clear hw3 hq
   have HX3 : Hid (w3.heap[w.heap.size]? = some (.cells (bV (curB d.img k i)).toArray 78 (0, 0))) := Lib.hid ((HB3.out.block _ HQL.out.1).trans HSR.out.2)
   have HX3L := Lib.hid (Array.getElem?_eq_some_iff.1 HX3.out).1
   obtain ⟨dp, hdp, hsl⟩ := run_sliceL w w.heap.size i (by omega)
   obtain rfl := hdp hlt
   have hss := run_sliceSec q
   have hwi : IntKind.i64.wrap ((i : Int) * 64) = (i : Int) * 64 := IntWalk.i64_in _ ⟨by omega, by omega⟩
   have HCL := Lib.hid (curB_len HSEC.out HKN.out hi)
   have HSS : Hid (∀ X, Mods [w.heap.size] w3 X → (True) ∧ Mods [w.heap.size] w3 X) := Lib.hid (fun X hb => ⟨trivial, hb⟩)
   refine wp_region_held_drew (S := fun X => (True) ∧ Mods [w.heap.size] w3 X) (by kernel_rfl) (HSS.out _ (Mods.of_below (Below.refl _ _).drew)) (fun hHeld => ?_)
   have hbe : Below w3.heap.size w3 w3.drew := (Below.refl _ _).drew
   obtain ⟨wd, hwd⟩ : ∃ y, w3.drew = y := ⟨_, rfl⟩
   rw [hwd] at hHeld hbe ⊢
   have HBE := Lib.hid hbe
   have HS0 : Hid (w3.heap.size ≤ wd.heap.size) := Lib.hid HBE.out.size
   clear hwd hbe
   refine wpAnyH_take (i := 0) (v := ?_) rfl (by kernel_rfl) (by kernel_rfl) (by kernel_rfl) (fun _ _ _ h => h) (Or.inl ⟨by rfl, ?_⟩) (by assumption) ?_
   rotate_left
   ·(intro w hSw; (try dsimp only at hSw); simp only [List.getElem_toArray, List.getElem_cons_zero, List.getElem_cons_succ]; go_simp; first | done | with_reducible rfl)
   simp only [List.getElem_toArray, List.getElem_cons_zero, List.getElem_cons_succ, Act.put, List.setIfInBounds_toArray, List.set_cons_zero, List.set_cons_succ]
   refine wpAnyH_take (i := 3) (v := ?_) rfl (by kernel_rfl) (by kernel_rfl) (by kernel_rfl) (fun _ _ _ h => h) (Or.inl ⟨by rfl, ?_⟩) (by assumption) ?_
   rotate_left
   ·(intro w hSw; (try dsimp only at hSw); simp only [List.getElem_toArray, List.getElem_cons_zero, List.getElem_cons_succ]; go_simp; first | done | with_reducible rfl)
   simp only [List.getElem_toArray, List.getElem_cons_zero, List.getElem_cons_succ, Act.put, List.setIfInBounds_toArray, List.set_cons_zero, List.set_cons_succ]
   refine wpAnyH_take (i := 1) (v := ?_) rfl (by kernel_rfl) (by kernel_rfl) (by kernel_rfl) (fun _ _ _ h => h) (Or.inl ⟨by rfl, ?_⟩) (by assumption) ?_
   rotate_left
   ·(intro w hSw; (try dsimp only at hSw); simp only [List.getElem_toArray, List.getElem_cons_zero, List.getElem_cons_succ]; go_simp; first | done | with_reducible rfl)
   simp only [List.getElem_toArray, List.getElem_cons_zero, List.getElem_cons_succ, Act.put, List.setIfInBounds_toArray, List.set_cons_zero, List.set_cons_succ]
   refine wpAnyH_take (i := 2) (v := ?_) rfl (by kernel_rfl) (by kernel_rfl) (by kernel_rfl) (fun _ _ _ h => h) (Or.inl ⟨by rfl, ?_⟩) (by assumption) ?_
   rotate_left
   ·(intro w hSw; (try dsimp only at hSw); simp only [List.getElem_toArray, List.getElem_cons_zero, List.getElem_cons_succ]; go_simp; first | done | with_reducible rfl)
   simp only [List.getElem_toArray, List.getElem_cons_zero, List.getElem_cons_succ, Act.put, List.setIfInBounds_toArray, List.set_cons_zero, List.set_cons_succ]
   refine wpAnyH_ready (rs := [4]) (by kernel_rfl) (by simp) ?_
   refine AllReadyH.cons rfl (fun K hK => ?_) (AllReadyH.nil)
   obtain ⟨w4, hcp, hg4, hm4⟩ := run_copy_mid (P := Tryz.prog) wd 153 153 3 5 Tryz.underlying153 (by kernel_rfl) (some ⟨w.heap.size, i * 64, none⟩) (some ⟨q, 0, none⟩) (256 - i * 64) (256 - i * 64) 64 64 w.heap.size (i * 64) (bV (curB d.img k i)) 78 ((HBE.out.block _ HX3L.out).trans HX3.out) (bV S) (by rw [bV_len, HSL.out]; exact (Nat.min_eq_left (by omega)).symm) (fun _ => ⟨rfl, _, rfl, fun j v hv => by rw [Addr.add_lit]; exact rangeSt HQ3.out HQ4.out HBE.out j v hv⟩) (by rw [bV_len, bV_len, HSL.out, HCL.out]; omega) (bV_one S)
   rw [bV_len, HSL.out] at hcp
   simp only [List.getElem_toArray, List.getElem_cons_zero, List.getElem_cons_succ]
   go_simp
   refine hK.out _ _ ?_ (fun hHeld => ?_)
   ·exact HSS.out _ ((Mods.of_below HBE.out).trans hm4 (fun i hi => .inl hi))
   clear hK K
   try simp only [Act.put, List.setIfInBounds_toArray, List.set_cons_zero, List.set_cons_succ]
   have HG4 := Lib.hid hg4
   have HM4 := Lib.hid hm4
   clear hg4 hm4 hcp
   refine wpAnyH_done (by kernel_rfl) ?_ _
   have HEND := Lib.hid hHeld.2
   have HSE := Lib.hid hHeld.1
   clear hHeld
   clear HSE HSS HEND
   have HFN := Lib.hid (srd_next HSR.out (bthn HB3.out HBE.out) HG4.out HM4.out HSEC.out HKN.out hlt HSG.out)
   go_wp2_with fail
   go_roundw
   case rel => exact ⟨i + 1, by omega, by go_num, HFN.out⟩
   case measure => simp [Go.RowKit.intOf]; omega
  ·obtain rfl : i = 4 := by omega
   have hx := HSR.out.2
   rw [curB_end] at hx
   have HRL : Hid ((rdB d.img k).length = 256) := Lib.hid (rdB_len HSEC.out HKN.out)
   obtain ⟨R, hR⟩ : ∃ R, rdB d.img k = R := ⟨_, rfl⟩
   rw [hR] at hx HRL
   have HX := Lib.hid hx
   have HB := Lib.hid HSR.out.1
   have HRE := Lib.hid hR
   have hrb : (bV R).toArray.size = 256 := by rw [List.size_toArray, bV_len, HRL.out]
   have HRA : Hid (wr.rangeAt w.heap.size 0 (bV R)) := Lib.hid (rangeOf HX.out)
   have HTH : Hid (wr.there w.heap.size 0 256) := Lib.hid (thereOf HX.out (by rw [hrb]; exact Nat.le_refl _))
   clear hx hR
   go_wp2_with (first
    | (refine wpList_load_mid rfl 78 _ rfl w.heap.size 0 rfl (bV R) _ HRA.out Tryz.underlying78 rfl (by rw [bV_len, HRL.out]; exact infoBlk) ?_)
    | (refine wpList_store_mid rfl 78 _ _ rfl w.heap.size 0 (bV R).toArray rfl rfl (by rw [hrb]; exact HTH.out) (by rw [hrb]; exact infoBlk) (blk_one R) ?_))
   refine bodyPost_ret (v := .tuple #[bA R, .int .i64 0]) (res_blk rfl _ _ w.heap.size R _ rfl rfl (World.rangeAt_setCells_same _ _ _ _ (by rw [bV_len, HRL.out]; exact HTH.out)) HRL.out) rfl ⟨by rw [HRE.out], ?_⟩
   exact belowSets (Nat.le_refl _) _ _ _ HB.out
end Go.Proofs.YtgmahhdnjikdjaaGreat
/- crc, walked. -/
namespace Go.Proofs.YtgmahhdnjikdjaaGreat
open Go.RowKit Wire
set_option linter.unusedVariables false
set_option linter.unusedSimpArgs false
set_option maxRecDepth 100000 in
set_option maxHeartbeats 3200000 in
theorem half_any (w : World) (B : Nat) (r : Int) (h : w.heap[B]? = some (.cells #[.int .u32 r] 22 (0, 0))) :
  Calls Tryz.prog 212 #[.pointer (some ⟨B, 0, none⟩)] w fun e w' => e = .returned (.tuple #[]) ∧ w' = w.setCell ⟨B, 0, none⟩ (.int .u32 (halfI r)) := by
 have h0 := cellOf h 0 (v := .int .u32 r) rfl
 have hf := frozenOf h 0
 go_enter Tryz.func212, Tryz.ntmps212
 go_wp2_with fail
 go_end0
 exact ⟨rfl, rfl⟩
set_option maxRecDepth 100000 in
set_option maxHeartbeats 3200000 in
theorem entry_any (w : World) (r : Int) (h : 0 ≤ r ∧ r < 4294967296) :
  Calls Tryz.prog 187 #[.int .u32 r] w fun e w' => e = .returned (.int .u32 (halfN 8 r)) ∧ Below w.heap.size w w' := by
 have HR := Lib.hid h
 obtain ⟨w1, hw1⟩ : ∃ W, w.alloc (.cells #[.int .u32 r] 22) = W := ⟨_, rfl⟩
 have hb1 : Below w.heap.size w w1 := by rw [← hw1]; exact balloc (Below.refl _ _) _
 have HX1 : Hid (w1.heap[w.heap.size]? = some (.cells #[.int .u32 r] 22 (0, 0))) := Lib.hid (by rw [← hw1]; exact heap_alloc_new _ _)
 have HB1 := Lib.hid hb1
 have hmf : ∀ (fn : Fn) (first cap : Array Value) (w : World), (Instr.makeFunc fn first cap).run Tryz.prog w = .ok (.func fn first cap) w := by intros; rfl
 clear h hb1
 go_enter Tryz.func187, Tryz.ntmps187
 go_wp2_with fail
 (try rw [hw1])
 clear hw1
 go_loopw [5] (fun i wr => ∃ k : Nat, k ≤ 8 ∧ i = .int .i64 (k : Int) ∧ wr.heap[w.heap.size]? = some (.cells #[.int .u32 (halfN k r)] 22 (0, 0)) ∧ Below w.heap.size w wr) (fun i _ => 8 - (Go.RowKit.intOf i).toNat)
 case atStart => exact ⟨0, by omega, rfl, HX1.out, HB1.out⟩
 case round =>
  obtain ⟨k, hk, rfl, hx, hb⟩ := hrel
  by_cases hlt : k < 8
  ·have CH := half_any wr w.heap.size _ hx
   have HX := Lib.hid hx
   have HB := Lib.hid hb
   clear hx hb
   go_wp2_with fail
   refine CH.mono ?_
   rintro e w2 ⟨rfl, rfl⟩
   have HX2 : Hid ((wr.setCell ⟨w.heap.size, 0, none⟩ (.int .u32 (halfI (halfN k r)))).heap[w.heap.size]? = some (.cells #[.int .u32 (halfN (k + 1) r)] 22 (0, 0))) := Lib.hid (setOf HX.out 0 _)
   have HB2 := Lib.hid (HB.out.setCell (p := ⟨w.heap.size, 0, none⟩) (Nat.le_refl _) (.int .u32 (halfI (halfN k r))))
   clear CH
   go_wp2_with fail
   go_roundw
   case rel => exact ⟨k + 1, by omega, by go_num, HX2.out, HB2.out⟩
   case measure => simp [Go.RowKit.intOf]; omega
  ·obtain rfl : k = 8 := by omega
   have h0 := cellOf hx 0 (v := .int .u32 (halfN 8 r)) rfl
   have HB := Lib.hid hb
   clear hx hb
   go_wp2_with fail
   go_ret
   exact ⟨rfl, HB.out⟩
theorem addI_snoc (r : Int) (a : List UInt8) (c : UInt8) : addI r (a ++ [c]) = bits .xor .u32 (addI r a / 256) (halfN 8 (bits .xor .u32 (bits .and .u32 (addI r a) 255) (c.toNat : Int))) := by
 induction a generalizing r with
 | nil => rfl
 | cons x a ih => exact ih _
theorem addI_in {r : Int} (h : 0 ≤ r ∧ r < 4294967296) : ∀ (bs : List UInt8), 0 ≤ addI r bs ∧ addI r bs < 4294967296
 | [] => h
 | c :: bs => addI_in (u32_in _ _ _) bs
set_option maxRecDepth 100000 in
set_option maxHeartbeats 3200000 in
theorem add_any (w : World) (s : Int) (hs : 0 ≤ s ∧ s < 4294967296) (v : Value) (m : Nat) (bs : List UInt8) (hrd : Rd w 1 v m (bV bs)) (hm : m ≤ 1000000) :
  Calls Tryz.prog 157 #[.int .u32 s, v] w fun e w' => e = .returned (.int .u32 (invI (addI (invI s) bs))) ∧ Below w.heap.size w w' := by
 have HRD := Lib.hid hrd
 have HLB : Hid (bs.length = m) := Lib.hid (by obtain ⟨_, _, _, hl, _⟩ := hrd; simpa [bV_len] using hl)
 obtain ⟨ao, cap, rfl, _, _, _, _⟩ := id hrd
 obtain ⟨s1, hs1⟩ : ∃ x, invI s = x := ⟨_, rfl⟩
 have hs1' : bits .xor .u32 IntKind.u32.max s = s1 := hs1
 have HS1 : Hid (0 ≤ s1 ∧ s1 < 4294967296) := Lib.hid (by rw [← hs1]; exact u32_in _ _ _)
 rw [hs1]
 clear hrd hs1
 go_enter Tryz.func157, Tryz.ntmps157
 go_wp2_with fail
 (try rw [hs1'])
 go_loopw [5, 12] (fun x i wr => ∃ k : Nat, k ≤ m ∧ i = .int .i64 (k : Int) ∧ x = .int .u32 (addI s1 (bs.take k)) ∧ Below w.heap.size w wr) (fun _ i _ => m - (Go.RowKit.intOf i).toNat)
 case atStart => exact ⟨0, by omega, rfl, rfl, Below.refl _ _⟩
 case round =>
  obtain ⟨k, hk, rfl, rfl, hb⟩ := hrel
  have HB := Lib.hid hb
  clear hb
  by_cases hlt : k < m
  ·obtain ⟨c, hc⟩ : ∃ c, bs[k]? = some c := ⟨_, List.getElem?_eq_getElem (by rw [HLB.out]; exact hlt)⟩
   have HA : Hid (addI s1 (bs.take (k + 1)) = bits .xor .u32 (addI s1 (bs.take k) / 256) (halfN 8 (bits .xor .u32 (bits .and .u32 (addI s1 (bs.take k)) 255) (c.toNat : Int)))) := Lib.hid (by rw [List.take_add_one, hc]; exact addI_snoc s1 (bs.take k) c)
   obtain ⟨ao', cap', e1, _, _, _, hcell⟩ := (HRD.out.below HB.out)
   obtain ⟨rfl, _, rfl⟩ := Value.slice.inj e1
   obtain ⟨b0, off, rfl, hb0, hc0⟩ := hcell k _ (bV_get hc)
   obtain ⟨x, hx⟩ : ∃ x, addI s1 (bs.take k) = x := ⟨_, rfl⟩
   have hxr : 0 ≤ x ∧ x < 4294967296 := by rw [← hx]; exact addI_in HS1.out _
   rw [hx] at HA ⊢
   have hcl := byte_lt c
   obtain ⟨y, hy⟩ : ∃ y, bits .xor .u32 (bits .and .u32 x 255) (c.toNat : Int) = y := ⟨_, rfl⟩
   have CE : Calls Tryz.prog 187 #[.int .u32 y] wr fun e w' => e = .returned (.int .u32 (halfN 8 y)) ∧ Below wr.heap.size wr w' := entry_any wr y (by rw [← hy]; exact u32_in _ _ _)
   have HY := Lib.hid hy
   clear e1 hcell hb0 hc hx
   go_wp2_with fail
   (try rw [hy])
   clear hy
   refine CE.mono ?_
   rintro e w2 ⟨rfl, hb2⟩
   have HB2 := Lib.hid (bthen HB.out hb2)
   clear CE hb2 hc0
   go_wp2_with fail
   go_roundw
   case rel => exact ⟨k + 1, by omega, by go_num, by rw [HA.out, HY.out], HB2.out⟩
   case measure => simp [Go.RowKit.intOf]; omega
  ·obtain rfl : k = m := by omega
   obtain ⟨x, hx⟩ : ∃ x, addI s1 (bs.take k) = x := ⟨_, rfl⟩
   have HX : Hid (addI s1 bs = x) := Lib.hid (by rw [← hx, List.take_of_length_le (by rw [HLB.out]; exact Nat.le_refl _)])
   rw [hx]
   clear hx
   go_wp2_with fail
   go_ret
   exact ⟨by rw [HX.out]; rfl, HB.out⟩
set_option maxRecDepth 100000 in
set_option maxHeartbeats 3200000 in
theorem crcsum_any (w : World) (v : Value) (m : Nat) (bs : List UInt8) (hrd : Rd w 1 v m (bV bs)) (hm : m ≤ 1000000) :
  Calls Tryz.prog 120 #[v] w fun e w' => e = .returned (.int .u32 (crcN bs : Int)) ∧ Below w.heap.size w w' := by
 have CA := add_any w 0 (by omega) v m bs hrd hm
 rw [show invI (addI (invI 0) bs) = (crcN bs : Int) from (crcN_eq bs).1.symm] at CA
 clear hrd
 go_enter Tryz.func120, Tryz.ntmps120
 go_wp2_with fail
 refine CA.mono ?_
 rintro e w2 ⟨rfl, hb2⟩
 have HB2 := Lib.hid hb2
 clear CA hb2
 go_wp2_with fail
 go_ret
 exact ⟨rfl, HB2.out⟩
end Go.Proofs.YtgmahhdnjikdjaaGreat
