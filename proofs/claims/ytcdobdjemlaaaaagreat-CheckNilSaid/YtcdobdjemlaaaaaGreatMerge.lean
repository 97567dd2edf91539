/- part.Merge and part.Cut, walked, where they may be. -/
import Derived.Test.YtcdobdjemlaaaaaGreatWA
import Derived.Laws.CopyOwn
import Derived.Laws.ResultCell
namespace Go.Proofs.YtcdobdjemlaaaaaGreat
open Go.RowKit
set_option linter.unusedVariables false
set_option linter.unusedSimpArgs false

/-- copy into a block that is known whole: just that block changes. -/
theorem run_copy_mid {P : Program} (w : World) (dT sT rT : TypeId) (elem : TypeId) (hu : P.underlying dT = some (.slice elem)) (hsz : (P.info? elem).map (·.size) = some 1)
    (dp sp : Option Addr) (dLen dCap sLen sCap : Nat) (g off : Nat) (cur : List Value) (t : TypeId) (hg : w.heap[g]? = some (.cells cur.toArray t (0, 0))) (cs : List Value) (hn : cs.length = Nat.min sLen dLen)
    (hpos : 0 < cs.length → dp = some ⟨g, off, none⟩ ∧ ∃ ad, sp = some ad ∧ ∀ j v, cs[j]? = some v → w.cell? (ad.add j) = some v)
    (hfit : off + cs.length ≤ cur.length) (h1 : ∀ v ∈ cs, v.oneCell' = true) :
    ∃ w', (Builtin.copy_ #[dT, sT] rT #[.slice dp dLen dCap, .slice sp sLen sCap]).run P w = .ok (.int .i64 (cs.length : Int)) w' ∧ w'.heap[g]? = some (.cells (splice cur off cs).toArray t (0, 0)) ∧ Mods [g] w w' := by
  by_cases h0 : cs.length = 0
  · obtain rfl : cs = [] := List.eq_nil_of_length_eq_zero h0
    exact ⟨w, run_copy_none (P := P) w dT sT rT elem dp sp dLen dCap sLen sCap hu hsz (by simpa using hn.symm), (by simpa [splice] using hg), Mods.refl _ _⟩
  · obtain ⟨rfl, ad, rfl, hsrc⟩ := hpos (by omega)
    exact ⟨_, run_copy_row (P := P) w dT sT rT elem g off dLen dCap ad sLen sCap cur.toArray t cs hu hsz hg hn hsrc (by simpa using hfit) h1, (by simpa [splice] using setRow_heap w g _ _ t _ hg), rfl, rfl, rfl, by simp [World.setRow], fun k hk hn => setRow_other w g k _ (by simpa using hn)⟩

/-- A block with data from a sector on. -/
def mergeB (b : List UInt8) (f : Nat) (d : List UInt8) : List UInt8 := splice b (f * 64) d
def cutB (b : List UInt8) (f t : Nat) : List UInt8 := (b.drop (f * 64)).take ((t - f) * 64)
theorem bV_splice (b d : List UInt8) (o : Nat) : splice (bV b) o (bV d) = bV (splice b o d) := by
  unfold splice
  simp only [bV, List.map_append, List.map_take, List.map_drop, List.length_map]
theorem mergeB_len {b d : List UInt8} {f : Nat} (h : f * 64 + d.length ≤ b.length) : (mergeB b f d).length = b.length := length_splice _ _ _ h
theorem cut_merge {b d : List UInt8} {f t : Nat} (hf : f ≤ t) (hd : d.length = (t - f) * 64) (h : t * 64 ≤ b.length) : cutB (mergeB b f d) f t = d := by
  unfold cutB mergeB splice
  have e : (b.take (f * 64)).length = f * 64 := by rw [List.length_take]; omega
  rw [List.drop_append_of_le_length (by omega), List.drop_eq_nil_of_le (by omega), List.nil_append, ← hd, List.take_left]
theorem merge_cut {b d : List UInt8} {f t : Nat} (hf : f ≤ t) (hd : d.length = (t - f) * 64) (h : t * 64 ≤ b.length) : mergeB (mergeB b f d) f (cutB b f t) = b := by
  have hc : (cutB b f t).length = (t - f) * 64 := by unfold cutB; rw [List.length_take, List.length_drop]; omega
  have hft : f * 64 + (t - f) * 64 = t * 64 := by omega
  have e : (b.take (f * 64)).length = f * 64 := by rw [List.length_take]; omega
  have h1 : (mergeB b f d).take (f * 64) = b.take (f * 64) := by
    unfold mergeB splice
    rw [List.take_append_of_le_length (by omega), List.take_of_length_le (by omega)]
  have h2 : (mergeB b f d).drop (t * 64) = b.drop (t * 64) := by
    unfold mergeB splice
    rw [← List.append_assoc]
    have e2 : (b.take (f * 64) ++ d).length = t * 64 := by rw [List.length_append]; omega
    rw [show t * 64 = (b.take (f * 64) ++ d).length from e2.symm, List.drop_left, e2]
    rw [hd, hft]
  have h3 : mergeB (mergeB b f d) f (cutB b f t) = (mergeB b f d).take (f * 64) ++ (cutB b f t ++ (mergeB b f d).drop (f * 64 + (cutB b f t).length)) := rfl
  rw [h3, hc, hft, h1, h2]
  unfold cutB
  rw [← List.append_assoc, show b.drop (t * 64) = (b.drop (f * 64)).drop ((t - f) * 64) by rw [List.drop_drop, hft], List.append_assoc, List.take_append_drop, List.take_append_drop]

theorem zszM : Tryz.zeroCells50.size = 256 := by kernel_rfl
theorem infoBlk : (Tryz.prog.info? 50).map (·.size) = some 256 := by kernel_rfl
theorem undBlk8 : Tryz.prog.underlying 5 = some (.int .u8) := Tryz.underlying5

theorem run_sliceL (w : World) (g f : Nat) (hf : f ≤ 4) : ∃ dp, (f < 4 → dp = some ⟨g, f * 64, none⟩) ∧ ∀ W, (Instr.sliceAt 50 (.pointer (some ⟨g, 0, none⟩)) (some (.int .i64 ((f : Int) * 64))) none none).run Tryz.prog W = .ok (.slice dp (256 - f * 64) (256 - f * 64)) W := by
  have hl : Tryz.prog.arrayLen 50 = 256 := by kernel_rfl
  have hs : ∀ W, (sizeOf (Tryz.prog.elem 50)).run Tryz.prog W = .ok 1 W := fun W => by kernel_rfl
  refine ⟨if 256 = f * 64 then some ⟨g, 0, none⟩ else some ⟨g, f * 64, none⟩, fun h => by rw [if_neg (by omega)], fun W => ?_⟩
  rw [run_sliceAt_array_l (P := Tryz.prog) W 50 ⟨g, 0, none⟩ (by kernel_rfl) .i64 ((f : Int) * 64) (by omega) (by rw [hl]; omega), hs, hl]
  simp only [Result.andThen_ok, slicedAt, show ((f : Int) * 64).toNat = f * 64 by omega]
  by_cases h : 256 = f * 64
  · rw [if_pos h, if_pos h]
  · rw [if_neg h, if_neg h, Nat.mul_one, Addr.add_lit, Nat.zero_add]

theorem res_blk {fn : Func} {p u : Tmp} (h : fn.results = #[.cell p 50, .tmp u]) (tmps : Array Value) (w : World) (g : Nat) (L : List UInt8) (x : Value) (hp : tmps.getD p undef = .pointer (some ⟨g, 0, none⟩)) (hx : tmps.getD u undef = x) (hr : w.rangeAt g 0 (bV L)) (hl : L.length = 256) :
    (results fn tmps).run Tryz.prog w = .ok (.tuple #[bA L, x]) w := by
  rw [results_cell_tmp h, hp, hx]
  have := run_loadVar_mid (P := Tryz.prog) w g 0 50 (bV L) _ hr Tryz.underlying50 rfl (by rw [bV_len, hl]; exact infoBlk)
  simp only [asAddr, Sem.run_pure, Result.andThen_ok, this]
  rfl

theorem run_sliceLH (g f t : Nat) (hf : f < t) (ht : t ≤ 4) : ∀ W, (Instr.sliceAt 50 (.pointer (some ⟨g, 0, none⟩)) (some (.int .i64 ((f : Int) * 64))) (some (.int .i64 ((t : Int) * 64))) none).run Tryz.prog W = .ok (.slice (some ⟨g, f * 64, none⟩) ((t - f) * 64) (256 - f * 64)) W := fun W => by
  have hl : Tryz.prog.arrayLen 50 = 256 := by kernel_rfl
  have hs : ∀ W, (sizeOf (Tryz.prog.elem 50)).run Tryz.prog W = .ok 1 W := fun W => by kernel_rfl
  rw [run_sliceAt_array_lh (P := Tryz.prog) W 50 ⟨g, 0, none⟩ (by kernel_rfl) .i64 .i64 ((f : Int) * 64) ((t : Int) * 64) (by omega) (by omega) (by rw [hl]; omega), hs, hl]
  simp only [Result.andThen_ok, slicedAt, show ((f : Int) * 64).toNat = f * 64 by omega, show ((t : Int) * 64).toNat = t * 64 by omega]
  rw [if_neg (by omega), Nat.mul_one, Addr.add_lit, Nat.zero_add, Nat.sub_mul]
theorem belowSet {B b : Nat} {a : World} (hb : B ≤ b) : ∀ (vs : List Value) (o : Nat) (w : World), Below B a w → Below B a (w.setCells b o vs)
  | [], _, _, h => h
  | v :: r, o, w, h => by
    rw [World.setCells]
    exact belowSet hb r (o + 1) _ (h.setCell (p := ⟨b, o, none⟩) hb v)

end Go.Proofs.YtcdobdjemlaaaaaGreat
