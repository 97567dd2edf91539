/- super: has, Blocks, Write, walked. -/
import Derived.Test.YtcdobdjemlaaaaaGreatDk3
import Derived.Test.YtcdobdjemlaaaaaGreatMerge
namespace Go.Proofs.YtcdobdjemlaaaaaGreat
open Go.RowKit Wire
set_option linter.unusedVariables false
set_option linter.unusedSimpArgs false

set_option maxRecDepth 100000 in
set_option maxHeartbeats 1600000 in
theorem sblocks_any (w : World) (a b : Int) (ha : 0 ≤ a ∧ a ≤ 1000000) (hb : 0 ≤ b ∧ b ≤ 1000000) : Calls Tryz.prog 62 #[.int .i64 a, .int .i64 b] w fun e w' => e = .returned (.int .i64 (2 + a + b)) ∧ w = w' := by
  go_enter Tryz.func62, Tryz.ntmps62
  go_wp2_with fail
  go_ret
  exact ⟨rfl, rfl⟩
set_option maxRecDepth 100000 in
set_option maxHeartbeats 3200000 in
theorem shas_nil (w : World) (k : Int) : Calls Tryz.prog 107 #[.pointer none, .int .i64 k] w fun e w' => e = .returned (.int .i64 1) ∧ w = w' := by
  have CS := dsec_nil w
  go_enter Tryz.func107, Tryz.ntmps107
  go_wp2_with fail
  refine CS.mono ?_
  rintro e w2 ⟨rfl, rfl⟩
  clear CS
  go_wp2_with fail
  go_ret
  exact ⟨rfl, rfl⟩
theorem shas_ok (n0 : Nat) (w : World) (B : Nat) (iv jv : Value) (d : Dk) (h : DkAt n0 w B iv jv d) (k : Nat) (hk : k * 4 + 4 ≤ d.img.length) (hn : d.img.length ≤ 1000000) : Calls Tryz.prog 107 #[.pointer (some ⟨B, 0, none⟩), .int .i64 (k : Int)] w fun e w' => e = .returned (.int .i64 0) ∧ w = w' := by
  have CS := dsec_at n0 w B iv jv d h
  obtain ⟨n, hnn⟩ : ∃ n, d.img.length = n := ⟨_, rfl⟩
  rw [hnn] at CS hk hn
  have hq : Int.tdiv (n : Int) 4 = ((n / 4 : Nat) : Int) := rfl
  have hw : IntKind.i64.wrap ((n / 4 : Nat) : Int) = ((n / 4 : Nat) : Int) := IntWalk.i64_in _ ⟨by omega, by omega⟩
  have hlt : decide (((n / 4 : Nat) : Int) ≤ (k : Int)) = false := decide_eq_false (by omega)
  clear h hnn
  have CS2 := CS
  go_enter Tryz.func107, Tryz.ntmps107
  go_wp2_with fail
  refine CS.mono ?_
  rintro e w2 ⟨rfl, rfl⟩
  clear CS
  go_wp2_with fail
  refine CS2.mono ?_
  rintro e w2 ⟨rfl, rfl⟩
  clear CS2
  go_wp2_with fail
  go_ret
  exact ⟨rfl, rfl⟩
/-- A block is written up to sector n. -/
def Dk.wrN (d : Dk) (k : Nat) (b : List UInt8) : Nat → Dk
  | 0 => d
  | n + 1 => (d.wrN k b n).wr (k * 4 + n) (sec b n)
theorem Dk.wrN_at (d : Dk) (k : Nat) (b : List UInt8) : ∀ n, (d.wrN k b n).img = wrBn d.img k b n ∧ (d.wrN k b n).left = d.left ∧ (d.wrN k b n).dead = d.dead ∧ (d.wrN k b n).jr.length = d.jr.length + n
  | 0 => ⟨rfl, rfl, rfl, rfl⟩
  | n + 1 => by
    obtain ⟨h1, h2, h3, h4⟩ := Dk.wrN_at d k b n
    refine ⟨?_, h2, h3, ?_⟩
    · show (d.wrN k b n).img.set _ _ = _
      rw [h1]; rfl
    · show ((d.wrN k b n).jr ++ [_]).length = _
      rw [List.length_append, h4]; rfl
def Dk.wrK (d : Dk) (k : Nat) (b : List UInt8) : Dk := d.wrN k b 4
/-- A block of another type is none of the disk's. -/
theorem DkAt.apart {n0 : Nat} {w : World} {B g : Nat} {iv jv : Value} {d : Dk} (h : DkAt n0 w B iv jv d) {cs : Array Value} {t : TypeId} {f : Nat × Nat} (hg : w.heap[g]? = some (.cells cs t f)) (h1 : t ≠ 164) (h2 : t ≠ 168) (h3 : t ≠ 220) : g ∉ dF B iv jv := fun hh => by
  rcases List.mem_cons.1 hh with rfl | hh
  · rw [h.box] at hg
    exact h1 (Obj.cells.inj (Option.some.inj hg)).2.1.symm
  · rcases List.mem_append.1 hh with hh | hh
    · exact ob_tag h.img hg h2 hh
    · exact ob_tag h.jrn hg h3 hh
theorem undSec : Tryz.prog.underlying 168 = some (.array 64 5) := by kernel_rfl
theorem run_arr (g o n c : Nat) (h : 64 ≤ n) : ∀ W, (Instr.arrayAt 168 (.slice (some ⟨g, o, none⟩) n c)).run Tryz.prog W = .ok (.pointer (some ⟨g, o, none⟩)) W := fun W => by
  unfold Instr.arrayAt
  rw [Sem.run_bind, run_underlying undSec W]
  simp only [Result.andThen_ok]
  rw [if_neg (by omega)]
  rfl
theorem sec_range {w : World} {g i : Nat} {b : List UInt8} (h : w.rangeAt g 0 (bV b)) : w.rangeAt g (i * 64) (bV (sec b i)) := fun j u hj => by
  have h1 := h (i * 64 + j) u (by
    rw [bV_get?] at hj ⊢
    unfold sec at hj
    rw [List.getElem?_take] at hj
    split at hj
    · rwa [List.getElem?_drop] at hj
    · cases hj)
  rwa [Nat.zero_add] at h1
set_option maxRecDepth 100000 in
set_option maxHeartbeats 6400000 in
theorem swrite_at (n0 : Nat) (w : World) (B : Nat) (iv jv : Value) (d : Dk) (h : DkAt n0 w B iv jv d) (hn0 : n0 ≤ w.heap.size) (hl : d.left < 0) (hd : d.dead = false) (k : Nat) (b : List UInt8) (hb : b.length = 256) (hk : k * 4 + 4 ≤ d.img.length) (hn : d.img.length ≤ 1000000) (hj : d.jr.length ≤ 900000) :
    Calls Tryz.prog 61 #[.pointer (some ⟨B, 0, none⟩), .int .i64 (k : Int), .agg (bV b).toArray] w fun e w' => e = .returned (.int .i64 0) ∧ ∃ jv', DkAt n0 w' B iv jv' (d.wrK k b) ∧ Chg (dF B iv jv) w w' (dF B iv jv') := by
  obtain ⟨w1, hw1⟩ : ∃ W, w.alloc (.cells (bV b).toArray 50) = W := ⟨_, rfl⟩
  have hb1 : Below w.heap.size w w1 := by rw [← hw1]; exact balloc (Below.refl _ _) _
  have HX1 : Hid (w1.heap[w.heap.size]? = some (.cells (bV b).toArray 50 (0, 0))) := Lib.hid (by rw [← hw1]; exact heap_alloc_new _ _)
  have HD1 := Lib.hid (h.below hb1)
  have CH := shas_ok n0 w1 B iv jv d HD1.out k hk hn
  have HC1 : Hid (Chg (dF B iv jv) w w1 (dF B iv jv)) := Lib.hid (Chg.of_below hb1)
  have HBL := Lib.hid hb
  have HLD := Lib.hid (And.intro hl hd)
  have HNB := Lib.hid hn0
  obtain ⟨n, hnn⟩ : ∃ n, d.img.length = n := ⟨_, rfl⟩
  rw [hnn] at hk hn
  have HNN := Lib.hid hnn
  clear h hn0 hl hd hb hb1 hnn
  go_enter Tryz.func61, Tryz.ntmps61
  go_wp2_with fail
  (try rw [hw1])
  clear hw1
  refine CH.mono ?_
  rintro e w2 ⟨rfl, rfl⟩
  clear CH
  go_wp2_with fail
  go_loopw [16] (fun v wr => ∃ (i : Nat) (jv' : Value), i ≤ 4 ∧ v = .int .i64 (i : Int) ∧ DkAt n0 wr B iv jv' (d.wrN k b i) ∧ Chg (dF B iv jv) w wr (dF B iv jv') ∧ wr.heap[w.heap.size]? = some (.cells (bV b).toArray 50 (0, 0))) (fun v _ => 4 - (Go.RowKit.intOf v).toNat)
  case atStart => exact ⟨0, jv, by omega, rfl, HD1.out, HC1.out, HX1.out⟩
  case round =>
    obtain ⟨i, jv', hi, rfl, hdk, hch, hx⟩ := hrel
    have HDK := Lib.hid hdk
    have HCH := Lib.hid hch
    have HX := Lib.hid hx
    clear hdk hch hx
    by_cases hlt : i < 4
    · have HRA : Hid (wr.rangeAt w.heap.size (i * 64) (bV (sec b i))) := Lib.hid (sec_range (rangeOf HX.out))
      have HSL : Hid ((sec b i).length = 64) := Lib.hid (sec_len HBL.out hlt)
      have hcut : ∀ W, (Instr.sliceAt 50 (.pointer (some ⟨w.heap.size, 0, none⟩)) (some (.int .i64 ((i : Int) * 64))) (some (.int .i64 (((i : Int) + 1) * 64))) none).run Tryz.prog W = .ok (.slice (some ⟨w.heap.size, i * 64, none⟩) 64 (256 - i * 64)) W := fun W => by
        have h := run_sliceLH w.heap.size i (i + 1) (by omega) (by omega) W
        rw [show ((i + 1 : Nat) : Int) = (i : Int) + 1 by omega, show (i + 1 - i) * 64 = 64 by omega] at h
        exact h
      have harr := run_arr w.heap.size (i * 64) 64 (256 - i * 64) (Nat.le_refl _)
      obtain ⟨S, hS⟩ : ∃ S, sec b i = S := ⟨_, rfl⟩
      rw [hS] at HRA HSL
      have CW : Calls Tryz.prog 114 #[.pointer (some ⟨B, 0, none⟩), .int .i64 ((k : Int) * 4 + (i : Int)), .agg (bV S).toArray] wr fun e w' => e = .returned (.int .i64 0) ∧ ∃ jv'', DkAt n0 w' B iv jv'' ((d.wrN k b i).wr (k * 4 + i) S) ∧ Chg (dF B iv jv') wr w' (dF B iv jv'') := by
        obtain ⟨e1, e2, e3, e4⟩ := d.wrN_at k b i
        have hl1 : (d.wrN k b i).img.length = n := by rw [e1, wrBn_len, HNN.out]
        have h1 := dwrite_at n0 wr B iv jv' (d.wrN k b i) HDK.out (Nat.le_trans HNB.out HCH.out.size) (by rw [e2]; exact HLD.out.1) (by rw [e3]; exact HLD.out.2) (k * 4 + i) S HSL.out (by omega) (by omega) (by omega)
        rw [show ((k * 4 + i : Nat) : Int) = (k : Int) * 4 + (i : Int) by omega] at h1
        exact h1
      have HSE := Lib.hid hS
      clear hS
      go_upto_region 7 with fail
      apply wp_region_lit
      repeat (first
        | (refine wpList_load_mid rfl 168 _ rfl w.heap.size (i * 64) rfl (bV S) _ HRA.out Tryz.underlying168 rfl (infoS HSL.out) ?_)
        | go_step)
      refine CW.mono ?_
      rintro e w2 ⟨rfl, jv2, hd2, hc2⟩
      dsimp only
      have HX2 : Hid (w2.heap[w.heap.size]? = some (.cells (bV b).toArray 50 (0, 0))) := Lib.hid ((hc2.1.block _ (Array.getElem?_eq_some_iff.1 HX.out).1 (HDK.out.apart HX.out (by decide) (by decide) (by decide))).trans HX.out)
      have HD2 : Hid (DkAt n0 w2 B iv jv2 (d.wrN k b (i + 1))) := Lib.hid (by show DkAt n0 w2 B iv jv2 ((d.wrN k b i).wr (k * 4 + i) (sec b i)); rw [HSE.out]; exact hd2)
      have HC2 := Lib.hid (HCH.out.trans hc2)
      clear CW hd2 hc2 hcut harr
      go_wp2_with fail
      go_roundw
      case rel => exact ⟨i + 1, jv2, by omega, by go_num, HD2.out, HC2.out, HX2.out⟩
      case measure => simp [Go.RowKit.intOf]; omega
    · obtain rfl : i = 4 := by omega
      go_wp2_with fail
      go_ret
      exact ⟨rfl, jv', HDK.out, HCH.out⟩
end Go.Proofs.YtcdobdjemlaaaaaGreat
