/- super: Read, walked. -/
import Derived.Test.YtcdobdjemlaaaaaGreatSp0
namespace Go.Proofs.YtcdobdjemlaaaaaGreat
open Go.RowKit Wire
set_option linter.unusedVariables false
set_option linter.unusedSimpArgs false

/-- A block read up to sector n. -/
def curB (img : List (List UInt8)) (k i : Nat) : List UInt8 := ((List.range i).flatMap fun j => img.getD (k * 4 + j) []) ++ zeros (256 - i * 64)
theorem head_len {img : List (List UInt8)} {k : Nat} (h : Secs img) (hk : k * 4 + 4 ≤ img.length) : ∀ i, i ≤ 4 → ((List.range i).flatMap fun j => img.getD (k * 4 + j) []).length = i * 64
  | 0, _ => rfl
  | i + 1, hi => by
    rw [List.range_succ, List.flatMap_append, List.length_append, head_len h hk i (by omega)]
    have : (img.getD (k * 4 + i) []).length = 64 := by
      rw [List.getD_eq_getElem?_getD, List.getElem?_eq_getElem (by omega)]
      exact h _ (List.getElem_mem _)
    simp only [List.flatMap_cons, List.flatMap_nil, List.append_nil, this]
    omega
theorem curB_len {img : List (List UInt8)} {k : Nat} (h : Secs img) (hk : k * 4 + 4 ≤ img.length) {i : Nat} (hi : i ≤ 4) : (curB img k i).length = 256 := by
  unfold curB zeros
  rw [List.length_append, head_len h hk i hi, List.length_replicate]
  omega
theorem curB_next {img : List (List UInt8)} {k : Nat} (h : Secs img) (hk : k * 4 + 4 ≤ img.length) {i : Nat} (hi : i < 4) {s : List UInt8} (hs : img[k * 4 + i]? = some s) : splice (curB img k i) (i * 64) s = curB img k (i + 1) := by
  have hl := head_len h hk i (by omega)
  have hsl : s.length = 64 := h s (List.mem_of_getElem? hs)
  unfold splice curB
  rw [List.take_append_of_le_length (by omega), List.take_of_length_le (by omega), List.range_succ, List.flatMap_append]
  simp only [List.flatMap_cons, List.flatMap_nil, List.append_nil]
  rw [List.getD_eq_getElem?_getD, hs, Option.getD_some, List.append_assoc]
  congr 2
  rw [← hl, List.drop_append, List.drop_eq_nil_of_le (by omega), List.nil_append, Nat.add_sub_cancel_left, hsl]
  unfold zeros
  rw [List.drop_replicate]
  congr 1
  omega
theorem curB_end (img : List (List UInt8)) (k : Nat) : curB img k 4 = rdB img k := by
  unfold curB rdB zeros
  simp
theorem run_sliceSec (g : Nat) : ∀ W, (Instr.sliceAt 168 (.pointer (some ⟨g, 0, none⟩)) none none none).run Tryz.prog W = .ok (.slice (some ⟨g, 0, none⟩) 64 64) W := fun W => by
  have hl : Tryz.prog.arrayLen 168 = 64 := by kernel_rfl
  have hs : ∀ W, (sizeOf (Tryz.prog.elem 168)).run Tryz.prog W = .ok 1 W := fun W => by kernel_rfl
  rw [run_sliceAt_array_all (P := Tryz.prog) W 168 ⟨g, 0, none⟩ (by kernel_rfl), hs, hl]
  simp [Result.andThen_ok, slicedAt, Addr.add_lit]
theorem blk_one (bs : List UInt8) : (bV bs).toArray.all (·.oneCell') = true := Array.all_eq_true_iff_forall_mem.2 (fun v hv => bV_one bs v (by simpa using hv))
/-- Ahead of a sector: what has been read lies in the box. -/
def SRd (w wr : World) (img : List (List UInt8)) (k i : Nat) : Prop := Below w.heap.size w wr ∧ wr.heap[w.heap.size]? = some (.cells (bV (curB img k i)).toArray 50 (0, 0))
theorem srd_next {w wr w3 w4 : World} {img : List (List UInt8)} {k i : Nat} {S : List UInt8} (h : SRd w wr img k i) (hb : Below wr.heap.size wr w3) (hg : w4.heap[w.heap.size]? = some (.cells (splice (bV (curB img k i)) (i * 64) (bV S)).toArray 50 (0, 0))) (hm : Mods [w.heap.size] w3 w4) (hs : Secs img) (hk : k * 4 + 4 ≤ img.length) (hi : i < 4) (hS : img[k * 4 + i]? = some S) : SRd w w4 img k (i + 1) := by
  have hw3 : Below w.heap.size w w3 := bthn h.1 hb
  refine ⟨hw3.trans (hm.below (fun k hk => by rw [List.mem_singleton.1 hk]; exact Nat.le_refl _) hw3.size), ?_⟩
  rw [bV_splice, curB_next hs hk hi hS] at hg
  exact hg
set_option maxRecDepth 100000 in
set_option maxHeartbeats 6400000 in
theorem sread_at (n0 : Nat) (w : World) (B : Nat) (iv jv : Value) (d : Dk) (h : DkAt n0 w B iv jv d) (k : Nat) (hk : k * 4 + 4 ≤ d.img.length) (hn : d.img.length ≤ 1000000) :
    Calls Tryz.prog 51 #[.pointer (some ⟨B, 0, none⟩), .int .i64 (k : Int)] w fun e w' => e = .returned (.tuple #[bA (rdB d.img k), .int .i64 0]) ∧ Below w.heap.size w w' := by
  obtain ⟨w1, hw1⟩ : ∃ W, w.alloc (.cells Tryz.zeroCells50 50) = W := ⟨_, rfl⟩
  have hb1 : Below w.heap.size w w1 := by rw [← hw1]; exact balloc (Below.refl _ _) _
  have HX1 : Hid (SRd w w1 d.img k 0) := Lib.hid ⟨hb1, by
    have e : (bV (curB d.img k 0)).toArray = Tryz.zeroCells50 := by
      show (bV (List.replicate 256 0)).toArray = _
      kernel_rfl
    rw [e, ← hw1]; exact heap_alloc_new _ _⟩
  have HD1 := Lib.hid (h.below hb1)
  have CH := shas_ok n0 w1 B iv jv d HD1.out k hk hn
  have HSEC := Lib.hid h.secs
  have HKN := Lib.hid hk
  have HH := Lib.hid h
  obtain ⟨n, hnn⟩ : ∃ n, d.img.length = n := ⟨_, rfl⟩
  rw [hnn] at hk hn
  have HNN := Lib.hid hnn
  clear h hb1 hnn
  go_enter Tryz.func51, Tryz.ntmps51
  go_wp2_with fail
  (try rw [hw1])
  clear hw1
  refine CH.mono ?_
  rintro e w2 ⟨rfl, rfl⟩
  clear CH
  go_wp2_with fail
  go_loopw [17] (fun v wr => ∃ i : Nat, i ≤ 4 ∧ v = .int .i64 (i : Int) ∧ SRd w wr d.img k i) (fun v _ => 4 - (Go.RowKit.intOf v).toNat)
  case atStart => exact ⟨0, by omega, rfl, HX1.out⟩
  case round =>
    obtain ⟨i, hi, rfl, hsr⟩ := hrel
    have HSR := Lib.hid hsr
    clear hsr
    by_cases hlt : i < 4
    · obtain ⟨S, hS⟩ : ∃ S, d.img[k * 4 + i]? = some S := ⟨_, List.getElem?_eq_getElem (by rw [HNN.out]; omega)⟩
      have HSG := Lib.hid hS
      have HSL : Hid (S.length = 64) := Lib.hid (HSEC.out S (List.mem_of_getElem? hS))
      have CR : Calls Tryz.prog 108 #[.pointer (some ⟨B, 0, none⟩), .int .i64 ((k : Int) * 4 + (i : Int))] wr fun e w' => e = .returned (.tuple #[.agg (bV S).toArray, .int .i64 0]) ∧ Below wr.heap.size wr w' := by
        have h1 := dread_at n0 wr B iv jv d (HH.out.below HSR.out.1) (k * 4 + i) S hS (by rw [HNN.out]; exact hn)
        rw [show ((k * 4 + i : Nat) : Int) = (k : Int) * 4 + (i : Int) by omega] at h1
        exact h1
      clear hS
      go_wp2_with fail
      refine CR.mono ?_
      rintro e w2 ⟨rfl, hb2⟩
      dsimp only
      have HB2 := Lib.hid hb2
      clear CR hb2
      have hsb : (bV S).toArray.size = 64 := by rw [List.size_toArray, bV_len, HSL.out]
      repeat (first
        | (refine wpList_store_mid rfl 168 _ _ rfl w2.heap.size 0 (bV S).toArray rfl rfl (by rw [hsb]; exact thereOf (heap_alloc_new w2 _) (by simp)) (by rw [hsb]; exact infoSec) (blk_one S) ?_)
        | go_step)
      obtain ⟨q, hq⟩ : ∃ q, w2.heap.size = q := ⟨_, rfl⟩
      obtain ⟨w3, hw3⟩ : ∃ W, (w2.alloc (.cells #[.int .u8 0, .int .u8 0, .int .u8 0, .int .u8 0, .int .u8 0, .int .u8 0, .int .u8 0, .int .u8 0, .int .u8 0, .int .u8 0, .int .u8 0, .int .u8 0, .int .u8 0, .int .u8 0, .int .u8 0, .int .u8 0, .int .u8 0, .int .u8 0, .int .u8 0, .int .u8 0, .int .u8 0, .int .u8 0, .int .u8 0, .int .u8 0, .int .u8 0, .int .u8 0, .int .u8 0, .int .u8 0, .int .u8 0, .int .u8 0, .int .u8 0, .int .u8 0, .int .u8 0, .int .u8 0, .int .u8 0, .int .u8 0, .int .u8 0, .int .u8 0, .int .u8 0, .int .u8 0, .int .u8 0, .int .u8 0, .int .u8 0, .int .u8 0, .int .u8 0, .int .u8 0, .int .u8 0, .int .u8 0, .int .u8 0, .int .u8 0, .int .u8 0, .int .u8 0, .int .u8 0, .int .u8 0, .int .u8 0, .int .u8 0, .int .u8 0, .int .u8 0, .int .u8 0, .int .u8 0, .int .u8 0, .int .u8 0, .int .u8 0, .int .u8 0] 168)).setCells w2.heap.size 0 (bV S) = W := ⟨_, rfl⟩
      have HB3 : Hid (Below wr.heap.size wr w3) := Lib.hid (by rw [← hw3]; exact bthn HB2.out (belowSets (Nat.le_refl _) _ _ _ (balloc (Below.refl _ _) _)))
      have HQ3 : Hid (w3.rangeAt q 0 (bV S)) := Lib.hid (by rw [← hw3, ← hq]; exact World.rangeAt_setCells_same _ _ _ _ (by rw [bV_len, HSL.out]; exact thereOf (heap_alloc_new w2 _) (by simp)))
      have HQL : Hid (w.heap.size < wr.heap.size ∧ wr.heap.size ≤ q) := Lib.hid ⟨(Array.getElem?_eq_some_iff.1 HSR.out.2).1, by rw [← hq]; exact HB2.out.size⟩
      have HQ4 : Hid (q < w3.heap.size) := Lib.hid (by
        obtain ⟨u, hu⟩ : ∃ u, (bV S)[0]? = some u := ⟨_, List.getElem?_eq_getElem (by rw [bV_len, HSL.out]; decide)⟩
        exact World.block_lt_of_cell? w3 _ (HQ3.out 0 u hu))
      rw [hw3, hq]
      clear hw3 hq
      have HX3 : Hid (w3.heap[w.heap.size]? = some (.cells (bV (curB d.img k i)).toArray 50 (0, 0))) := Lib.hid ((HB3.out.block _ HQL.out.1).trans HSR.out.2)
      have HX3L := Lib.hid (Array.getElem?_eq_some_iff.1 HX3.out).1
      obtain ⟨dp, hdp, hsl⟩ := run_sliceL w w.heap.size i (by omega)
      obtain rfl := hdp hlt
      have hss := run_sliceSec q
      have hwi : IntKind.i64.wrap ((i : Int) * 64) = (i : Int) * 64 := IntWalk.i64_in _ ⟨by omega, by omega⟩
      have HCL := Lib.hid (curB_len HSEC.out HKN.out hi)
      have HSS : Hid (∀ X, Mods [w.heap.size] w3 X → (True) ∧ Mods [w.heap.size] w3 X) := Lib.hid (fun X hb => ⟨trivial, hb⟩)
      refine wp_region_held_drew (S := fun X => (True) ∧ Mods [w.heap.size] w3 X) (by kernel_rfl) (HSS.out _ (Mods.of_below (Below.refl _ _).drew)) (fun hHeld => ?_)
      have hbe : Below w3.heap.size w3 w3.drew := (Below.refl _ _).drew
      obtain ⟨wd, hwd⟩ : ∃ y, w3.drew = y := ⟨_, rfl⟩
      rw [hwd] at hHeld hbe ⊢
      have HBE := Lib.hid hbe
      have HS0 : Hid (w3.heap.size ≤ wd.heap.size) := Lib.hid HBE.out.size
      clear hwd hbe
      refine wpAnyH_take (i := 0) (v := ?_) rfl (by kernel_rfl) (by kernel_rfl) (by kernel_rfl) (fun _ _ _ h => h) (Or.inl ⟨by rfl, ?_⟩) (by assumption) ?_
      rotate_left
      · (intro w hSw; (try dsimp only at hSw); simp only [List.getElem_toArray, List.getElem_cons_zero, List.getElem_cons_succ]; go_simp; first | done | with_reducible rfl)
      simp only [List.getElem_toArray, List.getElem_cons_zero, List.getElem_cons_succ, Act.put, List.setIfInBounds_toArray, List.set_cons_zero, List.set_cons_succ]
      refine wpAnyH_take (i := 3) (v := ?_) rfl (by kernel_rfl) (by kernel_rfl) (by kernel_rfl) (fun _ _ _ h => h) (Or.inl ⟨by rfl, ?_⟩) (by assumption) ?_
      rotate_left
      · (intro w hSw; (try dsimp only at hSw); simp only [List.getElem_toArray, List.getElem_cons_zero, List.getElem_cons_succ]; go_simp; first | done | with_reducible rfl)
      simp only [List.getElem_toArray, List.getElem_cons_zero, List.getElem_cons_succ, Act.put, List.setIfInBounds_toArray, List.set_cons_zero, List.set_cons_succ]
      refine wpAnyH_take (i := 1) (v := ?_) rfl (by kernel_rfl) (by kernel_rfl) (by kernel_rfl) (fun _ _ _ h => h) (Or.inl ⟨by rfl, ?_⟩) (by assumption) ?_
      rotate_left
      · (intro w hSw; (try dsimp only at hSw); simp only [List.getElem_toArray, List.getElem_cons_zero, List.getElem_cons_succ]; go_simp; first | done | with_reducible rfl)
      simp only [List.getElem_toArray, List.getElem_cons_zero, List.getElem_cons_succ, Act.put, List.setIfInBounds_toArray, List.set_cons_zero, List.set_cons_succ]
      refine wpAnyH_take (i := 2) (v := ?_) rfl (by kernel_rfl) (by kernel_rfl) (by kernel_rfl) (fun _ _ _ h => h) (Or.inl ⟨by rfl, ?_⟩) (by assumption) ?_
      rotate_left
      · (intro w hSw; (try dsimp only at hSw); simp only [List.getElem_toArray, List.getElem_cons_zero, List.getElem_cons_succ]; go_simp; first | done | with_reducible rfl)
      simp only [List.getElem_toArray, List.getElem_cons_zero, List.getElem_cons_succ, Act.put, List.setIfInBounds_toArray, List.set_cons_zero, List.set_cons_succ]
      refine wpAnyH_ready (rs := [4]) (by kernel_rfl) (by simp) ?_
      refine AllReadyH.cons rfl (fun K hK => ?_) (AllReadyH.nil)
      obtain ⟨w4, hcp, hg4, hm4⟩ := run_copy_mid (P := Tryz.prog) wd 171 171 3 5 Tryz.underlying171 (by kernel_rfl) (some ⟨w.heap.size, i * 64, none⟩) (some ⟨q, 0, none⟩) (256 - i * 64) (256 - i * 64) 64 64 w.heap.size (i * 64) (bV (curB d.img k i)) 50 ((HBE.out.block _ HX3L.out).trans HX3.out) (bV S) (by rw [bV_len, HSL.out]; exact (Nat.min_eq_left (by omega)).symm) (fun _ => ⟨rfl, _, rfl, fun j v hv => by rw [Addr.add_lit]; exact rangeSt HQ3.out HQ4.out HBE.out j v hv⟩) (by rw [bV_len, bV_len, HSL.out, HCL.out]; omega) (bV_one S)
      rw [bV_len, HSL.out] at hcp
      simp only [List.getElem_toArray, List.getElem_cons_zero, List.getElem_cons_succ]
      go_simp
      refine hK.out _ _ ?_ (fun hHeld => ?_)
      · exact HSS.out _ ((Mods.of_below HBE.out).trans hm4 (fun i hi => .inl hi))
      clear hK K
      try simp only [Act.put, List.setIfInBounds_toArray, List.set_cons_zero, List.set_cons_succ]
      have HG4 := Lib.hid hg4
      have HM4 := Lib.hid hm4
      clear hg4 hm4 hcp
      refine wpAnyH_done (by kernel_rfl) ?_ _
      have HEND := Lib.hid hHeld.2
      have HSE := Lib.hid hHeld.1
      clear hHeld
      clear HSE HSS HEND
      have HFN := Lib.hid (srd_next HSR.out (bthn HB3.out HBE.out) HG4.out HM4.out HSEC.out HKN.out hlt HSG.out)
      go_wp2_with fail
      go_roundw
      case rel => exact ⟨i + 1, by omega, by go_num, HFN.out⟩
      case measure => simp [Go.RowKit.intOf]; omega
    · obtain rfl : i = 4 := by omega
      have hx := HSR.out.2
      rw [curB_end] at hx
      have HRL : Hid ((rdB d.img k).length = 256) := Lib.hid (rdB_len HSEC.out HKN.out)
      obtain ⟨R, hR⟩ : ∃ R, rdB d.img k = R := ⟨_, rfl⟩
      rw [hR] at hx HRL
      have HX := Lib.hid hx
      have HB := Lib.hid HSR.out.1
      have HRE := Lib.hid hR
      have hrb : (bV R).toArray.size = 256 := by rw [List.size_toArray, bV_len, HRL.out]
      have HRA : Hid (wr.rangeAt w.heap.size 0 (bV R)) := Lib.hid (rangeOf HX.out)
      have HTH : Hid (wr.there w.heap.size 0 256) := Lib.hid (thereOf HX.out (by rw [hrb]; exact Nat.le_refl _))
      clear hx hR
      go_wp2_with (first
        | (refine wpList_load_mid rfl 50 _ rfl w.heap.size 0 rfl (bV R) _ HRA.out Tryz.underlying50 rfl (by rw [bV_len, HRL.out]; exact infoBlk) ?_)
        | (refine wpList_store_mid rfl 50 _ _ rfl w.heap.size 0 (bV R).toArray rfl rfl (by rw [hrb]; exact HTH.out) (by rw [hrb]; exact infoBlk) (blk_one R) ?_))
      refine bodyPost_ret (v := .tuple #[bA R, .int .i64 0]) (res_blk rfl _ _ w.heap.size R _ rfl rfl (World.rangeAt_setCells_same _ _ _ _ (by rw [bV_len, HRL.out]; exact HTH.out)) HRL.out) rfl ⟨by rw [HRE.out], ?_⟩
      exact belowSets (Nat.le_refl _) _ _ _ HB.out
end Go.Proofs.YtcdobdjemlaaaaaGreat
