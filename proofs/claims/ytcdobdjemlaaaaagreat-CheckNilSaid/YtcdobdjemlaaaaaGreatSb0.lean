/- super: Block, walked. -/
import Derived.Lib.BufferWrite
import Derived.Test.YtcdobdjemlaaaaaGreatSm0
namespace Go.Proofs.YtcdobdjemlaaaaaGreat
open Go.RowKit Wire
set_option linter.unusedVariables false
set_option linter.unusedSimpArgs false

theorem infoSup : (Tryz.prog.info? 29).map (·.size) = some 19 := by kernel_rfl
theorem suV_list (s : Su) : ∃ L : List Value, suV s = .agg L.toArray ∧ L.length = 19 ∧ ∀ u ∈ L, u.oneCell' = true := ⟨_, rfl, rfl, fun u hu => by
  simp only [List.mem_cons, List.not_mem_nil, or_false] at hu
  rcases hu with rfl | rfl | rfl | rfl | rfl | rfl | rfl | rfl | rfl | rfl | rfl | rfl | rfl | rfl | rfl | rfl | rfl | rfl | rfl <;> rfl⟩
def su0 : List UInt8 := [0, 0, 0, 0, 86, 79, 73, 76] ++ zeros 248
theorem su0_len : su0.length = 256 := by
  unfold su0 zeros
  rw [List.length_append, List.length_replicate]
  rfl
/-- A byte of a number is laid, behind others. -/
theorem box_low2 {w : World} {q n k i j : Nat} {cur A : List UInt8} (h : BoxB w q (setL cur 8 (A ++ (low n k).take i))) (hi : i < k) (hj : j = 8 + A.length + i) : BoxB (w.setCell ⟨q, j, none⟩ (.int .u8 ((n : Int) / 2 ^ (8 * i) % 256))) q (setL cur 8 (A ++ (low n k).take (i + 1))) := by
  have h1 := h.set j (UInt8.ofNat (n / 256 ^ i % 256))
  rw [byte_val] at h1
  rw [low_take1 hi, ← List.append_assoc, setL_snoc, List.length_append, List.length_take, low_len, Nat.min_eq_left (Nat.le_of_lt hi), ← Nat.add_assoc, ← hj]
  exact h1
theorem putNs_take {l : List (Nat × Nat)} {k : Nat} {p : Nat × Nat} (h : l[k]? = some p) : putNs (l.take (k + 1)) = putNs (l.take k) ++ low p.1 p.2 := by
  rw [List.take_add_one, h]
  show putNs (l.take k ++ [p]) = _
  rw [putNs_app]
  congr 1
  show low p.1 p.2 ++ [] = _
  rw [List.append_nil]
theorem putNs_le (l : List (Nat × Nat)) (k : Nat) : (putNs (l.take k)).length ≤ (putNs l).length := by
  conv => rhs; rw [← List.take_append_drop k l, putNs_app]
  rw [List.length_append]
  omega
theorem su_end (l : List (Nat × Nat)) (h : (putNs l).length = 97) : (setL su0 8 (putNs l)).drop 4 = [86, 79, 73, 76] ++ putNs l ++ zeros 151 := by
  have e2 : zeros 248 = zeros 97 ++ zeros 151 := by
    unfold zeros
    rw [List.replicate_append_replicate]
  have e3 := setL_mid (putNs l) [0, 0, 0, 0, 86, 79, 73, 76] (zeros 97) (zeros 151) (by rw [h]; exact List.length_replicate)
  unfold su0
  rw [e2]
  refine (congrArg (List.drop 4) e3).trans ?_
  show [86, 79, 73, 76] ++ (putNs l ++ zeros 151) = _
  rw [List.append_assoc]
theorem cp_voil {w : World} {q : Nat} (h : BoxB w q (zeros 256)) : ∃ w4, (Builtin.copy_ #[171, 9] 3 #[.slice (some ⟨q, 4, none⟩) 252 252, .string ⟨#[86, 79, 73, 76]⟩]).run Tryz.prog w = .ok (.int .i64 4) w4 ∧ BoxB w4 q su0 ∧ Mods [q] w w4 := by
  have hcs : (bV (zeros 256)).toArray.size = 256 := by rw [List.size_toArray, bV_len]; exact List.length_replicate
  refine ⟨_, Lib.run_copy_row_string (P := Tryz.prog) w 171 9 3 5 q 4 252 252 ⟨#[86, 79, 73, 76]⟩ (bV (zeros 256)).toArray 50 Tryz.underlying171 (by kernel_rfl) h (by decide) (by rw [hcs]; decide), ?_, rfl, rfl, rfl, by simp [World.setRow], fun k hk hn => setRow_other w q k _ (by simpa using hn)⟩
  have h1 := setRow_heap w q (bV (zeros 256)).toArray ((bV (zeros 256)).toArray.toList.take 4 ++ Lib.byteCells (#[86, 79, 73, 76] : Array UInt8).toList ++ (bV (zeros 256)).toArray.toList.drop (4 + 4)).toArray 50 (0, 0) h
  unfold BoxB
  rw [show (bV su0).toArray = ((bV (zeros 256)).toArray.toList.take 4 ++ Lib.byteCells (#[86, 79, 73, 76] : Array UInt8).toList ++ (bV (zeros 256)).toArray.toList.drop (4 + 4)).toArray by kernel_rfl]
  exact h1
theorem nC_get : ∀ {l : List (Nat × Nat)} {k : Nat} {p : Nat × Nat}, l[k]? = some p → (nC l)[k * 2]? = some (.int .u64 (p.1 : Int)) ∧ (nC l)[k * 2 + 1]? = some (.int .u64 (p.2 : Int))
  | x :: l, 0, p, h => by obtain rfl := Option.some.inj h; exact ⟨rfl, rfl⟩
  | x :: l, k + 1, p, h => by
    obtain ⟨h1, h2⟩ := nC_get (l := l) (k := k) (p := p) (by simpa using h)
    have e : nC (x :: l) = .int .u64 (x.1 : Int) :: .int .u64 (x.2 : Int) :: nC l := rfl
    rw [e, show (k + 1) * 2 = k * 2 + 1 + 1 by omega]
    exact ⟨h1, h2⟩
set_option maxRecDepth 100000 in
set_option maxHeartbeats 12800000 in
theorem sblock_at (w : World) (s : Su) (hw : s.Wf) (hm : s.May) : Calls Tryz.prog 128 #[suV s] w fun e w' => e = .returned (.tuple #[bA s.bytes, .int .i64 0]) ∧ Below w.heap.size w w' := by
  have CMX : Hid (∀ X, Calls Tryz.prog 80 #[suV s] X fun e w' => e = .returned (.bool true) ∧ Below X.heap.size X w') := Lib.hid (fun X => smay_yes X s hw hm)
  have CNX : Hid (∀ X, Calls Tryz.prog 159 #[suV s] X fun e w' => ∃ v, e = .returned v ∧ w'.ownsRow X.heap.size 233 2 v 19 (nC s.nums) ∧ Below X.heap.size X w') := Lib.hid (fun X => snums_at X s hw hm)
  have HNK : Hid (s.nums.map (·.2) = suKs) := Lib.hid (Su.nums_ks hw.2.1)
  have HBY : Hid (s.bytes = sealB ([86, 79, 73, 76] ++ putNs s.nums ++ zeros 151)) := Lib.hid rfl
  obtain ⟨SL, hSL, hSn, hS1⟩ := suV_list s
  obtain ⟨ns, hns⟩ : ∃ x, s.nums = x := ⟨_, rfl⟩
  rw [hns] at CNX HNK HBY
  rw [hSL] at CMX CNX ⊢
  obtain ⟨R, hR⟩ : ∃ R, s.bytes = R := ⟨_, rfl⟩
  rw [hR] at HBY ⊢
  have HNL : Hid (ns.length = 19) := Lib.hid (by have := congrArg List.length HNK.out; rw [List.length_map] at this; exact this)
  have HPL : Hid ((putNs ns).length = 97) := Lib.hid (by rw [putNs_len, HNK.out]; rfl)
  clear hSL hns hR hw hm
  obtain ⟨w1, hw1⟩ : ∃ W, w.alloc (.cells SL.toArray 29) = W := ⟨_, rfl⟩
  have hb1 : Below w.heap.size w w1 := by rw [← hw1]; exact balloc (Below.refl _ _) _
  have hx1 : w1.heap[w.heap.size]? = some (.cells SL.toArray 29 (0, 0)) := by rw [← hw1]; exact heap_alloc_new _ _
  obtain ⟨w2, hw2⟩ : ∃ W, w1.alloc (.cells Tryz.zeroCells50 50) = W := ⟨_, rfl⟩
  have hb2 : Below w1.heap.size w1 w2 := by rw [← hw2]; exact balloc (Below.refl _ _) _
  have hx2 : BoxB w2 w1.heap.size (zeros 256) := by
    have e : (bV (zeros 256)).toArray = Tryz.zeroCells50 := by
      show (bV (List.replicate 256 0)).toArray = _
      kernel_rfl
    unfold BoxB
    rw [e, ← hw2]; exact heap_alloc_new _ _
  have HB2 := Lib.hid (bthn hb1 hb2)
  have HB01 := Lib.hid hb1
  have HQ : Hid (∀ X, Below w1.heap.size w1 X → X.rangeAt w.heap.size 0 SL) := Lib.hid (fun X hX => rangeOf ((hX.block _ (Array.getElem?_eq_some_iff.1 hx1).1).trans hx1))
  have HX2 := Lib.hid hx2
  have HB12 := Lib.hid hb2
  have HQL : Hid (w.heap.size < w1.heap.size) := Lib.hid (Array.getElem?_eq_some_iff.1 hx1).1
  have hs4 := run_slice4 w1.heap.size
  have HIS : Hid ((Tryz.prog.info? 29).map (·.size) = some SL.length) := Lib.hid (by rw [hSn]; exact infoSup)
  clear hb1 hx1 hb2 hx2
  go_enter Tryz.func128, Tryz.ntmps128
  go_upto_region 1 with fail
  (try rw [hw1, hw2])
  apply wp_region_lit
  repeat (first
    | (refine wpList_load_mid rfl 29 _ rfl w.heap.size 0 rfl SL _ (HQ.out _ HB12.out) Tryz.underlying29 rfl HIS.out ?_)
    | go_step)
  refine (CMX.out w2).mono ?_
  rintro e w3 ⟨rfl, hb3⟩
  dsimp only
  have HB3 := Lib.hid hb3
  have hx3 : BoxB w3 w1.heap.size (zeros 256) := (hb3.block _ (Array.getElem?_eq_some_iff.1 HX2.out).1).trans HX2.out
  obtain ⟨w4, hcp, hx4, hm4⟩ := cp_voil hx3
  have HX4 := Lib.hid hx4
  have HB13 : Hid (Below w1.heap.size w1 w3) := Lib.hid (bthn HB12.out hb3)
  have HB14 : Hid (Below w1.heap.size w1 w4) := Lib.hid (HB13.out.trans (hm4.below (fun k hk => by rw [List.mem_singleton.1 hk]; exact Nat.le_refl _) HB13.out.size))
  clear hb3 hx3 hx4 hm4 hw1 hw2
  go_upto_region 4 with fail
  apply wp_region_lit
  repeat (first
    | (refine wpList_load_mid rfl 29 _ rfl w.heap.size 0 rfl SL _ (HQ.out _ HB14.out) Tryz.underlying29 rfl HIS.out ?_)
    | go_step)
  refine (CNX.out w4).mono ?_
  rintro e w5 ⟨v5, rfl, ho5, hb5⟩
  dsimp only
  obtain ⟨g5, c5, cur5, rfl, hg5, hl5, hc51, hc52, hh5, hs5, ht5⟩ := rowSome ho5 (by omega)
  unfold maxLen at hc52
  have HX5 : Hid (BoxB w5 w1.heap.size (setL su0 8 (putNs (ns.take 0)))) := Lib.hid ((hb5.block _ (Array.getElem?_eq_some_iff.1 HX4.out).1).trans HX4.out)
  have HB15 : Hid (Below w1.heap.size w1 w5) := Lib.hid (HB14.out.trans (hb5.mono HB14.out.size))
  have HN5 : Hid (∀ (j : Nat) (u : Value), (nC ns)[j]? = some u → w5.cell? ⟨g5, j, none⟩ = some u) := Lib.hid (fun j u hj => by
    rw [← ht5, List.getElem?_take] at hj
    split at hj
    · exact cellOf hh5 j (by simpa using hj)
    · cases hj)
  have HG5 : Hid (g5 < w5.heap.size ∧ g5 ∉ [w1.heap.size]) := Lib.hid ⟨hl5, fun h => by
    have h1 := List.mem_singleton.1 h
    have h2 := (Array.getElem?_eq_some_iff.1 HX4.out).1
    omega⟩
  clear ho5 hb5 hg5 hl5 hh5 hs5 ht5 hcp
  go_wp2_with fail
  go_loopw [4, 20] (fun a v wr => ∃ k : Nat, k ≤ 19 ∧ v = .int .i64 (k : Int) ∧ a = .int .i64 ((8 + (putNs (ns.take k)).length : Nat) : Int) ∧ Mods [w1.heap.size] w5 wr ∧ BoxB wr w1.heap.size (setL su0 8 (putNs (ns.take k)))) (fun _ v _ => 19 - (Go.RowKit.intOf v).toNat)
  case atStart => exact ⟨0, by omega, rfl, rfl, Mods.refl _ _, HX5.out⟩
  case round =>
    obtain ⟨k, hk, rfl, rfl, hmo, hx⟩ := hrel
    have HMO := Lib.hid hmo
    have HX := Lib.hid hx
    clear hmo hx
    by_cases hlt : k < 19
    · obtain ⟨p, hp⟩ : ∃ p, ns[k]? = some p := ⟨_, List.getElem?_eq_getElem (by rw [HNL.out]; exact hlt)⟩
      obtain ⟨n0, n1⟩ := p
      have HPT := Lib.hid (putNs_take hp)
      have HPK := Lib.hid hp
      obtain ⟨hn0, hn1⟩ := nC_get hp
      have e0 := (World.cell?_of_block (a := ⟨g5, k * 2, none⟩) (HMO.out.block g5 HG5.out.1 HG5.out.2)).trans (HN5.out _ _ hn0)
      have e1 := (World.cell?_of_block (a := ⟨g5, k * 2 + 1, none⟩) (HMO.out.block g5 HG5.out.1 HG5.out.2)).trans (HN5.out _ _ hn1)
      dsimp only at e0 e1 HPT
      clear hp hn0 hn1
      have hn8 : n1 ≤ 8 := by
        have h1 : (ns.map (·.2))[k]? = some n1 := by rw [List.getElem?_map, HPK.out]; rfl
        rw [HNK.out] at h1
        exact (by decide : ∀ x ∈ suKs, x ≤ 8) n1 (List.mem_of_getElem? h1)
      have hle := putNs_le ns (k + 1)
      rw [HPT.out, HPL.out, List.length_append, low_len] at hle
      obtain ⟨A, hA⟩ : ∃ A, putNs (ns.take k) = A := ⟨_, rfl⟩
      rw [hA] at HPT HX hle ⊢
      obtain ⟨la, hla⟩ : ∃ n, A.length = n := ⟨_, rfl⟩
      have HLA := Lib.hid hla
      rw [hla] at hle ⊢
      clear hA hla
      go_wp2_with fail
      obtain ⟨wz, hwz⟩ : ∃ W, wr.alloc (.cells #[.int .u64 (n0 : Int), .int .u64 (n1 : Int)] 233) = W := ⟨_, rfl⟩
      have hbz : Below wr.heap.size wr wz := by rw [← hwz]; exact balloc (Below.refl _ _) _
      obtain ⟨zq, hzq⟩ : ∃ x, wr.heap.size = x := ⟨_, rfl⟩
      have HZ : Hid (wz.heap[zq]? = some (.cells #[.int .u64 (n0 : Int), .int .u64 (n1 : Int)] 233 (0, 0))) := Lib.hid (by rw [← hwz, ← hzq]; exact heap_alloc_new _ _)
      have HMZ : Hid (Mods [w1.heap.size] w5 wz) := Lib.hid (HMO.out.thenBelow hbz)
      have HXZ : Hid (BoxB wz w1.heap.size (setL su0 8 (A ++ (low n0 n1).take 0))) := Lib.hid (by rw [List.take_zero, List.append_nil]; exact (hbz.block _ (Array.getElem?_eq_some_iff.1 HX.out).1).trans HX.out)
      have HZN : Hid (zq ≠ w1.heap.size) := Lib.hid (by have := (Array.getElem?_eq_some_iff.1 HX.out).1; omega)
      rw [hwz, hzq]
      clear hwz hzq hbz e0 e1
      go_loopw [4, 26] (fun a v wr => ∃ i : Nat, i ≤ n1 ∧ v = .int .u64 (i : Int) ∧ a = .int .i64 ((8 + la + i : Nat) : Int) ∧ Mods [w1.heap.size] w5 wr ∧ wr.heap[zq]? = some (.cells #[.int .u64 (n0 : Int), .int .u64 (n1 : Int)] 233 (0, 0)) ∧ BoxB wr w1.heap.size (setL su0 8 (A ++ (low n0 n1).take i))) (fun _ v _ => n1 - (Go.RowKit.intOf v).toNat)
      case atStart => exact ⟨0, by omega, rfl, rfl, HMZ.out, HZ.out, HXZ.out⟩
      case round =>
        obtain ⟨i, hi, rfl, rfl, hmo, hz, hx⟩ := hrel
        have HMO2 := Lib.hid hmo
        have HZ2 := Lib.hid hz
        have HX2' := Lib.hid hx
        by_cases hlt2 : i < n1
        · obtain ⟨hc, hf⟩ := hx.cell (j := 8 + la + i) (by rw [setL_len, su0_len]; omega)
          have z0 := cellOf hz 0 (v := .int .u64 (n0 : Int)) rfl
          clear hmo hz hx
          go_wp2_with fail
          refine ⟨⟨i + 1, by omega, by go_num, by go_num, HMO2.out.setCell (p := ⟨w1.heap.size, 8 + la + i, none⟩) (List.mem_singleton.2 rfl) _, (Below.heap_setCell wr ⟨w1.heap.size, 8 + la + i, none⟩ _ zq HZN.out).trans HZ2.out, box_low2 HX2'.out hlt2 (by rw [HLA.out])⟩, by simp [Go.RowKit.intOf]; omega⟩
        · obtain rfl : i = n1 := by omega
          rw [List.take_of_length_le (by rw [low_len]; exact Nat.le_refl _), ← HPT.out] at hx
          have HXN := Lib.hid hx
          have HLL : Hid ((putNs (ns.take (k + 1))).length = la + i) := Lib.hid (by rw [HPT.out, List.length_append, low_len, HLA.out])
          clear hmo hz hx
          go_wp2_with fail
          go_roundw
          case rel => exact ⟨k + 1, by omega, by go_num, by rw [HLL.out, Nat.add_assoc], HMO2.out, HXN.out⟩
          case measure => simp [Go.RowKit.intOf]; omega
    · obtain rfl : k = 19 := by omega
      have hx := HX.out
      rw [List.take_of_length_le (by rw [HNL.out]; exact Nat.le_refl _)] at hx
      obtain ⟨C, hC⟩ : ∃ C, setL su0 8 (putNs ns) = C := ⟨_, rfl⟩
      rw [hC] at hx
      have HLC : Hid (C.length = 256) := Lib.hid (by rw [← hC, setL_len, su0_len])
      have HPE : Hid (sealB (C.drop 4) = R) := Lib.hid (by rw [← hC, su_end ns HPL.out, ← HBY.out])
      have HRL : Hid (R.length = 256) := Lib.hid (by
        rw [← HPE.out, sealB_len, List.length_drop, HLC.out])
      have HXC := Lib.hid hx
      have HBR : Hid (Below w1.heap.size w1 wr) := Lib.hid (HB15.out.trans (HMO.out.below (fun k hk => by rw [List.mem_singleton.1 hk]; exact Nat.le_refl _) HB15.out.size))
      have CC := crcsum_any wr _ 252 _ (rd_box4 hx HLC.out) (by omega)
      have HB0 := HB01
      clear hx hC
      go_wp2_with fail
      refine CC.mono ?_
      rintro e w6 ⟨rfl, hb6⟩
      obtain ⟨sm, hs⟩ : ∃ s, crcN (C.drop 4) = s := ⟨_, rfl⟩
      have hsl : sm < 4294967296 := by rw [← hs]; exact (crcN_eq _).2
      have HS := Lib.hid hs
      have HX6 : Hid (BoxB w6 w1.heap.size (setL C 0 ((low sm 4).take 0))) := Lib.hid ((hb6.block _ (Array.getElem?_eq_some_iff.1 HXC.out).1).trans HXC.out)
      have HB6 : Hid (Below w1.heap.size w1 w6) := Lib.hid (HBR.out.trans (hb6.mono HBR.out.size))
      rw [hs]
      clear CC hb6 hs
      go_wp2_with fail
      go_loopw [43] (fun v wr => ∃ i : Nat, i ≤ 4 ∧ v = .int .i64 (i : Int) ∧ Below w1.heap.size w1 wr ∧ BoxB wr w1.heap.size (setL C 0 ((low sm 4).take i))) (fun v _ => 4 - (Go.RowKit.intOf v).toNat)
      case atStart => exact ⟨0, by omega, rfl, HB6.out, HX6.out⟩
      case round =>
        obtain ⟨j, hj, rfl, hb, hx⟩ := hrel
        have HB := Lib.hid hb
        have HXJ := Lib.hid hx
        by_cases hlt : j < 4
        · obtain ⟨hc, hf⟩ := hx.cell (j := j) (by rw [setL_len, HLC.out]; omega)
          clear hb hx
          go_wp2_with fail
          refine ⟨⟨j + 1, by omega, by go_num, HB.out.setCell (p := ⟨w1.heap.size, j, none⟩) (Nat.le_refl _) _, box_low0 HXJ.out hlt⟩, by simp [Go.RowKit.intOf]; omega⟩
        · obtain rfl : j = 4 := by omega
          rw [List.take_of_length_le (by rw [low_len]; exact Nat.le_refl _), ← HS.out, sealB_set HLC.out, HPE.out] at hx
          have HRA : Hid (wr.rangeAt w1.heap.size 0 (bV R)) := Lib.hid (rangeOf hx)
          have hrb : (bV R).toArray.size = 256 := by rw [List.size_toArray, bV_len, HRL.out]
          have HTH : Hid (wr.there w1.heap.size 0 256) := Lib.hid (thereOf hx (by rw [hrb]; exact Nat.le_refl _))
          clear hb hx
          go_wp2_with (first
            | (refine wpList_load_mid rfl 50 _ rfl w1.heap.size 0 rfl (bV R) _ HRA.out Tryz.underlying50 rfl (by rw [bV_len, HRL.out]; exact infoBlk) ?_)
            | (refine wpList_store_mid rfl 50 _ _ rfl w1.heap.size 0 (bV R).toArray rfl rfl (by rw [hrb]; exact HTH.out) (by rw [hrb]; exact infoBlk) (blk_one R) ?_))
          refine bodyPost_ret (v := .tuple #[bA R, .int .i64 0]) (res_blk rfl _ _ w1.heap.size R _ rfl rfl (World.rangeAt_setCells_same _ _ _ _ (by rw [bV_len, HRL.out]; exact HTH.out)) HRL.out) rfl ⟨rfl, ?_⟩
          exact bthn HB0.out (belowSets (Nat.le_refl _) _ _ _ HB.out)
end Go.Proofs.YtcdobdjemlaaaaaGreat
