import Derived.Test.YtgmahhdnjikdjaaGreatVG5
set_option linter.unusedVariables false
set_option linter.unusedSimpArgs false
/- page: Pages, Block, walked. -/
namespace Go.Proofs.YtgmahhdnjikdjaaGreat
open Go.RowKit Wire
set_option linter.unusedVariables false
set_option linter.unusedSimpArgs false
/-- How many pages. -/
def pagesN (n : Nat) : Nat := if n = 0 then 0 else (n - 1) / 120 + 1
set_option maxRecDepth 100000 in
set_option maxHeartbeats 1600000 in
theorem pages_any (w : World) (n : Nat) (hn : n ≤ 1000000) : Calls Tryz.prog 134 #[.int .i64 (n : Int)] w fun e w' => e = .returned (.int .i64 (pagesN n : Int)) ∧ w = w' := by
 unfold pagesN
 by_cases h : n = 0
 ·subst h
  go_enter Tryz.func134, Tryz.ntmps134
  go_wp2_with fail
  go_ret
  exact ⟨rfl, rfl⟩
 ·rw [if_neg h]
  obtain ⟨m, rfl⟩ : ∃ m, n = m + 1 := ⟨n - 1, by omega⟩
  have hq : Int.tdiv ((m : Nat) : Int) 120 = ((m / 120 : Nat) : Int) := rfl
  have hw1 : IntKind.i64.wrap (((m + 1 : Nat) : Int) - 1) = (m : Int) := by rw [IntWalk.i64_in _ ⟨by omega, by omega⟩]; omega
  have hw2 : IntKind.i64.wrap ((m / 120 : Nat) : Int) = ((m / 120 : Nat) : Int) := IntWalk.i64_in _ ⟨by omega, by omega⟩
  go_enter Tryz.func134, Tryz.ntmps134
  go_wp2_with fail
  go_ret
  refine ⟨?_, rfl⟩
  rw [show (((m + 1 - 1) / 120 + 1 : Nat) : Int) = (m : Int) / 120 + 1 by omega]
  rfl
theorem setL_snoc {α : Type} : ∀ (Y : List α) (xs : List α) (o : Nat) (y : α), setL xs o (Y ++ [y]) = (setL xs o Y).set (o + Y.length) y
 | [], _, _, _ => rfl
 | z :: Y, xs, o, y => by
  show setL (xs.set o z) (o + 1) (Y ++ [y]) = _
  rw [setL_snoc Y, List.length_cons, show o + 1 + Y.length = o + (Y.length + 1) by omega]
  rfl
theorem run_slice4 (g : Nat) : ∀ W, (Instr.sliceAt 78 (.pointer (some ⟨g, 0, none⟩)) (some (.int .i64 4)) none none).run Tryz.prog W = .ok (.slice (some ⟨g, 4, none⟩) 252 252) W := fun W => by
 have hl : Tryz.prog.arrayLen 78 = 256 := by kernel_rfl
 have hs : ∀ W, (sizeOf (Tryz.prog.elem 78)).run Tryz.prog W = .ok 1 W := fun W => by kernel_rfl
 rw [run_sliceAt_array_l (P := Tryz.prog) W 78 ⟨g, 0, none⟩ (by kernel_rfl) .i64 4 (by omega) (by rw [hl]; omega), hs, hl]
 simp [Result.andThen_ok, slicedAt, Addr.add_lit]
/-- A block in a box. -/
def BoxB (w : World) (q : Nat) (bs : List UInt8) : Prop := w.heap[q]? = some (.cells (bV bs).toArray 78 (0, 0))
theorem BoxB.cell {w : World} {q : Nat} {bs : List UInt8} (h : BoxB w q bs) {j : Nat} (hj : j < bs.length) : w.cell? ⟨q, j, none⟩ = some (.int .u8 ((bs[j]'hj).toNat : Int)) ∧ w.frozen? ⟨q, j, none⟩ = false :=
 ⟨cellOf h j (by simpa using bV_get (List.getElem?_eq_getElem hj)), frozenOf h j⟩
theorem BoxB.set {w : World} {q : Nat} {bs : List UInt8} (h : BoxB w q bs) (j : Nat) (b : UInt8) : BoxB (w.setCell ⟨q, j, none⟩ (.int .u8 (b.toNat : Int))) q (bs.set j b) := by
 have h1 := setOf h j (.int .u8 (b.toNat : Int))
 unfold BoxB
 rw [h1]
 congr 2
 apply Array.toList_inj.1
 simp [bV, List.map_set]
/-- Counts as cells. -/
def cV (cs : List Nat) : List Value := cs.map fun c => .int .u16 ((c : Nat) : Int)
theorem cV_len (cs : List Nat) : (cV cs).length = cs.length := by simp [cV]
theorem cV_get {cs : List Nat} {j c : Nat} (h : cs[j]? = some c) : (cV cs)[j]? = some (.int .u16 (c : Int)) := by simp [cV, h]
/-- A number's bytes, by their places. -/
theorem low_get : ∀ (k n i : Nat), i < k → (low n k)[i]? = some (UInt8.ofNat (n / 256 ^ i % 256))
 | k + 1, n, 0, _ => by simp [low]
 | k + 1, n, i + 1, h => by
  show (low (n / 256) k)[i]? = _
  rw [low_get k (n / 256) i (by omega), Nat.div_div_eq_div_mul, Nat.pow_succ, Nat.mul_comm 256]
theorem low_take1 {n k i : Nat} (h : i < k) : (low n k).take (i + 1) = (low n k).take i ++ [UInt8.ofNat (n / 256 ^ i % 256)] := by
 rw [List.take_add_one, low_get k n i h]
 rfl
theorem ofNat_to (x : Nat) : ((UInt8.ofNat (x % 256)).toNat : Int) = ((x % 256 : Nat) : Int) := by simp
theorem pow8 (i : Nat) : (2 : Nat) ^ (8 * i) = 256 ^ i := by rw [Nat.pow_mul]
theorem byte_val (n i : Nat) : ((UInt8.ofNat (n / 256 ^ i % 256)).toNat : Int) = (n : Int) / 2 ^ (8 * i) % 256 := by
 rw [ofNat_to, ← pow8, Int.natCast_emod, Int.natCast_ediv, Int.natCast_pow]
 rfl
/-- A byte of a number is laid. -/
theorem box_low {w : World} {q o n k i : Nat} {cur : List UInt8} (h : BoxB w q (setL cur o ((low n k).take i))) (hi : i < k) : BoxB (w.setCell ⟨q, o + i, none⟩ (.int .u8 ((n : Int) / 2 ^ (8 * i) % 256))) q (setL cur o ((low n k).take (i + 1))) := by
 have h1 := h.set (o + i) (UInt8.ofNat (n / 256 ^ i % 256))
 rw [byte_val] at h1
 rw [low_take1 hi, setL_snoc, List.length_take, low_len, Nat.min_eq_left (Nat.le_of_lt hi)]
 exact h1
theorem box_low0 {w : World} {q n k i : Nat} {cur : List UInt8} (h : BoxB w q (setL cur 0 ((low n k).take i))) (hi : i < k) : BoxB (w.setCell ⟨q, i, none⟩ (.int .u8 ((n : Int) / 2 ^ (8 * i) % 256))) q (setL cur 0 ((low n k).take (i + 1))) := by
 have h1 := box_low h hi
 rwa [Nat.zero_add] at h1
def cs2 (cs : List Nat) : List (Nat × Nat) := cs.map fun c => (c, 2)
theorem low2 (c : Nat) : low c 2 = [UInt8.ofNat (c % 256), UInt8.ofNat (c / 256 % 256)] := rfl
theorem cs2_len (cs : List Nat) : (putNs (cs2 cs)).length = 2 * cs.length := by rw [putNs_len]; exact map_sum_two cs
theorem box_two {w : World} {q i c : Nat} {cur : List UInt8} {cs : List Nat} (h : BoxB w q (setL cur 16 (putNs (cs2 (cs.take i))))) (hc : cs[i]? = some c) (hcb : c < 65536) :
  BoxB ((w.setCell ⟨q, 16 + 2 * i, none⟩ (.int .u8 ((c : Int) % 256))).setCell ⟨q, 16 + 2 * i + 1, none⟩ (.int .u8 ((c : Int) / 256))) q (setL cur 16 (putNs (cs2 (cs.take (i + 1))))) := by
 have hl : (cs.take i).length = i := by
  have := (List.getElem?_eq_some_iff.1 hc).1
  rw [List.length_take]; omega
 have h1 := (h.set (16 + 2 * i) (UInt8.ofNat (c % 256))).set (16 + 2 * i + 1) (UInt8.ofNat (c / 256 % 256))
 rw [ofNat_to, ofNat_to, show ((c % 256 : Nat) : Int) = (c : Int) % 256 by omega, show ((c / 256 % 256 : Nat) : Int) = (c : Int) / 256 by omega] at h1
 have e : putNs (cs2 (cs.take (i + 1))) = (putNs (cs2 (cs.take i)) ++ [UInt8.ofNat (c % 256)]) ++ [UInt8.ofNat (c / 256 % 256)] := by
  rw [List.take_add_one, hc]
  unfold cs2
  rw [List.map_append, putNs_app]
  show _ ++ (low c 2 ++ []) = _
  rw [low2, List.append_nil, List.append_assoc]
  rfl
 rw [e, setL_snoc, setL_snoc, List.length_append, cs2_len, hl]
 exact h1
theorem rd_box4 {w : World} {q : Nat} {bs : List UInt8} (h : BoxB w q bs) (hl : bs.length = 256) : Rd w 1 (.slice (some ⟨q, 4, none⟩) 252 252) 252 (bV (bs.drop 4)) := by
 have hq : q < w.heap.size := (Array.getElem?_eq_some_iff.1 h).1
 refine ⟨_, 252, rfl, by rw [bV_len, List.length_drop, hl], by unfold maxLen; omega, ⟨by simp, Nat.le_refl _, by unfold maxLen; omega⟩, fun j u hj => ⟨q, 4, rfl, hq, ?_⟩⟩
 rw [bV_get?, List.getElem?_drop, ← bV_get?] at hj
 exact cellOf h (4 + j) (by simpa using hj)
/-- The page's bytes ahead of the loops. -/
def pg0 (idx : Nat) : List UInt8 := splice (zeros 256) 4 [80, 71, UInt8.ofNat idx]
theorem pg_end (no idx : Nat) (cs : List Nat) (h : cs.length ≤ 120) : (setL (setL (pg0 idx) 8 (low no 4)) 16 (putNs (cs2 cs))).drop 4 = pageBody no idx cs := by
 have e0 : pg0 idx = [0, 0, 0, 0, 80, 71, UInt8.ofNat idx, 0] ++ (zeros 4 ++ zeros 244) := by kernel_rfl
 have e1 : setL (pg0 idx) 8 (low no 4) = [0, 0, 0, 0, 80, 71, UInt8.ofNat idx, 0] ++ (low no 4 ++ zeros 244) := by
  rw [e0]
  exact setL_mid (low no 4) [0, 0, 0, 0, 80, 71, UInt8.ofNat idx, 0] (zeros 4) (zeros 244) (by rw [low_len]; rfl)
 have e2 : zeros 244 = zeros 4 ++ (zeros (2 * cs.length) ++ zeros (240 - 2 * cs.length)) := by
  unfold zeros
  rw [List.replicate_append_replicate, List.replicate_append_replicate]
  congr 1
  omega
 have e3 := setL_mid (putNs (cs2 cs)) ([0, 0, 0, 0, 80, 71, UInt8.ofNat idx, 0] ++ (low no 4 ++ zeros 4)) (zeros (2 * cs.length)) (zeros (240 - 2 * cs.length)) (by rw [cs2_len]; exact List.length_replicate)
 have e4 : ([0, 0, 0, 0, 80, 71, UInt8.ofNat idx, 0] ++ (low no 4 ++ zeros 4)).length = 16 := by
  rw [List.length_append, List.length_append, low_len]; rfl
 rw [e4] at e3
 have e5 : setL (pg0 idx) 8 (low no 4) = ([0, 0, 0, 0, 80, 71, UInt8.ofNat idx, 0] ++ (low no 4 ++ zeros 4)) ++ (zeros (2 * cs.length) ++ zeros (240 - 2 * cs.length)) := by
  rw [e1, e2]
  simp only [List.append_assoc]
 rw [e5, e3]
 show [80, 71, UInt8.ofNat idx, 0] ++ (low no 4 ++ zeros 4) ++ (putNs (cs2 cs) ++ zeros (240 - 2 * cs.length)) = _
 unfold pageBody cs2
 simp only [List.append_assoc]
theorem sealB_set {cur : List UInt8} (h : cur.length = 256) : setL cur 0 (low (crcN (cur.drop 4)) 4) = sealB (cur.drop 4) := by
 have e := setL_mid (low (crcN (cur.drop 4)) 4) [] (cur.take 4) (cur.drop 4) (by rw [List.length_take, low_len]; omega)
 rw [List.nil_append, List.take_append_drop] at e
 exact e
theorem pg0_len (idx : Nat) : (pg0 idx).length = 256 := by
 have h0 : (zeros 256).length = 256 := List.length_replicate
 unfold pg0
 rw [length_splice _ _ _ (by rw [h0]; show 4 + 3 ≤ 256; omega), h0]
set_option maxRecDepth 100000 in
set_option maxHeartbeats 6400000 in
theorem pblock_at (w : World) (no idx : Nat) (hno : no < 4294967296) (hidx : idx ≤ 255) (v : Value) (m : Nat) (cs : List Nat) (hrd : Rd w 1 v m (cV cs)) (hm : m ≤ 120) (hcs : ∀ c ∈ cs, c < 65536) :
  Calls Tryz.prog 135 #[.int .u32 (no : Int), .int .i64 (idx : Int), v] w fun e w' => e = .returned (.tuple #[bA (pageB no idx cs), .int .i64 0]) ∧ Below w.heap.size w w' := by
 obtain ⟨w1, hw1⟩ : ∃ W, w.alloc (.cells Tryz.zeroCells78 78) = W := ⟨_, rfl⟩
 have hb1 : Below w.heap.size w w1 := by rw [← hw1]; exact balloc (Below.refl _ _) _
 have HX1 : Hid (BoxB w1 w.heap.size (zeros 256)) := Lib.hid (by
  have e : (bV (zeros 256)).toArray = Tryz.zeroCells78 := by
   show (bV (List.replicate 256 0)).toArray = _
   kernel_rfl
  unfold BoxB
  rw [e, ← hw1]; exact heap_alloc_new _ _)
 have HB1 := Lib.hid hb1
 have HRD := Lib.hid hrd
 have HCL : Hid (cs.length = m) := Lib.hid (by obtain ⟨_, _, _, hl, _⟩ := hrd; simpa [cV_len] using hl)
 obtain ⟨ao, cap, rfl, _, _, _, _⟩ := id hrd
 have hs4 := run_slice4 w.heap.size
 have hix : ((UInt8.ofNat idx).toNat : Int) = (idx : Int) := by rw [UInt8.toNat_ofNat']; omega
 have hbv : bV [80, 71, UInt8.ofNat idx] = [.int .u8 80, .int .u8 71, .int .u8 (idx : Int)] := by
  show [Value.int .u8 80, Value.int .u8 71, Value.int .u8 ((UInt8.ofNat idx).toNat : Int)] = _
  rw [hix]
 obtain ⟨w3, hcp, hg3, hm3⟩ := run_copy_mid (P := Tryz.prog) (w1.alloc (.cells #[.int .u8 80, .int .u8 71, .int .u8 (idx : Int)] 5)) 153 153 3 5 Tryz.underlying153 (by kernel_rfl) (some ⟨w.heap.size, 4, none⟩) (some ⟨w1.heap.size, 0, none⟩) 252 252 3 3 w.heap.size 4 (bV (zeros 256)) 78 (((balloc (Below.refl _ _) _).block _ (Array.getElem?_eq_some_iff.1 HX1.out).1).trans HX1.out) (bV [80, 71, UInt8.ofNat idx]) rfl (fun _ => ⟨rfl, _, rfl, fun j v hv => by
  rw [Addr.add_lit, Nat.zero_add]
  refine cellOf (heap_alloc_new w1 _) j ?_
  rw [hbv] at hv
  simpa using hv⟩) (by rw [bV_len, bV_len, show (zeros 256).length = 256 from List.length_replicate]; show 4 + 3 ≤ 256; omega) (bV_one _)
 rw [show ((bV [80, 71, UInt8.ofNat idx]).length : Int) = 3 from rfl] at hcp
 have HX3 : Hid (BoxB w3 w.heap.size (setL (pg0 idx) 8 ((low no 4).take 0))) := Lib.hid (by
  rw [bV_splice] at hg3
  exact hg3)
 have HB3 : Hid (Below w.heap.size w w3) := Lib.hid (by
  have h2 := bthn hb1 (balloc (Below.refl w1.heap.size w1) (.cells #[.int .u8 80, .int .u8 71, .int .u8 (idx : Int)] 5))
  exact h2.trans (hm3.below (fun k hk => by rw [List.mem_singleton.1 hk]; exact Nat.le_refl _) h2.size))
 clear hrd hb1 hg3 hm3
 go_enter Tryz.func135, Tryz.ntmps135
 go_wp2_with fail
 go_loopw [30] (fun v wr => ∃ i : Nat, i ≤ 4 ∧ v = .int .i64 (i : Int) ∧ Below w.heap.size w wr ∧ BoxB wr w.heap.size (setL (pg0 idx) 8 ((low no 4).take i))) (fun v _ => 4 - (Go.RowKit.intOf v).toNat)
 case atStart => exact ⟨0, by omega, rfl, HB3.out, HX3.out⟩
 case round =>
  obtain ⟨i, hi, rfl, hb, hx⟩ := hrel
  have HB := Lib.hid hb
  have HX := Lib.hid hx
  by_cases hlt : i < 4
  ·have hL := low_take1 (n := no) (k := 4) hlt
   obtain ⟨hc, hf⟩ := hx.cell (j := 8 + i) (by rw [setL_len, pg0_len]; omega)
   clear hb hx
   go_wp2_with fail
   refine ⟨⟨i + 1, by omega, by go_num, HB.out.setCell (p := ⟨w.heap.size, 8 + i, none⟩) (Nat.le_refl _) _, box_low HX.out hlt⟩, by simp [Go.RowKit.intOf]; omega⟩
  ·obtain rfl : i = 4 := by omega
   rw [List.take_of_length_le (by rw [low_len]; exact Nat.le_refl _)] at hx
   obtain ⟨A, hA⟩ : ∃ A, setL (pg0 idx) 8 (low no 4) = A := ⟨_, rfl⟩
   rw [hA] at hx
   have HA := Lib.hid hA
   have HAL : Hid (A.length = 256) := Lib.hid (by rw [← hA, setL_len, pg0_len])
   have HX4 : Hid (BoxB wr w.heap.size (setL A 16 (putNs (cs2 (cs.take 0))))) := Lib.hid hx
   have HB4 := Lib.hid hb
   clear hb hx hA HB HX
   go_wp2_with fail
   go_loopw [44] (fun v wr => ∃ i : Nat, i ≤ m ∧ v = .int .i64 (i : Int) ∧ Below w.heap.size w wr ∧ BoxB wr w.heap.size (setL A 16 (putNs (cs2 (cs.take i))))) (fun v _ => m - (Go.RowKit.intOf v).toNat)
   case atStart => exact ⟨0, by omega, rfl, HB4.out, HX4.out⟩
   case round =>
    obtain ⟨i, hi, rfl, hb, hx⟩ := hrel
    have HB := Lib.hid hb
    have HX := Lib.hid hx
    by_cases hlt : i < m
    ·obtain ⟨c, hc⟩ : ∃ c, cs[i]? = some c := ⟨_, List.getElem?_eq_getElem (by rw [HCL.out]; exact hlt)⟩
     have hcb := hcs c (List.mem_of_getElem? hc)
     obtain ⟨ao', cap', e1, _, _, _, hcell⟩ := (HRD.out.below hb)
     obtain ⟨rfl, _, rfl⟩ := Value.slice.inj e1
     obtain ⟨b0, off, rfl, hb0, hc0⟩ := hcell i _ (cV_get hc)
     obtain ⟨hd1, hf1⟩ := hx.cell (j := 16 + 2 * i) (by rw [setL_len, HAL.out]; omega)
     obtain ⟨hd2, hf2⟩ := (hx.set (16 + 2 * i) (UInt8.ofNat (c % 256))).cell (j := 16 + 2 * i + 1) (by rw [List.length_set, setL_len, HAL.out]; omega)
     rw [show (((UInt8.ofNat (c % 256)).toNat : Nat) : Int) = (c : Int) % 256 by rw [ofNat_to]; omega] at hd2 hf2
     have HC := Lib.hid hc
     clear hb hx hc e1 hcell hb0
     go_wp2_with fail
     refine ⟨⟨i + 1, by omega, by go_num, (HB.out.setCell (p := ⟨w.heap.size, 16 + 2 * i, none⟩) (Nat.le_refl _) _).setCell (p := ⟨w.heap.size, 16 + 2 * i + 1, none⟩) (Nat.le_refl _) _, box_two HX.out HC.out hcb⟩, by simp [Go.RowKit.intOf]; omega⟩
    ·obtain rfl : i = m := by omega
     rw [List.take_of_length_le (by rw [HCL.out]; exact Nat.le_refl _)] at hx
     obtain ⟨C, hC⟩ : ∃ C, setL A 16 (putNs (cs2 cs)) = C := ⟨_, rfl⟩
     rw [hC] at hx
     have HLC : Hid (C.length = 256) := Lib.hid (by rw [← hC, setL_len, HAL.out])
     have HPE : Hid (C.drop 4 = pageBody no idx cs) := Lib.hid (by rw [← hC, ← HA.out]; exact pg_end no idx cs (by rw [HCL.out]; exact hm))
     have HXC := Lib.hid hx
     have HBC := Lib.hid hb
     have CC := crcsum_any wr _ 252 _ (rd_box4 hx HLC.out) (by omega)
     clear hx hb hC HX HB
     go_wp2_with fail
     refine CC.mono ?_
     rintro e w5 ⟨rfl, hb5⟩
     obtain ⟨s, hs⟩ : ∃ s, crcN (C.drop 4) = s := ⟨_, rfl⟩
     have hsl : s < 4294967296 := by rw [← hs]; exact (crcN_eq _).2
     have HS := Lib.hid hs
     have HX5 : Hid (BoxB w5 w.heap.size (setL C 0 ((low s 4).take 0))) := Lib.hid ((hb5.block _ (Array.getElem?_eq_some_iff.1 HXC.out).1).trans HXC.out)
     have HB5 := Lib.hid (bthn HBC.out hb5)
     rw [hs]
     clear CC hb5 hs
     go_wp2_with fail
     go_loopw [66] (fun v wr => ∃ i : Nat, i ≤ 4 ∧ v = .int .i64 (i : Int) ∧ Below w.heap.size w wr ∧ BoxB wr w.heap.size (setL C 0 ((low s 4).take i))) (fun v _ => 4 - (Go.RowKit.intOf v).toNat)
     case atStart => exact ⟨0, by omega, rfl, HB5.out, HX5.out⟩
     case round =>
      obtain ⟨k, hk, rfl, hb, hx⟩ := hrel
      have HB := Lib.hid hb
      have HX := Lib.hid hx
      by_cases hlt : k < 4
      ·obtain ⟨hc, hf⟩ := hx.cell (j := k) (by rw [setL_len, HLC.out]; omega)
       clear hb hx
       go_wp2_with fail
       refine ⟨⟨k + 1, by omega, by go_num, HB.out.setCell (p := ⟨w.heap.size, k, none⟩) (Nat.le_refl _) _, box_low0 HX.out hlt⟩, by simp [Go.RowKit.intOf]; omega⟩
      ·obtain rfl : k = 4 := by omega
       rw [List.take_of_length_le (by rw [low_len]; exact Nat.le_refl _), ← HS.out, sealB_set HLC.out, HPE.out] at hx
       obtain ⟨R, hR⟩ : ∃ R, sealB (pageBody no idx cs) = R := ⟨_, rfl⟩
       rw [hR] at hx
       have HRL : Hid (R.length = 256) := Lib.hid (by rw [← hR]; exact pageB_len (by rw [HCL.out]; exact hm))
       have HRE : Hid (pageB no idx cs = R) := Lib.hid hR
       have HRA : Hid (wr.rangeAt w.heap.size 0 (bV R)) := Lib.hid (rangeOf hx)
       have hrb : (bV R).toArray.size = 256 := by rw [List.size_toArray, bV_len, HRL.out]
       have HTH : Hid (wr.there w.heap.size 0 256) := Lib.hid (thereOf hx (by rw [hrb]; exact Nat.le_refl _))
       clear hb hx hR
       go_wp2_with (first
        | (refine wpList_load_mid rfl 78 _ rfl w.heap.size 0 rfl (bV R) _ HRA.out Tryz.underlying78 rfl (by rw [bV_len, HRL.out]; exact infoBlk) ?_)
        | (refine wpList_store_mid rfl 78 _ _ rfl w.heap.size 0 (bV R).toArray rfl rfl (by rw [hrb]; exact HTH.out) (by rw [hrb]; exact infoBlk) (blk_one R) ?_))
       refine bodyPost_ret (v := .tuple #[bA R, .int .i64 0]) (res_blk rfl _ _ w.heap.size R _ rfl rfl (World.rangeAt_setCells_same _ _ _ _ (by rw [bV_len, HRL.out]; exact HTH.out)) HRL.out) rfl ⟨by rw [HRE.out], ?_⟩
       exact belowSets (Nat.le_refl _) _ _ _ HB.out
end Go.Proofs.YtgmahhdnjikdjaaGreat
/- page: Of (of a page that was made so), walked. -/
namespace Go.Proofs.YtgmahhdnjikdjaaGreat
open Go.RowKit Wire
set_option linter.unusedVariables false
set_option linter.unusedSimpArgs false
section
variable {P : Program} {ops : Array Oper} {Q : Exit → Act → World → Prop} {a : Act} {w : World} {rest : List Oper} {o : Oper}
theorem wpL_met (hw : Region.wanted o (yielded ops a.tmps) = true) (h : ∀ K : Act → World → Prop, (∀ a w, wpList P ops Q rest a w → K a w) → o.wp P a w K Q) : wpList P ops Q (o :: rest) a w :=
 wpList_step fun K hK => by simp only [hw, if_true]; exact h K hK
/-- A load of many cells, behind a guard that is met. -/
theorem wpL_load_met (hw : Region.wanted o (yielded ops a.tmps) = true) (ty : TypeId) (x : Operand) (ho : o.op = .load ty x) (b of : Nat) (hx : a.eval x = .pointer (some ⟨b, of, none⟩)) (cs : List Value) (d : TypeDesc) (hc : w.rangeAt b of cs)
  (hu : P.underlying ty = some d) (hd : d.isRow = true) (hi : (P.info? ty).map (·.size) = some cs.length)
  (h : wpList P ops Q rest (a.put o.dst (.agg cs.toArray)) w) : wpList P ops Q (o :: rest) a w := by
 refine wpL_met hw fun K hK => ?_
 unfold Oper.wp execOp
 simp only [ho, hx, Instr.loadAt, Instr.sureAddr, Sem.run_bind, Sem.run_pure, Result.andThen_ok, run_loadVar_mid w b of ty cs d hc hu hd hi]
 exact hK _ _ h
end
theorem bits_or_u16_nat (a b : Nat) (ha : a < 65536) (hb : b < 65536) : bits .or .u16 (a : Int) (b : Int) = ((a ||| b : Nat) : Int) := by
 have hx : a ||| b < 2 ^ 16 := Nat.or_lt_two_pow (by omega) (by omega)
 have h1 : (BitVec.ofInt 16 (a : Int)).toNat = a := by
  rw [BitVec.ofInt_natCast, BitVec.toNat_ofNat]; exact Nat.mod_eq_of_lt (by omega)
 have h2 : (BitVec.ofInt 16 (b : Int)).toNat = b := by
  rw [BitVec.ofInt_natCast, BitVec.toNat_ofNat]; exact Nat.mod_eq_of_lt (by omega)
 show IntKind.u16.wrap ((BitVec.ofInt 16 (a : Int) ||| BitVec.ofInt 16 (b : Int)).toNat : Int) = _
 rw [BitVec.toNat_or, h1, h2, IntKind.wrap_u16]
 omega
theorem or16 (lo hi : Nat) (h1 : lo < 256) (h2 : hi < 256) : bits .or .u16 (lo : Int) ((hi : Int) * 256) = ((lo + 256 * hi : Nat) : Int) := by
 rw [show ((hi : Int) * 256) = ((2 ^ 8 * hi : Nat) : Int) by omega, bits_or_u16_nat _ _ (by omega) (by omega), Nat.or_comm, ← Nat.two_pow_add_eq_or_of_lt (i := 8) (b := lo) (by omega) hi]
 congr 1
 omega
/-- Counts in a block. -/
def BoxC (w : World) (q : Nat) (cs : List Nat) : Prop := w.heap[q]? = some (.cells (cV cs).toArray 172 (0, 0))
theorem BoxC.cell {w : World} {q : Nat} {cs : List Nat} (h : BoxC w q cs) {j : Nat} (hj : j < cs.length) : w.cell? ⟨q, j, none⟩ = some (.int .u16 ((cs[j]'hj : Nat) : Int)) ∧ w.frozen? ⟨q, j, none⟩ = false :=
 ⟨cellOf h j (by simpa using cV_get (List.getElem?_eq_getElem hj)), frozenOf h j⟩
theorem BoxC.set {w : World} {q : Nat} {cs : List Nat} (h : BoxC w q cs) (j c : Nat) : BoxC (w.setCell ⟨q, j, none⟩ (.int .u16 (c : Int))) q (cs.set j c) := by
 have h1 := setOf h j (.int .u16 (c : Int))
 unfold BoxC
 rw [h1]
 congr 2
 apply Array.toList_inj.1
 simp [cV, List.map_set]
theorem BoxC.rd {w : World} {q n : Nat} {cs : List Nat} (h : BoxC w q cs) (hl : cs.length = n) (hn : n ≤ 1000000) : Rd w 1 (.slice (some ⟨q, 0, none⟩) n n) n (cV cs) := by
 have h1 := rdCells (n := n) (size := 1) h (by rw [List.size_toArray, cV_len, hl, Nat.mul_one]) hn
 exact h1
theorem putNs_at : ∀ {cs : List Nat} {i c : Nat}, cs[i]? = some c → (putNs (cs2 cs))[2 * i]? = some (UInt8.ofNat (c % 256)) ∧ (putNs (cs2 cs))[2 * i + 1]? = some (UInt8.ofNat (c / 256 % 256))
 | x :: cs, 0, c, h => by
  obtain rfl := Option.some.inj h
  exact ⟨rfl, rfl⟩
 | x :: cs, i + 1, c, h => by
  obtain ⟨h1, h2⟩ := putNs_at (cs := cs) (i := i) (c := c) (by simpa using h)
  have e : putNs (cs2 (x :: cs)) = UInt8.ofNat (x % 256) :: UInt8.ofNat (x / 256 % 256) :: putNs (cs2 cs) := rfl
  rw [e, show 2 * (i + 1) = 2 * i + 1 + 1 by omega]
  exact ⟨h1, h2⟩
theorem page_drop16 (no index : Nat) (cs : List Nat) : (pageB no index cs).drop 16 = putNs (cs2 cs) ++ zeros (240 - 2 * cs.length) := by
 unfold pageB
 rw [show (16 : Nat) = 4 + 12 from rfl, ← List.drop_drop, sealB_drop]
 unfold pageBody cs2
 have h3 : ([80, 71, UInt8.ofNat index, 0] ++ low no 4 ++ zeros 4 : List UInt8).length = 12 := by
  rw [List.length_append, List.length_append, low_len]; rfl
 have := List.drop_left (l₁ := ([80, 71, UInt8.ofNat index, 0] ++ low no 4 ++ zeros 4 : List UInt8)) (l₂ := putNs (cs.map fun n => (n, 2)) ++ zeros (240 - 2 * cs.length))
 rwa [h3] at this
theorem page_at {no index : Nat} {cs : List Nat} {i c : Nat} (h : cs[i]? = some c) : (pageB no index cs)[16 + 2 * i]? = some (UInt8.ofNat (c % 256)) ∧ (pageB no index cs)[16 + 2 * i + 1]? = some (UInt8.ofNat (c / 256 % 256)) := by
 obtain ⟨h1, h2⟩ := putNs_at h
 have hi := (List.getElem?_eq_some_iff.1 h).1
 have hl := cs2_len cs
 have e : ∀ j, j < 2 * cs.length → (pageB no index cs)[16 + j]? = (putNs (cs2 cs))[j]? := fun j hj => by
  rw [← List.getElem?_drop, page_drop16, List.getElem?_append_left (by omega)]
 rw [e _ (by omega), show 16 + 2 * i + 1 = 16 + (2 * i + 1) by omega, e _ (by omega)]
 exact ⟨h1, h2⟩
/-- Ahead of a count: the counts so far. -/
def POf (w wr : World) (q g : Nat) (b : List UInt8) (cs : List Nat) (i : Nat) : Prop := Below w.heap.size w wr ∧ BoxB wr q b ∧ BoxC wr g (setL (List.replicate 120 0) 0 (cs.take i))
theorem pof_next {w wr X : World} {q g : Nat} {b : List UInt8} {cs : List Nat} {i c : Nat} (h : POf w wr q g b cs i) (hX : Below wr.heap.size wr X) (hc : cs[i]? = some c) (hq : q ≠ g) (hg : w.heap.size ≤ g) : POf w (X.setCell ⟨g, i, none⟩ (.int .u16 (c : Int))) q g b cs (i + 1) := by
 obtain ⟨h1, h2, h3⟩ := h
 have hi := (List.getElem?_eq_some_iff.1 hc).1
 have h4 : BoxC X g (setL (List.replicate 120 0) 0 (cs.take i)) := (hX.block _ (Array.getElem?_eq_some_iff.1 h3).1).trans h3
 have h5 : BoxB X q b := (hX.block _ (Array.getElem?_eq_some_iff.1 h2).1).trans h2
 refine ⟨(bthn h1 hX).setCell (p := ⟨g, i, none⟩) hg _, (Below.heap_setCell X ⟨g, i, none⟩ _ q hq).trans h5, ?_⟩
 have h6 := h4.set i c
 rw [List.take_add_one, hc]
 show BoxC _ _ (setL _ _ (cs.take i ++ [c]))
 rw [setL_snoc, List.length_take, Nat.min_eq_left (Nat.le_of_lt hi), Nat.zero_add]
 exact h6
set_option maxRecDepth 100000 in
set_option maxHeartbeats 6400000 in
theorem pof_at (w : World) (no idx : Nat) (hno : no < 4294967296) (hidx : idx ≤ 255) (cs : List Nat) (hl : cs.length = 120) (hcs : ∀ c ∈ cs, c < 65536) :
  Calls Tryz.prog 137 #[.int .u32 (no : Int), .int .i64 (idx : Int), bA (pageB no idx cs)] w fun e w' => ∃ g, e = .returned (.tuple #[.slice (some ⟨g, 0, none⟩) 120 120, .int .i64 0]) ∧ BoxC w' g cs ∧ w.heap.size ≤ g ∧ Below w.heap.size w w' := by
 have HBL : Hid ((pageB no idx cs).length = 256) := Lib.hid (pageB_len (by omega))
 have HPA : Hid (∀ i c, cs[i]? = some c → (pageB no idx cs)[16 + 2 * i]? = some (UInt8.ofNat (c % 256)) ∧ (pageB no idx cs)[16 + 2 * i + 1]? = some (UInt8.ofNat (c / 256 % 256))) := Lib.hid (fun i c h => page_at h)
 have CBK : Hid (∀ X v, Rd X 1 v 120 (cV cs) → Calls Tryz.prog 135 #[.int .u32 (no : Int), .int .i64 (idx : Int), v] X fun e w' => e = .returned (.tuple #[bA (pageB no idx cs), .int .i64 0]) ∧ Below X.heap.size X w') := Lib.hid (fun X v hv => pblock_at X no idx hno hidx v 120 cs hv (by omega) hcs)
 obtain ⟨b, hb⟩ : ∃ b, pageB no idx cs = b := ⟨_, rfl⟩
 rw [hb] at HBL HPA CBK ⊢
 obtain ⟨q, hq⟩ : ∃ q, w.heap.size = q := ⟨_, rfl⟩
 obtain ⟨w1, hw1⟩ : ∃ W, w.alloc (.cells (bV b).toArray 78) = W := ⟨_, rfl⟩
 have hb1 : Below w.heap.size w w1 := by rw [← hw1]; exact balloc (Below.refl _ _) _
 have hx1 : BoxB w1 q b := by unfold BoxB; rw [← hw1, ← hq]; exact heap_alloc_new _ _
 obtain ⟨w2, hw2⟩ : ∃ W, w1.alloc (.cells (cV (List.replicate 120 0)).toArray 172) = W := ⟨_, rfl⟩
 have hb2 : Below w1.heap.size w1 w2 := by rw [← hw2]; exact balloc (Below.refl _ _) _
 obtain ⟨g, hg⟩ : ∃ g, w1.heap.size = g := ⟨_, rfl⟩
 have hmk : (Instr.makeSlice 188 (.int .i64 120) (.int .i64 120)).run Tryz.prog w1 = .ok (.slice (some ⟨g, 0, none⟩) 120 120) w2 := by
  rw [← hw2, ← hg]; kernel_rfl
 have HPO : Hid (POf w w2 q g b cs 0) := Lib.hid ⟨bthn hb1 hb2, (hb2.block _ (Array.getElem?_eq_some_iff.1 hx1).1).trans hx1, by
  show BoxC w2 g (List.replicate 120 0)
  unfold BoxC; rw [← hw2, ← hg]; exact heap_alloc_new _ _⟩
 have HQG : Hid (q ≠ g ∧ w.heap.size ≤ g) := Lib.hid ⟨by have := (Array.getElem?_eq_some_iff.1 hx1).1; omega, by rw [← hg]; exact hb1.size⟩
 have HLN := Lib.hid hl
 rw [show bA b = .agg (bV b).toArray from rfl]
 clear hb hb1 hx1 hw2 hb2 hg hl
 go_enter Tryz.func137, Tryz.ntmps137
 go_wp2_with fail
 (try rw [hw1, hq])
 clear hw1
 go_loopw [21] (fun v wr => ∃ i : Nat, i ≤ 120 ∧ v = .int .i64 (i : Int) ∧ POf w wr q g b cs i) (fun v _ => 120 - (Go.RowKit.intOf v).toNat)
 case atStart => exact ⟨0, by omega, rfl, HPO.out⟩
 case round =>
  obtain ⟨i, hi, rfl, hpo⟩ := hrel
  have HPO := Lib.hid hpo
  by_cases hlt : i < 120
  ·obtain ⟨c, hc⟩ : ∃ c, cs[i]? = some c := ⟨_, List.getElem?_eq_getElem (by rw [HLN.out]; exact hlt)⟩
   have HC := Lib.hid hc
   obtain ⟨hp1, hp2⟩ := HPA.out i c hc
   have hcb := hcs c (List.mem_of_getElem? hc)
   obtain ⟨lo, hlo⟩ : ∃ x, c % 256 = x := ⟨_, rfl⟩
   obtain ⟨hi8, hhi⟩ : ∃ x, c / 256 = x := ⟨_, rfl⟩
   have hl1 : lo < 256 := by omega
   have hl2 : hi8 < 256 := by omega
   have HOR : Hid (bits .or .u16 (lo : Int) ((hi8 : Int) * 256) = (c : Int)) := Lib.hid (by rw [or16 lo hi8 hl1 hl2]; omega)
   have HE1 : Hid (wr.cell? ⟨q, 16 + 2 * i, none⟩ = some (.int .u8 (lo : Int))) := Lib.hid (cellOf hpo.2.1 (16 + 2 * i) (by have h := bV_get hp1; rw [ofNat_to, hlo] at h; simpa using h))
   have HE2 : Hid (wr.cell? ⟨q, 16 + 2 * i + 1, none⟩ = some (.int .u8 (hi8 : Int))) := Lib.hid (cellOf hpo.2.1 (16 + 2 * i + 1) (by have h := bV_get hp2; rw [ofNat_to, hhi, Nat.mod_eq_of_lt hl2] at h; simpa using h))
   have HQL : Hid (q < wr.heap.size ∧ q ∉ [g]) := Lib.hid ⟨(Array.getElem?_eq_some_iff.1 hpo.2.1).1, fun h => HQG.out.1 (List.mem_singleton.1 h)⟩
   clear hpo hc hp1 hp2 hlo hhi
   have hw1 : IntKind.i64.wrap (2 * (i : Int)) = 2 * (i : Int) := IntWalk.i64_in _ ⟨by omega, by omega⟩
   have hw2 : IntKind.i64.wrap (16 + 2 * (i : Int)) = 16 + 2 * (i : Int) := IntWalk.i64_in _ ⟨by omega, by omega⟩
   have hw3 : IntKind.i64.wrap (16 + 2 * (i : Int) + 1) = 16 + 2 * (i : Int) + 1 := IntWalk.i64_in _ ⟨by omega, by omega⟩
   have hi1 : 0 ≤ 16 + 2 * (i : Int) ∧ 16 + 2 * (i : Int) < 256 := ⟨by omega, by omega⟩
   have hi2 : 0 ≤ 16 + 2 * (i : Int) + 1 ∧ 16 + 2 * (i : Int) + 1 < 256 := ⟨by omega, by omega⟩
   have ht1 : (16 + 2 * (i : Int)).toNat = 16 + 2 * i := by omega
   have ht2 : (16 + 2 * (i : Int) + 1).toNat = 16 + 2 * i + 1 := by omega
   have hm1 : IntKind.u16.wrap (lo : Int) = (lo : Int) := by rw [IntKind.wrap_u16]; omega
   have hm2 : IntKind.u16.wrap (hi8 : Int) = (hi8 : Int) := by rw [IntKind.wrap_u16]; omega
   have hm3 : IntKind.u16.wrap ((hi8 : Int) * 256) = (hi8 : Int) * 256 := by rw [IntKind.wrap_u16]; omega
   go_wp2_with fail
   have HSS : Hid (∀ X, Mods [g] wr X → (X.cell? ⟨q, 16 + 2 * i, none⟩ = some (.int .u8 (lo : Int)) ∧ X.cell? ⟨q, 16 + 2 * i + 1, none⟩ = some (.int .u8 (hi8 : Int))) ∧ Mods [g] wr X) := Lib.hid (fun X hb => ⟨⟨(World.cell?_of_block (hb.block _ (HQL.out.1) (HQL.out.2))).trans (HE1.out), (World.cell?_of_block (hb.block _ (HQL.out.1) (HQL.out.2))).trans (HE2.out)⟩, hb⟩)
   refine wp_region_held_drew (S := fun X => (X.cell? ⟨q, 16 + 2 * i, none⟩ = some (.int .u8 (lo : Int)) ∧ X.cell? ⟨q, 16 + 2 * i + 1, none⟩ = some (.int .u8 (hi8 : Int))) ∧ Mods [g] wr X) (by kernel_rfl) (HSS.out _ (Mods.of_below (Below.refl _ _).drew)) (fun hHeld => ?_)
   have hbe : Below wr.heap.size wr wr.drew := (Below.refl _ _).drew
   obtain ⟨wd, hwd⟩ : ∃ y, wr.drew = y := ⟨_, rfl⟩
   rw [hwd] at hHeld hbe ⊢
   have HBE := Lib.hid hbe
   have HS0 : Hid (wr.heap.size ≤ wd.heap.size) := Lib.hid HBE.out.size
   clear hwd hbe
   refine wpAnyH_take (i := 0) (v := ?_) rfl (by kernel_rfl) (by kernel_rfl) (by kernel_rfl) (fun _ _ _ h => h) (Or.inl ⟨by rfl, ?_⟩) (by assumption) ?_
   rotate_left
   ·(intro w hSw; (try dsimp only at hSw); simp only [List.getElem_toArray, List.getElem_cons_zero, List.getElem_cons_succ]; go_simp; first | done | with_reducible rfl)
   simp only [List.getElem_toArray, List.getElem_cons_zero, List.getElem_cons_succ, Act.put, List.setIfInBounds_toArray, List.set_cons_zero, List.set_cons_succ]
   refine wpAnyH_take (i := 1) (v := ?_) rfl (by kernel_rfl) (by kernel_rfl) (by kernel_rfl) (fun _ _ _ h => h) (Or.inl ⟨by rfl, ?_⟩) (by assumption) ?_
   rotate_left
   ·(intro w hSw; (try dsimp only at hSw); simp only [List.getElem_toArray, List.getElem_cons_zero, List.getElem_cons_succ]; go_simp; first | done | with_reducible rfl)
   simp only [List.getElem_toArray, List.getElem_cons_zero, List.getElem_cons_succ, Act.put, List.setIfInBounds_toArray, List.set_cons_zero, List.set_cons_succ]
   refine wpAnyH_take (i := 2) (v := ?_) rfl (by kernel_rfl) (by kernel_rfl) (by kernel_rfl) (fun _ _ _ h => h) (Or.inl ⟨by rfl, ?_⟩) (by assumption) ?_
   rotate_left
   ·(intro w hSw; (try dsimp only at hSw); simp only [List.getElem_toArray, List.getElem_cons_zero, List.getElem_cons_succ]; go_simp; first | done | with_reducible rfl)
   simp only [List.getElem_toArray, List.getElem_cons_zero, List.getElem_cons_succ, Act.put, List.setIfInBounds_toArray, List.set_cons_zero, List.set_cons_succ]
   refine wpAnyH_take (i := 8) (v := ?_) rfl (by kernel_rfl) (by kernel_rfl) (by kernel_rfl) (fun _ _ _ h => h) (Or.inl ⟨by rfl, ?_⟩) (by assumption) ?_
   rotate_left
   ·(intro w hSw; (try dsimp only at hSw); simp only [List.getElem_toArray, List.getElem_cons_zero, List.getElem_cons_succ]; go_simp; first | done | with_reducible rfl)
   simp only [List.getElem_toArray, List.getElem_cons_zero, List.getElem_cons_succ, Act.put, List.setIfInBounds_toArray, List.set_cons_zero, List.set_cons_succ]
   refine wpAnyH_take (i := 3) (v := ?_) rfl (by kernel_rfl) (by kernel_rfl) (by kernel_rfl) (fun _ _ _ h => h) (Or.inl ⟨by rfl, ?_⟩) (by assumption) ?_
   rotate_left
   ·(intro w hSw; (try dsimp only at hSw); simp only [List.getElem_toArray, List.getElem_cons_zero, List.getElem_cons_succ]; go_simp; first | done | with_reducible rfl)
   simp only [List.getElem_toArray, List.getElem_cons_zero, List.getElem_cons_succ, Act.put, List.setIfInBounds_toArray, List.set_cons_zero, List.set_cons_succ]
   refine wpAnyH_take (i := 9) (v := ?_) rfl (by kernel_rfl) (by kernel_rfl) (by kernel_rfl) (fun _ _ _ h => h) (Or.inl ⟨by rfl, ?_⟩) (by assumption) ?_
   rotate_left
   ·(intro w hSw; (try dsimp only at hSw); simp only [List.getElem_toArray, List.getElem_cons_zero, List.getElem_cons_succ]; go_simp; first | done | with_reducible rfl)
   simp only [List.getElem_toArray, List.getElem_cons_zero, List.getElem_cons_succ, Act.put, List.setIfInBounds_toArray, List.set_cons_zero, List.set_cons_succ]
   refine wpAnyH_take (i := 4) (v := ?_) rfl (by kernel_rfl) (by kernel_rfl) (by kernel_rfl) (fun _ _ _ h => h) (Or.inl ⟨by rfl, ?_⟩) (by assumption) ?_
   rotate_left
   ·(intro w hSw; (try dsimp only at hSw); simp only [List.getElem_toArray, List.getElem_cons_zero, List.getElem_cons_succ]; go_simp; first | done | with_reducible rfl)
   simp only [List.getElem_toArray, List.getElem_cons_zero, List.getElem_cons_succ, Act.put, List.setIfInBounds_toArray, List.set_cons_zero, List.set_cons_succ]
   refine wpAnyH_take (i := 10) (v := ?_) rfl (by kernel_rfl) (by kernel_rfl) (by kernel_rfl) (fun _ _ _ h => h) (Or.inl ⟨by rfl, ?_⟩) (by assumption) ?_
   rotate_left
   ·(intro w hSw; (try dsimp only at hSw); simp only [List.getElem_toArray, List.getElem_cons_zero, List.getElem_cons_succ]; go_simp; first | done | with_reducible rfl)
   simp only [List.getElem_toArray, List.getElem_cons_zero, List.getElem_cons_succ, Act.put, List.setIfInBounds_toArray, List.set_cons_zero, List.set_cons_succ]
   refine wpAnyH_take (i := 5) (v := ?_) rfl (by kernel_rfl) (by kernel_rfl) (by kernel_rfl) (fun _ _ _ h => h) (Or.inl ⟨by rfl, ?_⟩) (by assumption) ?_
   rotate_left
   ·(intro w hSw; (try dsimp only at hSw); simp only [List.getElem_toArray, List.getElem_cons_zero, List.getElem_cons_succ]; go_simp; first | done | with_reducible rfl)
   simp only [List.getElem_toArray, List.getElem_cons_zero, List.getElem_cons_succ, Act.put, List.setIfInBounds_toArray, List.set_cons_zero, List.set_cons_succ]
   refine wpAnyH_take (i := 11) (v := ?_) rfl (by kernel_rfl) (by kernel_rfl) (by kernel_rfl) (fun _ _ _ h => h) (Or.inl ⟨by rfl, ?_⟩) (by assumption) ?_
   rotate_left
   ·(intro w hSw; (try dsimp only at hSw); simp only [List.getElem_toArray, List.getElem_cons_zero, List.getElem_cons_succ]; go_simp; first | done | with_reducible rfl)
   simp only [List.getElem_toArray, List.getElem_cons_zero, List.getElem_cons_succ, Act.put, List.setIfInBounds_toArray, List.set_cons_zero, List.set_cons_succ]
   refine wpAnyH_take (i := 6) (v := ?_) rfl (by kernel_rfl) (by kernel_rfl) (by kernel_rfl) (fun _ _ _ h => h) (Or.inl ⟨by rfl, ?_⟩) (by assumption) ?_
   rotate_left
   ·(intro w hSw; (try dsimp only at hSw); simp only [List.getElem_toArray, List.getElem_cons_zero, List.getElem_cons_succ]; go_simp; first | done | with_reducible rfl)
   simp only [List.getElem_toArray, List.getElem_cons_zero, List.getElem_cons_succ, Act.put, List.setIfInBounds_toArray, List.set_cons_zero, List.set_cons_succ]
   refine wpAnyH_take (i := 12) (v := ?_) rfl (by kernel_rfl) (by kernel_rfl) (by kernel_rfl) (fun _ _ _ h => h) (Or.inl ⟨by rfl, ?_⟩) (by assumption) ?_
   rotate_left
   ·(intro w hSw; (try dsimp only at hSw); simp only [List.getElem_toArray, List.getElem_cons_zero, List.getElem_cons_succ]; go_simp; first | done | with_reducible rfl)
   simp only [List.getElem_toArray, List.getElem_cons_zero, List.getElem_cons_succ, Act.put, List.setIfInBounds_toArray, List.set_cons_zero, List.set_cons_succ]
   refine wpAnyH_take (i := 7) (v := ?_) rfl (by kernel_rfl) (by kernel_rfl) (by kernel_rfl) (fun _ _ _ h => h) (Or.inl ⟨by rfl, ?_⟩) (by assumption) ?_
   rotate_left
   ·(intro w hSw; (try dsimp only at hSw); simp only [List.getElem_toArray, List.getElem_cons_zero, List.getElem_cons_succ]; go_simp; first | done | with_reducible rfl)
   simp only [List.getElem_toArray, List.getElem_cons_zero, List.getElem_cons_succ, Act.put, List.setIfInBounds_toArray, List.set_cons_zero, List.set_cons_succ]
   refine wpAnyH_take (i := 13) (v := ?_) rfl (by kernel_rfl) (by kernel_rfl) (by kernel_rfl) (fun _ _ _ h => h) (Or.inl ⟨by rfl, ?_⟩) (by assumption) ?_
   rotate_left
   ·(intro w hSw; (try dsimp only at hSw); simp only [List.getElem_toArray, List.getElem_cons_zero, List.getElem_cons_succ]; go_simp; first | done | with_reducible rfl)
   simp only [List.getElem_toArray, List.getElem_cons_zero, List.getElem_cons_succ, Act.put, List.setIfInBounds_toArray, List.set_cons_zero, List.set_cons_succ]
   refine wpAnyH_take (i := 14) (v := ?_) rfl (by kernel_rfl) (by kernel_rfl) (by kernel_rfl) (fun _ _ _ h => h) (Or.inl ⟨by rfl, ?_⟩) (by assumption) ?_
   rotate_left
   ·(intro w hSw; (try dsimp only at hSw); simp only [List.getElem_toArray, List.getElem_cons_zero, List.getElem_cons_succ]; go_simp; first | done | with_reducible rfl)
   simp only [List.getElem_toArray, List.getElem_cons_zero, List.getElem_cons_succ, Act.put, List.setIfInBounds_toArray, List.set_cons_zero, List.set_cons_succ]
   refine wpAnyH_take (i := 15) (v := ?_) rfl (by kernel_rfl) (by kernel_rfl) (by kernel_rfl) (fun _ _ _ h => h) (Or.inl ⟨by rfl, ?_⟩) (by assumption) ?_
   rotate_left
   ·(intro w hSw; (try dsimp only at hSw); simp only [List.getElem_toArray, List.getElem_cons_zero, List.getElem_cons_succ]; go_simp; first | done | with_reducible rfl)
   simp only [List.getElem_toArray, List.getElem_cons_zero, List.getElem_cons_succ, Act.put, List.setIfInBounds_toArray, List.set_cons_zero, List.set_cons_succ]
   refine wpAnyH_take (i := 16) (v := .int .u16 (c : Int)) rfl (by kernel_rfl) (by kernel_rfl) (by kernel_rfl) (fun _ _ _ h => h) (Or.inl ⟨by rfl, ?_⟩) (by assumption) ?_
   ·(intro w hSw; simp only [List.getElem_toArray, List.getElem_cons_zero, List.getElem_cons_succ]; (have hor := HOR.out; go_simp; first | done | exact hor | (trace_state; omega)))
   simp only [List.getElem_toArray, List.getElem_cons_zero, List.getElem_cons_succ, Act.put, List.setIfInBounds_toArray, List.set_cons_zero, List.set_cons_succ]
   refine wpAnyH_take (i := 17) (v := ?_) rfl (by kernel_rfl) (by kernel_rfl) (by kernel_rfl) (fun _ _ _ h => h) (Or.inl ⟨by rfl, ?_⟩) (by assumption) ?_
   rotate_left
   ·(intro w hSw; (try dsimp only at hSw); simp only [List.getElem_toArray, List.getElem_cons_zero, List.getElem_cons_succ]; go_simp; first | done | with_reducible rfl)
   simp only [List.getElem_toArray, List.getElem_cons_zero, List.getElem_cons_succ, Act.put, List.setIfInBounds_toArray, List.set_cons_zero, List.set_cons_succ]
   refine wpAnyH_ready (rs := [18]) (by kernel_rfl) (by simp) ?_
   refine AllReadyH.cons rfl (fun K hK => ?_) (AllReadyH.nil)
   obtain ⟨hc18, hf18⟩ := (show BoxC wd g (setL (List.replicate 120 0) 0 (cs.take i)) from (HBE.out.block _ (Array.getElem?_eq_some_iff.1 HPO.out.2.2).1).trans HPO.out.2.2).cell (j := i) (by rw [setL_len, List.length_replicate]; exact hlt)
   simp only [List.getElem_toArray, List.getElem_cons_zero, List.getElem_cons_succ]
   go_simp
   refine hK.out _ _ ?_ (fun hHeld => ?_)
   ·exact HSS.out _ ((Mods.of_below HBE.out).setCell (p := ⟨g, i, none⟩) (List.mem_singleton.2 rfl) _)
   clear hK K
   try simp only [Act.put, List.setIfInBounds_toArray, List.set_cons_zero, List.set_cons_succ]
   refine wpAnyH_done (by kernel_rfl) ?_ _
   have HEND := Lib.hid hHeld.2
   have HSE := Lib.hid hHeld.1
   clear hHeld
   clear HSE HSS HEND
   have HFN := Lib.hid (pof_next HPO.out HBE.out HC.out HQG.out.1 HQG.out.2)
   go_wp2_with fail
   go_roundw
   case rel => exact ⟨i + 1, by omega, by go_num, HFN.out⟩
   case measure => simp [Go.RowKit.intOf]; omega
  ·obtain rfl : i = 120 := by omega
   have hcx : setL (List.replicate 120 0) 0 (cs.take 120) = cs := by
    rw [List.take_of_length_le (by rw [HLN.out]; exact Nat.le_refl _)]
    have e := setL_mid cs [] (List.replicate 120 0) [] (by rw [List.length_replicate, HLN.out])
    rw [List.append_nil, List.append_nil] at e
    exact e
   have HCX : Hid (BoxC wr g cs) := Lib.hid (by have h := hpo.2.2; rw [hcx] at h; exact h)
   have HBX : Hid (BoxB wr q b) := Lib.hid hpo.2.1
   have HBW := Lib.hid hpo.1
   have CB := CBK.out wr _ (HCX.out.rd HLN.out (by omega))
   clear hpo hcx HPO
   go_wp2_with fail
   refine CB.mono ?_
   rintro e w5 ⟨rfl, hb5⟩
   dsimp only
   have HB5 := Lib.hid (bthn HBW.out hb5)
   have HCX5 : Hid (BoxC w5 g cs) := Lib.hid ((hb5.block _ (Array.getElem?_eq_some_iff.1 HCX.out).1).trans HCX.out)
   have HBX5 : Hid (BoxB w5 q b) := Lib.hid ((hb5.block _ (Array.getElem?_eq_some_iff.1 HBX.out).1).trans HBX.out)
   have hrb : (bV b).toArray.size = 256 := by rw [List.size_toArray, bV_len, HBL.out]
   have hne : ∀ W, (binOp .neq 78 (bA b) (bA b)).run Tryz.prog W = .ok (.bool false) W := fun W => by
    have h := run_neq_bytes (P := Tryz.prog) W (t := 78) (e := 5) (n := 256) Tryz.underlying78 Tryz.underlying5 rfl rfl b b HBL.out HBL.out
    simpa using h
   rw [show bA b = .agg (bV b).toArray from rfl] at hne ⊢
   have HIB : Hid ((Tryz.prog.info? 78).map (·.size) = some (bV b).length) := Lib.hid (by rw [bV_len, HBL.out]; exact infoBlk)
   clear CB hb5
   have hst := run_storeNew (P := Tryz.prog) w5 78 Tryz.zeroCells78 (bV b).toArray (by rw [hrb]; kernel_rfl) (fun u hu => bV_one b u (by simpa using hu))
   have hb6 : Below w5.heap.size w5 (w5.alloc (.cells (bV b).toArray 78)) := balloc (Below.refl _ _) _
   have HR6 : Hid ((w5.alloc (.cells (bV b).toArray 78)).rangeAt w5.heap.size 0 (bV b)) := Lib.hid (rangeOf (heap_alloc_new w5 _))
   have HQ6 : Hid ((w5.alloc (.cells (bV b).toArray 78)).rangeAt q 0 (bV b)) := Lib.hid (rangeSt (rangeOf HBX5.out) (Array.getElem?_eq_some_iff.1 HBX5.out).1 hb6)
   have HB6 := Lib.hid hb6
   clear hb6
   go_wp2_with (first
    | (refine wpL_load_met (by kernel_rfl) 78 _ rfl w5.heap.size 0 rfl (bV b) _ HR6.out Tryz.underlying78 rfl HIB.out ?_)
    | (refine wpL_load_met (by kernel_rfl) 78 _ rfl q 0 rfl (bV b) _ HQ6.out Tryz.underlying78 rfl HIB.out ?_))
   go_ret2
   rw [← hq]
   exact ⟨g, rfl, (HB6.out.block _ (Array.getElem?_eq_some_iff.1 HCX5.out).1).trans HCX5.out, HQG.out.2, bthn HB5.out HB6.out⟩
end Go.Proofs.YtgmahhdnjikdjaaGreat
