/- page: Pages, Block, walked. -/
import Derived.Test.YtcdobdjemlaaaaaGreatSp1
import Derived.Test.YtcdobdjemlaaaaaGreatCrc
namespace Go.Proofs.YtcdobdjemlaaaaaGreat
open Go.RowKit Wire
set_option linter.unusedVariables false
set_option linter.unusedSimpArgs false

/-- How many pages. -/
def pagesN (n : Nat) : Nat := if n = 0 then 0 else (n - 1) / 120 + 1
set_option maxRecDepth 100000 in
set_option maxHeartbeats 1600000 in
theorem pages_any (w : World) (n : Nat) (hn : n ≤ 1000000) : Calls Tryz.prog 116 #[.int .i64 (n : Int)] w fun e w' => e = .returned (.int .i64 (pagesN n : Int)) ∧ w = w' := by
  unfold pagesN
  by_cases h : n = 0
  · subst h
    go_enter Tryz.func116, Tryz.ntmps116
    go_wp2_with fail
    go_ret
    exact ⟨rfl, rfl⟩
  · rw [if_neg h]
    obtain ⟨m, rfl⟩ : ∃ m, n = m + 1 := ⟨n - 1, by omega⟩
    have hq : Int.tdiv ((m : Nat) : Int) 120 = ((m / 120 : Nat) : Int) := rfl
    have hw1 : IntKind.i64.wrap (((m + 1 : Nat) : Int) - 1) = (m : Int) := by rw [IntWalk.i64_in _ ⟨by omega, by omega⟩]; omega
    have hw2 : IntKind.i64.wrap ((m / 120 : Nat) : Int) = ((m / 120 : Nat) : Int) := IntWalk.i64_in _ ⟨by omega, by omega⟩
    go_enter Tryz.func116, Tryz.ntmps116
    go_wp2_with fail
    go_ret
    refine ⟨?_, rfl⟩
    rw [show (((m + 1 - 1) / 120 + 1 : Nat) : Int) = (m : Int) / 120 + 1 by omega]
    rfl
theorem setL_snoc {α : Type} : ∀ (Y : List α) (xs : List α) (o : Nat) (y : α), setL xs o (Y ++ [y]) = (setL xs o Y).set (o + Y.length) y
  | [], _, _, _ => rfl
  | z :: Y, xs, o, y => by
    show setL (xs.set o z) (o + 1) (Y ++ [y]) = _
    rw [setL_snoc Y, List.length_cons, show o + 1 + Y.length = o + (Y.length + 1) by omega]
    rfl
theorem run_slice4 (g : Nat) : ∀ W, (Instr.sliceAt 50 (.pointer (some ⟨g, 0, none⟩)) (some (.int .i64 4)) none none).run Tryz.prog W = .ok (.slice (some ⟨g, 4, none⟩) 252 252) W := fun W => by
  have hl : Tryz.prog.arrayLen 50 = 256 := by kernel_rfl
  have hs : ∀ W, (sizeOf (Tryz.prog.elem 50)).run Tryz.prog W = .ok 1 W := fun W => by kernel_rfl
  rw [run_sliceAt_array_l (P := Tryz.prog) W 50 ⟨g, 0, none⟩ (by kernel_rfl) .i64 4 (by omega) (by rw [hl]; omega), hs, hl]
  simp [Result.andThen_ok, slicedAt, Addr.add_lit]
/-- A block in a box. -/
def BoxB (w : World) (q : Nat) (bs : List UInt8) : Prop := w.heap[q]? = some (.cells (bV bs).toArray 50 (0, 0))
theorem BoxB.cell {w : World} {q : Nat} {bs : List UInt8} (h : BoxB w q bs) {j : Nat} (hj : j < bs.length) : w.cell? ⟨q, j, none⟩ = some (.int .u8 ((bs[j]'hj).toNat : Int)) ∧ w.frozen? ⟨q, j, none⟩ = false :=
  ⟨cellOf h j (by simpa using bV_get (List.getElem?_eq_getElem hj)), frozenOf h j⟩
theorem BoxB.set {w : World} {q : Nat} {bs : List UInt8} (h : BoxB w q bs) (j : Nat) (b : UInt8) : BoxB (w.setCell ⟨q, j, none⟩ (.int .u8 (b.toNat : Int))) q (bs.set j b) := by
  have h1 := setOf h j (.int .u8 (b.toNat : Int))
  unfold BoxB
  rw [h1]
  congr 2
  apply Array.toList_inj.1
  simp [bV, List.map_set]
/-- Counts as cells. -/
def cV (cs : List Nat) : List Value := cs.map fun c => .int .u16 ((c : Nat) : Int)
theorem cV_len (cs : List Nat) : (cV cs).length = cs.length := by simp [cV]
theorem cV_get {cs : List Nat} {j c : Nat} (h : cs[j]? = some c) : (cV cs)[j]? = some (.int .u16 (c : Int)) := by simp [cV, h]
/-- A number's bytes, by their places. -/
theorem low_get : ∀ (k n i : Nat), i < k → (low n k)[i]? = some (UInt8.ofNat (n / 256 ^ i % 256))
  | k + 1, n, 0, _ => by simp [low]
  | k + 1, n, i + 1, h => by
    show (low (n / 256) k)[i]? = _
    rw [low_get k (n / 256) i (by omega), Nat.div_div_eq_div_mul, Nat.pow_succ, Nat.mul_comm 256]
theorem low_take1 {n k i : Nat} (h : i < k) : (low n k).take (i + 1) = (low n k).take i ++ [UInt8.ofNat (n / 256 ^ i % 256)] := by
  rw [List.take_add_one, low_get k n i h]
  rfl
theorem ofNat_to (x : Nat) : ((UInt8.ofNat (x % 256)).toNat : Int) = ((x % 256 : Nat) : Int) := by simp
theorem pow8 (i : Nat) : (2 : Nat) ^ (8 * i) = 256 ^ i := by rw [Nat.pow_mul]
theorem byte_val (n i : Nat) : ((UInt8.ofNat (n / 256 ^ i % 256)).toNat : Int) = (n : Int) / 2 ^ (8 * i) % 256 := by
  rw [ofNat_to, ← pow8, Int.natCast_emod, Int.natCast_ediv, Int.natCast_pow]
  rfl
/-- A byte of a number is laid. -/
theorem box_low {w : World} {q o n k i : Nat} {cur : List UInt8} (h : BoxB w q (setL cur o ((low n k).take i))) (hi : i < k) : BoxB (w.setCell ⟨q, o + i, none⟩ (.int .u8 ((n : Int) / 2 ^ (8 * i) % 256))) q (setL cur o ((low n k).take (i + 1))) := by
  have h1 := h.set (o + i) (UInt8.ofNat (n / 256 ^ i % 256))
  rw [byte_val] at h1
  rw [low_take1 hi, setL_snoc, List.length_take, low_len, Nat.min_eq_left (Nat.le_of_lt hi)]
  exact h1
theorem box_low0 {w : World} {q n k i : Nat} {cur : List UInt8} (h : BoxB w q (setL cur 0 ((low n k).take i))) (hi : i < k) : BoxB (w.setCell ⟨q, i, none⟩ (.int .u8 ((n : Int) / 2 ^ (8 * i) % 256))) q (setL cur 0 ((low n k).take (i + 1))) := by
  have h1 := box_low h hi
  rwa [Nat.zero_add] at h1
def cs2 (cs : List Nat) : List (Nat × Nat) := cs.map fun c => (c, 2)
theorem low2 (c : Nat) : low c 2 = [UInt8.ofNat (c % 256), UInt8.ofNat (c / 256 % 256)] := rfl
theorem cs2_len (cs : List Nat) : (putNs (cs2 cs)).length = 2 * cs.length := by rw [putNs_len]; exact map_sum_two cs
theorem box_two {w : World} {q i c : Nat} {cur : List UInt8} {cs : List Nat} (h : BoxB w q (setL cur 16 (putNs (cs2 (cs.take i))))) (hc : cs[i]? = some c) (hcb : c < 65536) :
    BoxB ((w.setCell ⟨q, 16 + 2 * i, none⟩ (.int .u8 ((c : Int) % 256))).setCell ⟨q, 16 + 2 * i + 1, none⟩ (.int .u8 ((c : Int) / 256))) q (setL cur 16 (putNs (cs2 (cs.take (i + 1))))) := by
  have hl : (cs.take i).length = i := by
    have := (List.getElem?_eq_some_iff.1 hc).1
    rw [List.length_take]; omega
  have h1 := (h.set (16 + 2 * i) (UInt8.ofNat (c % 256))).set (16 + 2 * i + 1) (UInt8.ofNat (c / 256 % 256))
  rw [ofNat_to, ofNat_to, show ((c % 256 : Nat) : Int) = (c : Int) % 256 by omega, show ((c / 256 % 256 : Nat) : Int) = (c : Int) / 256 by omega] at h1
  have e : putNs (cs2 (cs.take (i + 1))) = (putNs (cs2 (cs.take i)) ++ [UInt8.ofNat (c % 256)]) ++ [UInt8.ofNat (c / 256 % 256)] := by
    rw [List.take_add_one, hc]
    unfold cs2
    rw [List.map_append, putNs_app]
    show _ ++ (low c 2 ++ []) = _
    rw [low2, List.append_nil, List.append_assoc]
    rfl
  rw [e, setL_snoc, setL_snoc, List.length_append, cs2_len, hl]
  exact h1
theorem rd_box4 {w : World} {q : Nat} {bs : List UInt8} (h : BoxB w q bs) (hl : bs.length = 256) : Rd w 1 (.slice (some ⟨q, 4, none⟩) 252 252) 252 (bV (bs.drop 4)) := by
  have hq : q < w.heap.size := (Array.getElem?_eq_some_iff.1 h).1
  refine ⟨_, 252, rfl, by rw [bV_len, List.length_drop, hl], by unfold maxLen; omega, ⟨by simp, Nat.le_refl _, by unfold maxLen; omega⟩, fun j u hj => ⟨q, 4, rfl, hq, ?_⟩⟩
  rw [bV_get?, List.getElem?_drop, ← bV_get?] at hj
  exact cellOf h (4 + j) (by simpa using hj)
/-- The page's bytes ahead of the loops. -/
def pg0 (idx : Nat) : List UInt8 := splice (zeros 256) 4 [80, 71, UInt8.ofNat idx]
theorem pg_end (no idx : Nat) (cs : List Nat) (h : cs.length ≤ 120) : (setL (setL (pg0 idx) 8 (low no 4)) 16 (putNs (cs2 cs))).drop 4 = pageBody no idx cs := by
  have e0 : pg0 idx = [0, 0, 0, 0, 80, 71, UInt8.ofNat idx, 0] ++ (zeros 4 ++ zeros 244) := by kernel_rfl
  have e1 : setL (pg0 idx) 8 (low no 4) = [0, 0, 0, 0, 80, 71, UInt8.ofNat idx, 0] ++ (low no 4 ++ zeros 244) := by
    rw [e0]
    exact setL_mid (low no 4) [0, 0, 0, 0, 80, 71, UInt8.ofNat idx, 0] (zeros 4) (zeros 244) (by rw [low_len]; rfl)
  have e2 : zeros 244 = zeros 4 ++ (zeros (2 * cs.length) ++ zeros (240 - 2 * cs.length)) := by
    unfold zeros
    rw [List.replicate_append_replicate, List.replicate_append_replicate]
    congr 1
    omega
  have e3 := setL_mid (putNs (cs2 cs)) ([0, 0, 0, 0, 80, 71, UInt8.ofNat idx, 0] ++ (low no 4 ++ zeros 4)) (zeros (2 * cs.length)) (zeros (240 - 2 * cs.length)) (by rw [cs2_len]; exact List.length_replicate)
  have e4 : ([0, 0, 0, 0, 80, 71, UInt8.ofNat idx, 0] ++ (low no 4 ++ zeros 4)).length = 16 := by
    rw [List.length_append, List.length_append, low_len]; rfl
  rw [e4] at e3
  have e5 : setL (pg0 idx) 8 (low no 4) = ([0, 0, 0, 0, 80, 71, UInt8.ofNat idx, 0] ++ (low no 4 ++ zeros 4)) ++ (zeros (2 * cs.length) ++ zeros (240 - 2 * cs.length)) := by
    rw [e1, e2]
    simp only [List.append_assoc]
  rw [e5, e3]
  show [80, 71, UInt8.ofNat idx, 0] ++ (low no 4 ++ zeros 4) ++ (putNs (cs2 cs) ++ zeros (240 - 2 * cs.length)) = _
  unfold pageBody cs2
  simp only [List.append_assoc]
theorem sealB_set {cur : List UInt8} (h : cur.length = 256) : setL cur 0 (low (crcN (cur.drop 4)) 4) = sealB (cur.drop 4) := by
  have e := setL_mid (low (crcN (cur.drop 4)) 4) [] (cur.take 4) (cur.drop 4) (by rw [List.length_take, low_len]; omega)
  rw [List.nil_append, List.take_append_drop] at e
  exact e
theorem pg0_len (idx : Nat) : (pg0 idx).length = 256 := by
  have h0 : (zeros 256).length = 256 := List.length_replicate
  unfold pg0
  rw [length_splice _ _ _ (by rw [h0]; show 4 + 3 ≤ 256; omega), h0]
set_option maxRecDepth 100000 in
set_option maxHeartbeats 6400000 in
theorem pblock_at (w : World) (no idx : Nat) (hno : no < 4294967296) (hidx : idx ≤ 255) (v : Value) (m : Nat) (cs : List Nat) (hrd : Rd w 1 v m (cV cs)) (hm : m ≤ 120) (hcs : ∀ c ∈ cs, c < 65536) :
    Calls Tryz.prog 125 #[.int .u32 (no : Int), .int .i64 (idx : Int), v] w fun e w' => e = .returned (.tuple #[bA (pageB no idx cs), .int .i64 0]) ∧ Below w.heap.size w w' := by
  obtain ⟨w1, hw1⟩ : ∃ W, w.alloc (.cells Tryz.zeroCells50 50) = W := ⟨_, rfl⟩
  have hb1 : Below w.heap.size w w1 := by rw [← hw1]; exact balloc (Below.refl _ _) _
  have HX1 : Hid (BoxB w1 w.heap.size (zeros 256)) := Lib.hid (by
    have e : (bV (zeros 256)).toArray = Tryz.zeroCells50 := by
      show (bV (List.replicate 256 0)).toArray = _
      kernel_rfl
    unfold BoxB
    rw [e, ← hw1]; exact heap_alloc_new _ _)
  have HB1 := Lib.hid hb1
  have HRD := Lib.hid hrd
  have HCL : Hid (cs.length = m) := Lib.hid (by obtain ⟨_, _, _, hl, _⟩ := hrd; simpa [cV_len] using hl)
  obtain ⟨ao, cap, rfl, _, _, _, _⟩ := id hrd
  have hs4 := run_slice4 w.heap.size
  have hix : ((UInt8.ofNat idx).toNat : Int) = (idx : Int) := by rw [UInt8.toNat_ofNat']; omega
  have hbv : bV [80, 71, UInt8.ofNat idx] = [.int .u8 80, .int .u8 71, .int .u8 (idx : Int)] := by
    show [Value.int .u8 80, Value.int .u8 71, Value.int .u8 ((UInt8.ofNat idx).toNat : Int)] = _
    rw [hix]
  obtain ⟨w3, hcp, hg3, hm3⟩ := run_copy_mid (P := Tryz.prog) (w1.alloc (.cells #[.int .u8 80, .int .u8 71, .int .u8 (idx : Int)] 5)) 171 171 3 5 Tryz.underlying171 (by kernel_rfl) (some ⟨w.heap.size, 4, none⟩) (some ⟨w1.heap.size, 0, none⟩) 252 252 3 3 w.heap.size 4 (bV (zeros 256)) 50 (((balloc (Below.refl _ _) _).block _ (Array.getElem?_eq_some_iff.1 HX1.out).1).trans HX1.out) (bV [80, 71, UInt8.ofNat idx]) rfl (fun _ => ⟨rfl, _, rfl, fun j v hv => by
    rw [Addr.add_lit, Nat.zero_add]
    refine cellOf (heap_alloc_new w1 _) j ?_
    rw [hbv] at hv
    simpa using hv⟩) (by rw [bV_len, bV_len, show (zeros 256).length = 256 from List.length_replicate]; show 4 + 3 ≤ 256; omega) (bV_one _)
  rw [show ((bV [80, 71, UInt8.ofNat idx]).length : Int) = 3 from rfl] at hcp
  have HX3 : Hid (BoxB w3 w.heap.size (setL (pg0 idx) 8 ((low no 4).take 0))) := Lib.hid (by
    rw [bV_splice] at hg3
    exact hg3)
  have HB3 : Hid (Below w.heap.size w w3) := Lib.hid (by
    have h2 := bthn hb1 (balloc (Below.refl w1.heap.size w1) (.cells #[.int .u8 80, .int .u8 71, .int .u8 (idx : Int)] 5))
    exact h2.trans (hm3.below (fun k hk => by rw [List.mem_singleton.1 hk]; exact Nat.le_refl _) h2.size))
  clear hrd hb1 hg3 hm3
  go_enter Tryz.func125, Tryz.ntmps125
  go_wp2_with fail
  go_loopw [30] (fun v wr => ∃ i : Nat, i ≤ 4 ∧ v = .int .i64 (i : Int) ∧ Below w.heap.size w wr ∧ BoxB wr w.heap.size (setL (pg0 idx) 8 ((low no 4).take i))) (fun v _ => 4 - (Go.RowKit.intOf v).toNat)
  case atStart => exact ⟨0, by omega, rfl, HB3.out, HX3.out⟩
  case round =>
    obtain ⟨i, hi, rfl, hb, hx⟩ := hrel
    have HB := Lib.hid hb
    have HX := Lib.hid hx
    by_cases hlt : i < 4
    · have hL := low_take1 (n := no) (k := 4) hlt
      obtain ⟨hc, hf⟩ := hx.cell (j := 8 + i) (by rw [setL_len, pg0_len]; omega)
      clear hb hx
      go_wp2_with fail
      refine ⟨⟨i + 1, by omega, by go_num, HB.out.setCell (p := ⟨w.heap.size, 8 + i, none⟩) (Nat.le_refl _) _, box_low HX.out hlt⟩, by simp [Go.RowKit.intOf]; omega⟩
    · obtain rfl : i = 4 := by omega
      rw [List.take_of_length_le (by rw [low_len]; exact Nat.le_refl _)] at hx
      obtain ⟨A, hA⟩ : ∃ A, setL (pg0 idx) 8 (low no 4) = A := ⟨_, rfl⟩
      rw [hA] at hx
      have HA := Lib.hid hA
      have HAL : Hid (A.length = 256) := Lib.hid (by rw [← hA, setL_len, pg0_len])
      have HX4 : Hid (BoxB wr w.heap.size (setL A 16 (putNs (cs2 (cs.take 0))))) := Lib.hid hx
      have HB4 := Lib.hid hb
      clear hb hx hA HB HX
      go_wp2_with fail
      go_loopw [44] (fun v wr => ∃ i : Nat, i ≤ m ∧ v = .int .i64 (i : Int) ∧ Below w.heap.size w wr ∧ BoxB wr w.heap.size (setL A 16 (putNs (cs2 (cs.take i))))) (fun v _ => m - (Go.RowKit.intOf v).toNat)
      case atStart => exact ⟨0, by omega, rfl, HB4.out, HX4.out⟩
      case round =>
        obtain ⟨i, hi, rfl, hb, hx⟩ := hrel
        have HB := Lib.hid hb
        have HX := Lib.hid hx
        by_cases hlt : i < m
        · obtain ⟨c, hc⟩ : ∃ c, cs[i]? = some c := ⟨_, List.getElem?_eq_getElem (by rw [HCL.out]; exact hlt)⟩
          have hcb := hcs c (List.mem_of_getElem? hc)
          obtain ⟨ao', cap', e1, _, _, _, hcell⟩ := (HRD.out.below hb)
          obtain ⟨rfl, _, rfl⟩ := Value.slice.inj e1
          obtain ⟨b0, off, rfl, hb0, hc0⟩ := hcell i _ (cV_get hc)
          obtain ⟨hd1, hf1⟩ := hx.cell (j := 16 + 2 * i) (by rw [setL_len, HAL.out]; omega)
          obtain ⟨hd2, hf2⟩ := (hx.set (16 + 2 * i) (UInt8.ofNat (c % 256))).cell (j := 16 + 2 * i + 1) (by rw [List.length_set, setL_len, HAL.out]; omega)
          rw [show (((UInt8.ofNat (c % 256)).toNat : Nat) : Int) = (c : Int) % 256 by rw [ofNat_to]; omega] at hd2 hf2
          have HC := Lib.hid hc
          clear hb hx hc e1 hcell hb0
          go_wp2_with fail
          refine ⟨⟨i + 1, by omega, by go_num, (HB.out.setCell (p := ⟨w.heap.size, 16 + 2 * i, none⟩) (Nat.le_refl _) _).setCell (p := ⟨w.heap.size, 16 + 2 * i + 1, none⟩) (Nat.le_refl _) _, box_two HX.out HC.out hcb⟩, by simp [Go.RowKit.intOf]; omega⟩
        · obtain rfl : i = m := by omega
          rw [List.take_of_length_le (by rw [HCL.out]; exact Nat.le_refl _)] at hx
          obtain ⟨C, hC⟩ : ∃ C, setL A 16 (putNs (cs2 cs)) = C := ⟨_, rfl⟩
          rw [hC] at hx
          have HLC : Hid (C.length = 256) := Lib.hid (by rw [← hC, setL_len, HAL.out])
          have HPE : Hid (C.drop 4 = pageBody no idx cs) := Lib.hid (by rw [← hC, ← HA.out]; exact pg_end no idx cs (by rw [HCL.out]; exact hm))
          have HXC := Lib.hid hx
          have HBC := Lib.hid hb
          have CC := crcsum_any wr _ 252 _ (rd_box4 hx HLC.out) (by omega)
          clear hx hb hC HX HB
          go_wp2_with fail
          refine CC.mono ?_
          rintro e w5 ⟨rfl, hb5⟩
          obtain ⟨s, hs⟩ : ∃ s, crcN (C.drop 4) = s := ⟨_, rfl⟩
          have hsl : s < 4294967296 := by rw [← hs]; exact (crcN_eq _).2
          have HS := Lib.hid hs
          have HX5 : Hid (BoxB w5 w.heap.size (setL C 0 ((low s 4).take 0))) := Lib.hid ((hb5.block _ (Array.getElem?_eq_some_iff.1 HXC.out).1).trans HXC.out)
          have HB5 := Lib.hid (bthn HBC.out hb5)
          rw [hs]
          clear CC hb5 hs
          go_wp2_with fail
          go_loopw [66] (fun v wr => ∃ i : Nat, i ≤ 4 ∧ v = .int .i64 (i : Int) ∧ Below w.heap.size w wr ∧ BoxB wr w.heap.size (setL C 0 ((low s 4).take i))) (fun v _ => 4 - (Go.RowKit.intOf v).toNat)
          case atStart => exact ⟨0, by omega, rfl, HB5.out, HX5.out⟩
          case round =>
            obtain ⟨k, hk, rfl, hb, hx⟩ := hrel
            have HB := Lib.hid hb
            have HX := Lib.hid hx
            by_cases hlt : k < 4
            · obtain ⟨hc, hf⟩ := hx.cell (j := k) (by rw [setL_len, HLC.out]; omega)
              clear hb hx
              go_wp2_with fail
              refine ⟨⟨k + 1, by omega, by go_num, HB.out.setCell (p := ⟨w.heap.size, k, none⟩) (Nat.le_refl _) _, box_low0 HX.out hlt⟩, by simp [Go.RowKit.intOf]; omega⟩
            · obtain rfl : k = 4 := by omega
              rw [List.take_of_length_le (by rw [low_len]; exact Nat.le_refl _), ← HS.out, sealB_set HLC.out, HPE.out] at hx
              obtain ⟨R, hR⟩ : ∃ R, sealB (pageBody no idx cs) = R := ⟨_, rfl⟩
              rw [hR] at hx
              have HRL : Hid (R.length = 256) := Lib.hid (by rw [← hR]; exact pageB_len (by rw [HCL.out]; exact hm))
              have HRE : Hid (pageB no idx cs = R) := Lib.hid hR
              have HRA : Hid (wr.rangeAt w.heap.size 0 (bV R)) := Lib.hid (rangeOf hx)
              have hrb : (bV R).toArray.size = 256 := by rw [List.size_toArray, bV_len, HRL.out]
              have HTH : Hid (wr.there w.heap.size 0 256) := Lib.hid (thereOf hx (by rw [hrb]; exact Nat.le_refl _))
              clear hb hx hR
              go_wp2_with (first
                | (refine wpList_load_mid rfl 50 _ rfl w.heap.size 0 rfl (bV R) _ HRA.out Tryz.underlying50 rfl (by rw [bV_len, HRL.out]; exact infoBlk) ?_)
                | (refine wpList_store_mid rfl 50 _ _ rfl w.heap.size 0 (bV R).toArray rfl rfl (by rw [hrb]; exact HTH.out) (by rw [hrb]; exact infoBlk) (blk_one R) ?_))
              refine bodyPost_ret (v := .tuple #[bA R, .int .i64 0]) (res_blk rfl _ _ w.heap.size R _ rfl rfl (World.rangeAt_setCells_same _ _ _ _ (by rw [bV_len, HRL.out]; exact HTH.out)) HRL.out) rfl ⟨by rw [HRE.out], ?_⟩
              exact belowSets (Nat.le_refl _) _ _ _ HB.out
end Go.Proofs.YtcdobdjemlaaaaaGreat
