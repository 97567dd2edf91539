/- Blocks with their sum ahead; superblocks and pages as bytes; plainly. -/
import Derived.Test.YtcdobdjemlaaaaaGreatWA
namespace Go.Proofs.YtcdobdjemlaaaaaGreat
open Go.RowKit Wire
set_option linter.unusedVariables false
set_option linter.unusedSimpArgs false

theorem low_take' (n k : Nat) (b : List UInt8) : (low n k ++ b).take k = low n k := by
  rw [List.take_append_of_le_length (by rw [low_len]; omega), List.take_of_length_le (by rw [low_len]; omega)]
theorem low_drop' (n k : Nat) (b : List UInt8) : (low n k ++ b).drop k = b := by
  have := List.drop_left (l₁ := low n k) (l₂ := b)
  rwa [low_len] at this
/-- So many bytes off the front, as a number. -/
def getN (k : Nat) (b : List UInt8) : Nat := sum (b.take k)
theorem getN_low {n k : Nat} (h : n < 256 ^ k) (b : List UInt8) : getN k (low n k ++ b) = n := by unfold getN; rw [low_take', sum_low k n h]
/-- Numbers, one behind the other, each of so many bytes. -/
def putNs (l : List (Nat × Nat)) : List UInt8 := l.flatMap fun p => low p.1 p.2
def getNs : List Nat → List UInt8 → List Nat
  | [], _ => []
  | k :: ks, b => getN k b :: getNs ks (b.drop k)
theorem getNs_put : ∀ (l : List (Nat × Nat)) (b : List UInt8), (∀ p ∈ l, p.1 < 256 ^ p.2) → getNs (l.map (·.2)) (putNs l ++ b) = l.map (·.1)
  | [], _, _ => rfl
  | p :: l, b, h => by
    have e : putNs (p :: l) ++ b = low p.1 p.2 ++ (putNs l ++ b) := by
      show (low p.1 p.2 ++ putNs l) ++ b = _
      rw [List.append_assoc]
    show getN p.2 (putNs (p :: l) ++ b) :: getNs (l.map (·.2)) ((putNs (p :: l) ++ b).drop p.2) = _
    rw [e, getN_low (h p (List.mem_cons_self ..)), low_drop', getNs_put l b (fun q hq => h q (List.mem_cons_of_mem _ hq))]
    rfl
theorem putNs_len : ∀ (l : List (Nat × Nat)), (putNs l).length = (l.map (·.2)).sum
  | [] => rfl
  | p :: l => by
    show (low p.1 p.2 ++ putNs l).length = _
    rw [List.length_append, low_len, putNs_len l]
    rfl
theorem putNs_app (l m : List (Nat × Nat)) : putNs (l ++ m) = putNs l ++ putNs m := by unfold putNs; rw [List.flatMap_append]
/-- A register behind once. -/
def halfI (r : Int) : Int := bits .xor .u32 (r / 2) (bits .and .u32 2197175160 (-(bits .and .u32 r 1) % 4294967296))
def halfN : Nat → Int → Int
  | 0, r => r
  | k + 1, r => halfI (halfN k r)
/-- A register behind bytes. -/
def addI (r : Int) : List UInt8 → Int
  | [] => r
  | c :: bs => addI (bits .xor .u32 (r / 256) (halfN 8 (bits .xor .u32 (bits .and .u32 r 255) (c.toNat : Int)))) bs
def invI (r : Int) : Int := bits .xor .u32 4294967295 r
def crcI (bs : List UInt8) : Int := invI (addI (invI 0) bs)
theorem u32_wr (x : Int) : 0 ≤ IntKind.u32.wrap x ∧ IntKind.u32.wrap x < 4294967296 := by
  rw [IntKind.wrap_u32]
  omega
theorem u32_in (op : BinOp) (x y : Int) : 0 ≤ bits op .u32 x y ∧ bits op .u32 x y < 4294967296 := by
  unfold bits
  split <;> first | exact u32_wr _ | omega
def crcN (bs : List UInt8) : Nat := (crcI bs).toNat
theorem crcN_eq (bs : List UInt8) : (crcN bs : Int) = crcI bs ∧ crcN bs < 4294967296 := by
  have h := u32_in .xor 4294967295 (addI (invI 0) bs)
  unfold crcN crcI invI at *
  omega
/-- A block: its sum, and its bytes. -/
def sealB (b : List UInt8) : List UInt8 := low (crcN b) 4 ++ b
theorem sealB_len (b : List UInt8) : (sealB b).length = b.length + 4 := by unfold sealB; rw [List.length_append, low_len]; omega
theorem sealB_drop (b : List UInt8) : (sealB b).drop 4 = b := low_drop' _ _ _
/-- A superblock. -/
structure Su where
  tx : Nat
  mt : Int
  data : Int
  pages : List Nat
  top : Nat
  base : Nat
  stage : Nat
  cursor : Int
  epoch : Nat
  last : Nat
  seq : Nat
  blast : Nat
  bseq : Nat
  marked : Bool
def Su.Wf (s : Su) : Prop := s.tx < 18446744073709551616 ∧ s.pages.length = 6 ∧ (∀ n ∈ s.pages, n < 4294967296) ∧ s.top < 4294967296 ∧ s.base < 4294967296 ∧ s.stage < 4294967296 ∧ s.epoch < 18446744073709551616 ∧ s.last < 18446744073709551616 ∧ s.seq < 18446744073709551616 ∧ s.blast < 18446744073709551616 ∧ s.bseq < 18446744073709551616
/-- May it be? -/
def Su.May (s : Su) : Prop := 16 ≤ s.mt ∧ s.mt ≤ 240 ∧ 1 ≤ s.data ∧ s.data ≤ 480 ∧ 1 ≤ s.tx ∧ s.tx ≤ 4611686018427387904 ∧ 0 ≤ s.cursor ∧ s.cursor < s.data ∧ ∀ n ∈ s.pages ++ [s.top, s.base, s.stage], (n : Int) < s.mt
instance (s : Su) : Decidable s.May := by unfold Su.May; exact inferInstance
def Su.nums (s : Su) : List (Nat × Nat) := [(s.tx, 8), (s.mt.toNat, 4), (s.data.toNat, 4)] ++ s.pages.map (fun n => (n, 4)) ++ [(s.top, 4), (s.base, 4), (s.stage, 4), (s.cursor.toNat, 4), (s.epoch, 8), (s.last, 8), (s.seq, 8), (s.blast, 8), (s.bseq, 8), (if s.marked then 1 else 0, 1)]
def zeros (k : Nat) : List UInt8 := List.replicate k 0
/-- Its bytes behind the sum. -/
def Su.body (s : Su) : List UInt8 := [86, 79, 73, 76] ++ putNs s.nums ++ zeros 151
def Su.bytes (s : Su) : List UInt8 := sealB s.body
def suKs : List Nat := [8, 4, 4, 4, 4, 4, 4, 4, 4, 4, 4, 4, 4, 8, 8, 8, 8, 8, 1]
/-- What a block says. -/
def suDec (b : List UInt8) : Su :=
  let l := getNs suKs (b.drop 8)
  { tx := l.getD 0 0, mt := (l.getD 1 0 : Nat), data := (l.getD 2 0 : Nat), pages := (l.drop 3).take 6, top := l.getD 9 0, base := l.getD 10 0, stage := l.getD 11 0, cursor := (l.getD 12 0 : Nat), epoch := l.getD 13 0, last := l.getD 14 0, seq := l.getD 15 0, blast := l.getD 16 0, bseq := l.getD 17 0, marked := l.getD 18 0 == 1 }
theorem Su.nums_ks {s : Su} (h : s.pages.length = 6) : s.nums.map (·.2) = suKs := by
  obtain ⟨a, b, c, d, e, f, hp⟩ : ∃ a b c d e f, s.pages = [a, b, c, d, e, f] := by
    match hs : s.pages, h with
    | [a, b, c, d, e, f], _ => exact ⟨a, b, c, d, e, f, rfl⟩
  unfold Su.nums
  rw [hp]
  rfl
theorem Su.body_len {s : Su} (h : s.pages.length = 6) : s.body.length = 252 := by
  unfold Su.body zeros
  rw [List.length_append, List.length_append, putNs_len, Su.nums_ks h, List.length_replicate]
  rfl
theorem Su.bytes_len {s : Su} (h : s.pages.length = 6) : s.bytes.length = 256 := by unfold Su.bytes; rw [sealB_len, Su.body_len h]
theorem Su.gets {s : Su} (hw : s.Wf) (hm : s.May) : getNs suKs (s.bytes.drop 8) = s.nums.map (·.1) := by
  obtain ⟨w1, w2, w3, w4, w5, w6, w7, w8, w9, w10, w11⟩ := hw
  obtain ⟨m1, m2, m3, m4, m5, m6, m7, m8, m9⟩ := hm
  have hd : s.bytes.drop 8 = putNs s.nums ++ zeros 151 := by
    unfold Su.bytes
    rw [show (8 : Nat) = 4 + 4 from rfl, ← List.drop_drop, sealB_drop]
    rfl
  have h2 : getNs suKs (s.bytes.drop 8) = s.nums.map (·.1) := by
    rw [hd, ← Su.nums_ks w2]
    apply getNs_put
    have e8 : (256 : Nat) ^ 8 = 18446744073709551616 := by decide
    have e4 : (256 : Nat) ^ 4 = 4294967296 := by decide
    intro p hp
    unfold Su.nums at hp
    simp only [List.mem_append, List.mem_cons, List.not_mem_nil, or_false, List.mem_map] at hp
    rcases hp with ((rfl | rfl | rfl) | ⟨n, hn, rfl⟩) | (rfl | rfl | rfl | rfl | rfl | rfl | rfl | rfl | rfl | rfl) <;> dsimp only
    all_goals first
      | (rw [e8]; omega)
      | (rw [e4]; omega)
      | (rw [e4]; exact w3 n hn)
      | (split <;> decide)
  exact h2
theorem Su.dec {s : Su} (hw : s.Wf) (hm : s.May) : suDec s.bytes = s := by
  obtain ⟨w1, w2, w3, w4, w5, w6, w7, w8, w9, w10, w11⟩ := hw
  obtain ⟨m1, m2, m3, m4, m5, m6, m7, m8, m9⟩ := hm
  have hd : s.bytes.drop 8 = putNs s.nums ++ zeros 151 := by
    unfold Su.bytes
    rw [show (8 : Nat) = 4 + 4 from rfl, ← List.drop_drop, sealB_drop]
    rfl
  have h2 : getNs suKs (s.bytes.drop 8) = s.nums.map (·.1) := by
    rw [hd, ← Su.nums_ks w2]
    apply getNs_put
    have e8 : (256 : Nat) ^ 8 = 18446744073709551616 := by decide
    have e4 : (256 : Nat) ^ 4 = 4294967296 := by decide
    intro p hp
    unfold Su.nums at hp
    simp only [List.mem_append, List.mem_cons, List.not_mem_nil, or_false, List.mem_map] at hp
    rcases hp with ((rfl | rfl | rfl) | ⟨n, hn, rfl⟩) | (rfl | rfl | rfl | rfl | rfl | rfl | rfl | rfl | rfl | rfl) <;> dsimp only
    all_goals first
      | (rw [e8]; omega)
      | (rw [e4]; omega)
      | (rw [e4]; exact w3 n hn)
      | (split <;> decide)
  obtain ⟨a, b, c, d, e, f, hp⟩ : ∃ a b c d e f, s.pages = [a, b, c, d, e, f] := by
    match hs : s.pages, w2 with
    | [a, b, c, d, e, f], _ => exact ⟨a, b, c, d, e, f, rfl⟩
  unfold suDec
  rw [h2]
  obtain ⟨tx, mt, dt, pg, tp, bs, sg, cu, ep, la, sq, bl, bq, mk⟩ := s
  simp only at hp m1 m3 m7
  subst hp
  simp only [Su.nums, List.map_append, List.map_cons, List.map_nil, List.cons_append, List.nil_append, List.getD_cons_zero, List.getD_cons_succ, List.drop_succ_cons, List.drop_zero, List.take_succ_cons, List.take_zero]
  congr 1
  · omega
  · omega
  · omega
  · cases mk <;> rfl
/-- A page of counts. -/
def pageBody (no index : Nat) (cs : List Nat) : List UInt8 := [80, 71, UInt8.ofNat index, 0] ++ low no 4 ++ zeros 4 ++ (putNs (cs.map fun n => (n, 2)) ++ zeros (240 - 2 * cs.length))
def pageB (no index : Nat) (cs : List Nat) : List UInt8 := sealB (pageBody no index cs)
theorem map_sum_two (cs : List Nat) : ((cs.map fun n => (n, 2)).map (fun p : Nat × Nat => p.2)).sum = 2 * cs.length := by
  induction cs with
  | nil => rfl
  | cons c cs ih => simp only [List.map_cons, List.sum_cons, ih, List.length_cons]; omega
theorem pageBody_len {no index : Nat} {cs : List Nat} (h : cs.length ≤ 120) : (pageBody no index cs).length = 252 := by
  unfold pageBody zeros
  simp only [List.length_append, putNs_len, map_sum_two, List.length_replicate, low_len, List.length_cons, List.length_nil]
  omega
theorem pageB_len {no index : Nat} {cs : List Nat} (h : cs.length ≤ 120) : (pageB no index cs).length = 256 := by unfold pageB; rw [sealB_len, pageBody_len h]
/-- A page's counts. -/
def pageDec (b : List UInt8) : List Nat := getNs (List.replicate 120 2) (b.drop 16)
theorem page_dec {no index : Nat} {cs : List Nat} (h : cs.length = 120) (hc : ∀ c ∈ cs, c < 65536) : pageDec (pageB no index cs) = cs := by
  unfold pageDec
  have hd : (pageB no index cs).drop 16 = putNs (cs.map fun n => (n, 2)) ++ zeros (240 - 2 * cs.length) := by
    unfold pageB
    rw [show (16 : Nat) = 4 + 12 from rfl, ← List.drop_drop, sealB_drop]
    unfold pageBody
    have h3 : ([80, 71, UInt8.ofNat index, 0] ++ low no 4 ++ zeros 4 : List UInt8).length = 12 := by simp [low_len, zeros]
    have := List.drop_left (l₁ := ([80, 71, UInt8.ofNat index, 0] ++ low no 4 ++ zeros 4 : List UInt8)) (l₂ := putNs (cs.map fun n => (n, 2)) ++ zeros (240 - 2 * cs.length))
    rwa [h3] at this
  have hk : List.replicate 120 2 = (cs.map fun n => (n, 2)).map (fun p : Nat × Nat => p.2) := by
    rw [List.map_map, ← h]
    exact (List.map_const' ..).symm
  rw [hd, hk]
  have h1 := getNs_put (cs.map fun n => (n, 2)) (zeros (240 - 2 * cs.length)) (fun p hp => by
    obtain ⟨c, hc', rfl⟩ := List.mem_map.1 hp
    exact hc c hc')
  rw [h1, List.map_map]
  exact List.map_id _
end Go.Proofs.YtcdobdjemlaaaaaGreat
