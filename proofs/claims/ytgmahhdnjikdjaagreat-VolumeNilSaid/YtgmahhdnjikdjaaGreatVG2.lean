import Derived.Test.YtgmahhdnjikdjaaGreatVG1
import Derived.Sort.QuietIn
import Derived.Deep.RegionHeld3
import Derived.Deep.DeepCutAuto
import Derived.Laws.CopyOwn
set_option linter.unusedVariables false
set_option linter.unusedSimpArgs false
/- Blocks with their sum ahead; superblocks and pages as bytes; plainly. -/
namespace Go.Proofs.YtgmahhdnjikdjaaGreat
open Go.RowKit Wire
set_option linter.unusedVariables false
set_option linter.unusedSimpArgs false
theorem low_take' (n k : Nat) (b : List UInt8) : (low n k ++ b).take k = low n k := by
 rw [List.take_append_of_le_length (by rw [low_len]; omega), List.take_of_length_le (by rw [low_len]; omega)]
theorem low_drop' (n k : Nat) (b : List UInt8) : (low n k ++ b).drop k = b := by
 have := List.drop_left (l₁ := low n k) (l₂ := b)
 rwa [low_len] at this
/-- So many bytes off the front, as a number. -/
def getN (k : Nat) (b : List UInt8) : Nat := sum (b.take k)
theorem getN_low {n k : Nat} (h : n < 256 ^ k) (b : List UInt8) : getN k (low n k ++ b) = n := by unfold getN; rw [low_take', sum_low k n h]
/-- Numbers, one behind the other, each of so many bytes. -/
def putNs (l : List (Nat × Nat)) : List UInt8 := l.flatMap fun p => low p.1 p.2
def getNs : List Nat → List UInt8 → List Nat
 | [], _ => []
 | k :: ks, b => getN k b :: getNs ks (b.drop k)
theorem getNs_put : ∀ (l : List (Nat × Nat)) (b : List UInt8), (∀ p ∈ l, p.1 < 256 ^ p.2) → getNs (l.map (·.2)) (putNs l ++ b) = l.map (·.1)
 | [], _, _ => rfl
 | p :: l, b, h => by
  have e : putNs (p :: l) ++ b = low p.1 p.2 ++ (putNs l ++ b) := by
   show (low p.1 p.2 ++ putNs l) ++ b = _
   rw [List.append_assoc]
  show getN p.2 (putNs (p :: l) ++ b) :: getNs (l.map (·.2)) ((putNs (p :: l) ++ b).drop p.2) = _
  rw [e, getN_low (h p (List.mem_cons_self ..)), low_drop', getNs_put l b (fun q hq => h q (List.mem_cons_of_mem _ hq))]
  rfl
theorem putNs_len : ∀ (l : List (Nat × Nat)), (putNs l).length = (l.map (·.2)).sum
 | [] => rfl
 | p :: l => by
  show (low p.1 p.2 ++ putNs l).length = _
  rw [List.length_append, low_len, putNs_len l]
  rfl
theorem putNs_app (l m : List (Nat × Nat)) : putNs (l ++ m) = putNs l ++ putNs m := by unfold putNs; rw [List.flatMap_append]
/-- A register behind once. -/
def halfI (r : Int) : Int := bits .xor .u32 (r / 2) (bits .and .u32 2197175160 (-(bits .and .u32 r 1) % 4294967296))
def halfN : Nat → Int → Int
 | 0, r => r
 | k + 1, r => halfI (halfN k r)
/-- A register behind bytes. -/
def addI (r : Int) : List UInt8 → Int
 | [] => r
 | c :: bs => addI (bits .xor .u32 (r / 256) (halfN 8 (bits .xor .u32 (bits .and .u32 r 255) (c.toNat : Int)))) bs
def invI (r : Int) : Int := bits .xor .u32 4294967295 r
def crcI (bs : List UInt8) : Int := invI (addI (invI 0) bs)
theorem u32_wr (x : Int) : 0 ≤ IntKind.u32.wrap x ∧ IntKind.u32.wrap x < 4294967296 := by
 rw [IntKind.wrap_u32]
 omega
theorem u32_in (op : BinOp) (x y : Int) : 0 ≤ bits op .u32 x y ∧ bits op .u32 x y < 4294967296 := by
 unfold bits
 split <;> first | exact u32_wr _ | omega
def crcN (bs : List UInt8) : Nat := (crcI bs).toNat
theorem crcN_eq (bs : List UInt8) : (crcN bs : Int) = crcI bs ∧ crcN bs < 4294967296 := by
 have h := u32_in .xor 4294967295 (addI (invI 0) bs)
 unfold crcN crcI invI at *
 omega
/-- A block: its sum, and its bytes. -/
def sealB (b : List UInt8) : List UInt8 := low (crcN b) 4 ++ b
theorem sealB_len (b : List UInt8) : (sealB b).length = b.length + 4 := by unfold sealB; rw [List.length_append, low_len]; omega
theorem sealB_drop (b : List UInt8) : (sealB b).drop 4 = b := low_drop' _ _ _
/-- A superblock. -/
structure Su where
 tx : Nat
 mt : Int
 data : Int
 pages : List Nat
 top : Nat
 base : Nat
 stage : Nat
 cursor : Int
 epoch : Nat
 last : Nat
 seq : Nat
 blast : Nat
 bseq : Nat
 marked : Bool
def Su.Wf (s : Su) : Prop := s.tx < 18446744073709551616 ∧ s.pages.length = 6 ∧ (∀ n ∈ s.pages, n < 4294967296) ∧ s.top < 4294967296 ∧ s.base < 4294967296 ∧ s.stage < 4294967296 ∧ s.epoch < 18446744073709551616 ∧ s.last < 18446744073709551616 ∧ s.seq < 18446744073709551616 ∧ s.blast < 18446744073709551616 ∧ s.bseq < 18446744073709551616
/-- May it be? -/
def Su.May (s : Su) : Prop := 16 ≤ s.mt ∧ s.mt ≤ 240 ∧ 1 ≤ s.data ∧ s.data ≤ 480 ∧ 1 ≤ s.tx ∧ s.tx ≤ 4611686018427387904 ∧ 0 ≤ s.cursor ∧ s.cursor < s.data ∧ ∀ n ∈ s.pages ++ [s.top, s.base, s.stage], (n : Int) < s.mt
instance (s : Su) : Decidable s.May := by unfold Su.May; exact inferInstance
def Su.nums (s : Su) : List (Nat × Nat) := [(s.tx, 8), (s.mt.toNat, 4), (s.data.toNat, 4)] ++ s.pages.map (fun n => (n, 4)) ++ [(s.top, 4), (s.base, 4), (s.stage, 4), (s.cursor.toNat, 4), (s.epoch, 8), (s.last, 8), (s.seq, 8), (s.blast, 8), (s.bseq, 8), (if s.marked then 1 else 0, 1)]
def zeros (k : Nat) : List UInt8 := List.replicate k 0
/-- Its bytes behind the sum. -/
def Su.body (s : Su) : List UInt8 := [86, 79, 73, 76] ++ putNs s.nums ++ zeros 151
def Su.bytes (s : Su) : List UInt8 := sealB s.body
def suKs : List Nat := [8, 4, 4, 4, 4, 4, 4, 4, 4, 4, 4, 4, 4, 8, 8, 8, 8, 8, 1]
/-- What a block says. -/
def suDec (b : List UInt8) : Su :=
 let l := getNs suKs (b.drop 8)
 { tx := l.getD 0 0, mt := (l.getD 1 0 : Nat), data := (l.getD 2 0 : Nat), pages := (l.drop 3).take 6, top := l.getD 9 0, base := l.getD 10 0, stage := l.getD 11 0, cursor := (l.getD 12 0 : Nat), epoch := l.getD 13 0, last := l.getD 14 0, seq := l.getD 15 0, blast := l.getD 16 0, bseq := l.getD 17 0, marked := l.getD 18 0 == 1 }
theorem Su.nums_ks {s : Su} (h : s.pages.length = 6) : s.nums.map (·.2) = suKs := by
 obtain ⟨a, b, c, d, e, f, hp⟩ : ∃ a b c d e f, s.pages = [a, b, c, d, e, f] := by
  match hs : s.pages, h with
  | [a, b, c, d, e, f], _ => exact ⟨a, b, c, d, e, f, rfl⟩
 unfold Su.nums
 rw [hp]
 rfl
theorem Su.body_len {s : Su} (h : s.pages.length = 6) : s.body.length = 252 := by
 unfold Su.body zeros
 rw [List.length_append, List.length_append, putNs_len, Su.nums_ks h, List.length_replicate]
 rfl
theorem Su.bytes_len {s : Su} (h : s.pages.length = 6) : s.bytes.length = 256 := by unfold Su.bytes; rw [sealB_len, Su.body_len h]
theorem Su.gets {s : Su} (hw : s.Wf) (hm : s.May) : getNs suKs (s.bytes.drop 8) = s.nums.map (·.1) := by
 obtain ⟨w1, w2, w3, w4, w5, w6, w7, w8, w9, w10, w11⟩ := hw
 obtain ⟨m1, m2, m3, m4, m5, m6, m7, m8, m9⟩ := hm
 have hd : s.bytes.drop 8 = putNs s.nums ++ zeros 151 := by
  unfold Su.bytes
  rw [show (8 : Nat) = 4 + 4 from rfl, ← List.drop_drop, sealB_drop]
  rfl
 have h2 : getNs suKs (s.bytes.drop 8) = s.nums.map (·.1) := by
  rw [hd, ← Su.nums_ks w2]
  apply getNs_put
  have e8 : (256 : Nat) ^ 8 = 18446744073709551616 := by decide
  have e4 : (256 : Nat) ^ 4 = 4294967296 := by decide
  intro p hp
  unfold Su.nums at hp
  simp only [List.mem_append, List.mem_cons, List.not_mem_nil, or_false, List.mem_map] at hp
  rcases hp with ((rfl | rfl | rfl) | ⟨n, hn, rfl⟩) | (rfl | rfl | rfl | rfl | rfl | rfl | rfl | rfl | rfl | rfl) <;> dsimp only
  all_goals first
   | (rw [e8]; omega)
   | (rw [e4]; omega)
   | (rw [e4]; exact w3 n hn)
   | (split <;> decide)
 exact h2
/-- A page of counts. -/
def pageBody (no index : Nat) (cs : List Nat) : List UInt8 := [80, 71, UInt8.ofNat index, 0] ++ low no 4 ++ zeros 4 ++ (putNs (cs.map fun n => (n, 2)) ++ zeros (240 - 2 * cs.length))
def pageB (no index : Nat) (cs : List Nat) : List UInt8 := sealB (pageBody no index cs)
theorem map_sum_two (cs : List Nat) : ((cs.map fun n => (n, 2)).map (fun p : Nat × Nat => p.2)).sum = 2 * cs.length := by
 induction cs with
 | nil => rfl
 | cons c cs ih => simp only [List.map_cons, List.sum_cons, ih, List.length_cons]; omega
theorem pageBody_len {no index : Nat} {cs : List Nat} (h : cs.length ≤ 120) : (pageBody no index cs).length = 252 := by
 unfold pageBody zeros
 simp only [List.length_append, putNs_len, map_sum_two, List.length_replicate, low_len, List.length_cons, List.length_nil]
 omega
theorem pageB_len {no index : Nat} {cs : List Nat} (h : cs.length ≤ 120) : (pageB no index cs).length = 256 := by unfold pageB; rw [sealB_len, pageBody_len h]
/-- A page's counts. -/
def pageDec (b : List UInt8) : List Nat := getNs (List.replicate 120 2) (b.drop 16)
end Go.Proofs.YtgmahhdnjikdjaaGreat
/- A disk's blocks in its sectors, plainly. -/
namespace Go.Proofs.YtgmahhdnjikdjaaGreat
open Go.RowKit Wire
set_option linter.unusedVariables false
set_option linter.unusedSimpArgs false
/-- A part of bytes: sector i of a block. -/
def sec (b : List UInt8) (i : Nat) : List UInt8 := (b.drop (i * 64)).take 64
/-- A block, in four sectors. -/
def rdB (img : List (List UInt8)) (k : Nat) : List UInt8 := (List.range 4).flatMap fun i => img.getD (k * 4 + i) []
/-- It is written up to sector n. -/
def wrBn (img : List (List UInt8)) (k : Nat) (b : List UInt8) : Nat → List (List UInt8)
 | 0 => img
 | n + 1 => (wrBn img k b n).set (k * 4 + n) (sec b n)
def wrB (img : List (List UInt8)) (k : Nat) (b : List UInt8) : List (List UInt8) := wrBn img k b 4
theorem wrBn_len (img : List (List UInt8)) (k : Nat) (b : List UInt8) : ∀ n, (wrBn img k b n).length = img.length
 | 0 => rfl
 | n + 1 => by rw [wrBn, List.length_set, wrBn_len]
theorem wrB_len (img : List (List UInt8)) (k : Nat) (b : List UInt8) : (wrB img k b).length = img.length := wrBn_len ..
theorem sec_len {b : List UInt8} {i : Nat} (h : b.length = 256) (hi : i < 4) : (sec b i).length = 64 := by unfold sec; rw [List.length_take, List.length_drop]; omega
/-- All sectors have 64 bytes. -/
def Secs (img : List (List UInt8)) : Prop := ∀ s ∈ img, s.length = 64
theorem rdB_len {img : List (List UInt8)} {k : Nat} (h : Secs img) (hk : k * 4 + 4 ≤ img.length) : (rdB img k).length = 256 := by
 have hg : ∀ i, i < 4 → (img.getD (k * 4 + i) []).length = 64 := fun i hi => by
  rw [List.getD_eq_getElem?_getD, List.getElem?_eq_getElem (by omega)]
  exact h _ (List.getElem_mem _)
 unfold rdB
 simp only [show List.range 4 = [0, 1, 2, 3] from rfl, List.flatMap_cons, List.flatMap_nil, List.length_append, List.length_nil, hg 0 (by omega), hg 1 (by omega), hg 2 (by omega), hg 3 (by omega)]
theorem wrBn_get (img : List (List UInt8)) (k : Nat) (b : List UInt8) (j : Nat) (hj : j < img.length) : ∀ n, (wrBn img k b n).getD j [] = if k * 4 ≤ j ∧ j < k * 4 + n then sec b (j - k * 4) else img.getD j []
 | 0 => by rw [if_neg (by omega)]; rfl
 | n + 1 => by
  rw [wrBn, List.getD_eq_getElem?_getD, List.getElem?_set]
  by_cases e : k * 4 + n = j
  ·rw [if_pos e, if_pos (by rw [wrBn_len]; omega), if_pos (by omega)]
   simp only [Option.getD_some]
   congr 1
   omega
  ·rw [if_neg e, ← List.getD_eq_getElem?_getD, wrBn_get img k b j hj n]
   by_cases h : k * 4 ≤ j ∧ j < k * 4 + n
   ·rw [if_pos h, if_pos (by omega)]
   ·rw [if_neg h, if_neg (by omega)]
theorem secs_all {b : List UInt8} (h : b.length = 256) : (List.range 4).flatMap (fun i => sec b i) = b := by
 simp only [show List.range 4 = [0, 1, 2, 3] from rfl, List.flatMap_cons, List.flatMap_nil, List.append_nil]
 unfold sec
 simp only [Nat.zero_mul, Nat.one_mul, List.drop_zero]
 have e3 : (b.drop (3 * 64)).take 64 = b.drop (3 * 64) := List.take_of_length_le (by rw [List.length_drop]; omega)
 have e2 : (b.drop (2 * 64)).take 64 ++ b.drop (3 * 64) = b.drop (2 * 64) := by
  have := List.take_append_drop 64 (b.drop (2 * 64))
  rwa [List.drop_drop] at this
 have e1 : (b.drop 64).take 64 ++ b.drop (2 * 64) = b.drop 64 := by
  have := List.take_append_drop 64 (b.drop 64)
  rwa [List.drop_drop] at this
 rw [e3, e2, e1, List.take_append_drop]
theorem rd_wr {img : List (List UInt8)} {b : List UInt8} {k : Nat} (hb : b.length = 256) (hk : k * 4 + 4 ≤ img.length) : rdB (wrB img k b) k = b := by
 conv => rhs; rw [← secs_all hb]
 unfold rdB wrB
 have e : ∀ i ∈ List.range 4, (wrBn img k b 4).getD (k * 4 + i) [] = sec b i := fun i hi => by
  have hi := List.mem_range.1 hi
  rw [wrBn_get img k b _ (by omega) 4, if_pos (by omega)]
  congr 1
  omega
 rw [List.flatMap_def, List.flatMap_def, List.map_congr_left e]
theorem rd_wr_other {img : List (List UInt8)} {b : List UInt8} {k j : Nat} (hj : j * 4 + 4 ≤ img.length) (hn : j ≠ k) : rdB (wrB img k b) j = rdB img j := by
 unfold rdB wrB
 have e : ∀ i ∈ List.range 4, (wrBn img k b 4).getD (j * 4 + i) [] = img.getD (j * 4 + i) [] := fun i hi => by
  have hi := List.mem_range.1 hi
  rw [wrBn_get img k b _ (by omega) 4, if_neg (by omega)]
 rw [List.flatMap_def, List.flatMap_def, List.map_congr_left e]
end Go.Proofs.YtgmahhdnjikdjaaGreat
/- A region that draws its order and only reads, in the round of a loop over an iterator: one walk of the lexical order serves every order (the library's law asks that no round runs; here: that no operation is a defer statement). -/
namespace Go.Proofs.YtgmahhdnjikdjaaGreat
open Go.RowKit
set_option linter.unusedVariables false
def isDefer : Op → Bool
 | .defer _ => true
 | _ => false
def noDefers (ops : Array Oper) : Bool := ops.toList.all fun o => !isDefer o.op
section
variable {F : Fence} {n : Nat} {P : Program} {ops : Array Oper} {md : Region.Mode} {C : World → Prop}
end
end Go.Proofs.YtgmahhdnjikdjaaGreat
/- A region that draws its order, in the round of a loop over an iterator (or anywhere inside the fence that asks nothing): by the plain laws of wpAnyH. -/
namespace Go.Proofs.YtgmahhdnjikdjaaGreat
open Go.RowKit
set_option linter.unusedVariables false
section
variable {P : Program} {ops : Array Oper} {Q : Exit → Act → World → Prop} {md : Region.Mode} {S : World → Prop}
/-- At its end alone. -/
def NormalQ (Q : Exit → Act → World → Prop) : Exit → Act → World → Prop := fun e a w => e = .normal ∧ Q .normal a w
end
/-- A block of another type is none of a row's. -/
theorem ob_tag {W : World} {n₀ size k g : Nat} {e t : TypeId} {v : Value} {xs : List Value} {cs : Array Value} {f : Nat × Nat} (hrow : W.ownsRow n₀ e size v k xs) (hg : W.heap[g]? = some (.cells cs t f)) (hne : t ≠ e) : g ∉ ob v := by
 intro h
 rcases hrow.2 with ⟨rfl, _⟩ | ⟨g', cap, cur, rfl, _, hgb, _⟩
 ·cases h
 ·rw [ob_some] at h
  obtain rfl := List.mem_singleton.1 h
  rw [hg] at hgb
  cases hgb
  exact hne rfl
end Go.Proofs.YtgmahhdnjikdjaaGreat
/- Several texts in one: Lay Pack Lift Unpack Known1 ShapesL Told All Join0 JoinsL Means0 Are. -/
namespace Go.Proofs.YtgmahhdnjikdjaaGreat
open Go.RowKit
set_option linter.unusedVariables false
set_option linter.unusedSimpArgs false
open Wire
/-- A value that has none of the four types: a number of another type; none. -/
def OddV (u : Value) : Prop := (∃ n, u = .iface 3 (.int .i64 n)) ∨ u = .nilIface
/-- A value as the program takes it. -/
def AnyV (w : World) (u : Value) (v : V) : Prop :=
 (v.letter = 56 ∧ u = .iface 26 (.int .u64 (v.n : Int)) ∧ v.n < 18446744073709551616) ∨
 (v.letter = 63 ∧ u = .iface 4 (.bool v.yes)) ∨
 (v.letter = 42 ∧ ∃ sl, u = .iface 153 sl ∧ Rd w 1 sl v.b.length (bV v.b)) ∨
 (v.letter = 35 ∧ u = .iface 78 (bA v.x) ∧ v.x.length = 256) ∨
 (v.letter ≠ 56 ∧ v.letter ≠ 63 ∧ v.letter ≠ 42 ∧ v.letter ≠ 35 ∧ OddV u)
theorem AnyV.below {w w' : World} {u : Value} {v : V} (h : AnyV w u v) (hb : Below w.heap.size w w') : AnyV w' u v := by
 rcases h with h | h | ⟨h, sl, h1, h2⟩ | h | h
 ·exact .inl h
 ·exact .inr (.inl h)
 ·exact .inr (.inr (.inl ⟨h, sl, h1, h2.below hb⟩))
 ·exact .inr (.inr (.inr (.inl h)))
 ·exact .inr (.inr (.inr (.inr h)))
/-- A value's bytes by a rune. -/
def layI (r : Int) (v : V) : Option (List UInt8) :=
 if v.letter = 56 then (if isNumI r = true ∧ v.n < 256 ^ widI r then some (low v.n (widI r)) else none)
 else if v.letter = 63 then (if r = 63 then some [if v.yes then 1 else 0] else none)
 else if v.letter = 42 then (if r = 42 ∧ v.b.length ≤ 16777216 then some (low v.b.length 4 ++ v.b) else none)
 else if v.letter = 35 then (if r = 35 then some v.x else none)
 else none
/-- What lay leaves. -/
def LayP (base : Nat) (w : World) (v0 : Value) (m : Nat) (xs : List UInt8) (o : Option (List UInt8)) (e : Ending) (w' : World) : Prop :=
 ∃ v', Mods (ob v0) w w' ∧ match o with
  | some bs => e = .returned (.tuple #[v', .bool true]) ∧ w'.ownsRow base 5 1 v' (m + bs.length) (bV (xs ++ bs)) ∧ Chg (ob v0) w w' (ob v')
  | none => e = .returned (.tuple #[v', .bool false])
end Go.Proofs.YtgmahhdnjikdjaaGreat
/- wire.Pack, walked. -/
namespace Go.Proofs.YtgmahhdnjikdjaaGreat
open Go.RowKit
set_option linter.unusedVariables false
set_option linter.unusedSimpArgs false
open Wire
/-- Values as the program takes them, in a slice. -/
def Anys (w : World) (ao : Option Addr) (n cap : Nat) (vs : List V) : Prop :=
 vs.length = n ∧ n ≤ cap ∧ cap ≤ maxLen ∧ ∀ j v, vs[j]? = some v → ∃ b off x, ao = some ⟨b, off, none⟩ ∧ b < w.heap.size ∧ w.cell? ⟨b, off + j, none⟩ = some x ∧ AnyV w x v
theorem Anys.below {w w' : World} {ao : Option Addr} {n cap : Nat} {vs : List V} (h : Anys w ao n cap vs) (hb : Below w.heap.size w w') : Anys w' ao n cap vs := by
 obtain ⟨h1, h2, h3, h4⟩ := h
 refine ⟨h1, h2, h3, fun j v hj => ?_⟩
 obtain ⟨b, off, x, e, hl, hc, ha⟩ := h4 j v hj
 exact ⟨b, off, x, e, Nat.lt_of_lt_of_le hl hb.size, (hb.cell (p := ⟨b, off + j, none⟩) hl).trans hc, ha.below hb⟩
theorem Anys.head {w : World} {ao : Option Addr} {n cap : Nat} {v : V} {vs : List V} (h : Anys w ao n cap (v :: vs)) : ∃ b off x, ao = some ⟨b, off, none⟩ ∧ b < w.heap.size ∧ w.cell? ⟨b, off, none⟩ = some x ∧ AnyV w x v := by
 obtain ⟨b, off, x, e, hl, hc, ha⟩ := h.2.2.2 0 v rfl
 exact ⟨b, off, x, e, hl, by simpa using hc, ha⟩
theorem Anys.tail {w : World} {ao : Option Addr} {n cap : Nat} {v : V} {vs : List V} (h : Anys w ao (n + 1) cap (v :: vs)) : Anys w (cutA ao cap 1 1) n (cap - 1) vs := by
 obtain ⟨h1, h2, h3, h4⟩ := h
 refine ⟨by simpa using h1, by omega, by omega, fun j u hj => ?_⟩
 obtain ⟨b, off, x, rfl, hl, hc, ha⟩ := h4 (j + 1) u (by simpa using hj)
 have hn : cap ≠ 1 := by
  have hlen : j < vs.length := (List.getElem?_eq_some_iff.1 hj).1
  simp at h1
  omega
 refine ⟨b, off + 1, x, ?_, hl, ?_, ha⟩
 ·unfold cutA
  rw [if_neg hn]
  simp [Addr.add_lit]
 ·rw [← hc]; congr 1; simp only [Addr.mk.injEq, true_and, and_true]; omega
/-- What Pack leaves. -/
def PackP (w : World) (o : Option (List UInt8)) (e : Ending) (w' : World) : Prop :=
 Below w.heap.size w w' ∧ match o with
  | some bs => ∃ v', e = .returned (.tuple #[v', .int .i64 0]) ∧ w'.ownsRow w.heap.size 5 1 v' bs.length (bV bs)
  | none => e = .returned (.tuple #[.slice none 0 0, .int .i64 2])
end Go.Proofs.YtgmahhdnjikdjaaGreat
/- wire.lift, walked. -/
namespace Go.Proofs.YtgmahhdnjikdjaaGreat
open Go.RowKit
set_option linter.unusedVariables false
set_option linter.unusedSimpArgs false
open Wire
/-- A value as the program answers it: its bytes in new memory. -/
def AnyO (base : Nat) (w : World) (u : Value) (v : V) : Prop :=
 (v.letter = 56 ∧ u = .iface 26 (.int .u64 (v.n : Int)) ∧ v.n < 18446744073709551616) ∨
 (v.letter = 63 ∧ u = .iface 4 (.bool v.yes)) ∨
 (v.letter = 42 ∧ ∃ sl, u = .iface 153 sl ∧ w.ownsRow base 5 1 sl v.b.length (bV v.b)) ∨
 (v.letter = 35 ∧ u = .iface 78 (bA v.x) ∧ v.x.length = 256)
theorem AnyO.any {base : Nat} {w : World} {u : Value} {v : V} (h : AnyO base w u v) : AnyV w u v := by
 rcases h with h | h | ⟨h, sl, h1, h2⟩ | h
 ·exact .inl h
 ·exact .inr (.inl h)
 ·exact .inr (.inr (.inl ⟨h, sl, h1, Rd.of_own h2⟩))
 ·exact .inr (.inr (.inr (.inl h)))
theorem AnyO.below {base : Nat} {w w' : World} {u : Value} {v : V} (h : AnyO base w u v) (hb : Below w.heap.size w w') : AnyO base w' u v := by
 rcases h with h | h | ⟨h, sl, h1, h2⟩ | h
 ·exact .inl h
 ·exact .inr (.inl h)
 ·exact .inr (.inr (.inl ⟨h, sl, h1, ownsRow_below h2 hb⟩))
 ·exact .inr (.inr (.inr h))
theorem AnyO.iface {base : Nat} {w : World} {u : Value} {v : V} (h : AnyO base w u v) : ∃ t y, u = .iface t y := by
 rcases h with ⟨_, h, _⟩ | ⟨_, h⟩ | ⟨_, _, h, _⟩ | ⟨_, h, _⟩ <;> exact ⟨_, _, h⟩
/-- What lift leaves. -/
def LiftP (w : World) (o : Option (V × Nat)) (e : Ending) (w' : World) : Prop :=
 Below w.heap.size w w' ∧ match o with
  | some (x, k) => ∃ u, e = .returned (.tuple #[u, .int .i64 (k : Int)]) ∧ AnyO w.heap.size w' u x
  | none => e = .returned (.tuple #[.nilIface, .int .i64 0])
/-- The first bytes of a slice. -/
theorem Rd.head {w : World} {n cap : Nat} {ao : Option Addr} {bs : List UInt8} (h : Rd w 1 (.slice ao n cap) n (bV bs)) {k : Nat} (hk : k ≤ n) : Rd w 1 (.slice (cutA ao cap 0 1) k cap) k (bV (bs.take k)) := by
 have := h.cut (Nat.zero_le k) hk
 simpa [bV] using this
end Go.Proofs.YtgmahhdnjikdjaaGreat
/- wire.Unpack, walked. -/
namespace Go.Proofs.YtgmahhdnjikdjaaGreat
open Go.RowKit
set_option linter.unusedVariables false
set_option linter.unusedSimpArgs false
open Wire
/-- Values as the program answers them, in a row that is new. -/
def Outs (base : Nat) (w : World) (v : Value) (l : List V) : Prop :=
 ∃ xs, w.ownsRow base 20 1 v l.length xs ∧ ∀ (j : Nat) (x : V), l[j]? = some x → ∃ u, xs[j]? = some u ∧ AnyO base w u x
theorem Outs.nil (base : Nat) (w : World) : Outs base w (.slice none 0 0) [] := ⟨[], World.ownsRow_nil _ _ _ _, fun j x h => by simp at h⟩
theorem Outs.below {base : Nat} {w w' : World} {v : Value} {l : List V} (h : Outs base w v l) (hb : Below w.heap.size w w') : Outs base w' v l := by
 obtain ⟨xs, ho, hx⟩ := h
 refine ⟨xs, ownsRow_below ho hb, fun j x hj => ?_⟩
 obtain ⟨u, h1, h2⟩ := hx j x hj
 exact ⟨u, h1, h2.below hb⟩
/-- An answer's own block. -/
def ib : Value → List Nat
 | .iface _ v => ob v
 | _ => []
/-- The row's block holds none of its values' bytes. -/
def Outs2 (base : Nat) (w : World) (v : Value) (l : List V) : Prop :=
 ∃ xs, w.ownsRow base 20 1 v l.length xs ∧ ∀ (j : Nat) (x : V), l[j]? = some x → ∃ u, xs[j]? = some u ∧ AnyO base w u x ∧ ∀ k ∈ ib u, k ∉ ob v
theorem Outs2.nil (base : Nat) (w : World) : Outs2 base w (.slice none 0 0) [] := ⟨[], World.ownsRow_nil _ _ _ _, fun j x h => by simp at h⟩
theorem Outs2.below {base : Nat} {w w' : World} {v : Value} {l : List V} (h : Outs2 base w v l) (hb : Below w.heap.size w w') : Outs2 base w' v l := by
 obtain ⟨xs, ho, hx⟩ := h
 refine ⟨xs, ownsRow_below ho hb, fun j x hj => ?_⟩
 obtain ⟨u, h1, h2, h3⟩ := hx j x hj
 exact ⟨u, h1, h2.below hb, h3⟩
/-- What changes just blocks that are none of the answers'. -/
theorem Outs2.at {base : Nat} {w w' : World} {v : Value} {l : List V} (h : Outs2 base w v l) (hs : ∀ k, base ≤ k → k < w.heap.size → (∃ t c f, w.heap[k]? = some (.cells c t f)) → w'.heap[k]? = w.heap[k]?) : Outs2 base w' v l := by
 have key : ∀ {e : TypeId} {n : Nat} {u : Value} {xs : List Value}, w.ownsRow base e 1 u n xs → w'.ownsRow base e 1 u n xs := by
  intro e n u xs ho
  refine ownsRow_at ho (fun k hk => ?_)
  rcases ho.2 with ⟨rfl, _⟩ | ⟨g, cap, cur, rfl, hg, hh, _⟩
  ·simp [ob_nil] at hk
  ·rw [ob_some] at hk
   obtain rfl : k = g := by simpa using hk
   exact hs k hg (Array.getElem?_eq_some_iff.1 hh).1 ⟨_, _, _, hh⟩
 obtain ⟨xs, ho, hx⟩ := h
 refine ⟨xs, key ho, fun j x hj => ?_⟩
 obtain ⟨u, h1, h2, h3⟩ := hx j x hj
 refine ⟨u, h1, ?_, h3⟩
 rcases h2 with h2 | h2 | ⟨h2, sl, h4, h5⟩ | h2
 ·exact .inl h2
 ·exact .inr (.inl h2)
 ·exact .inr (.inr (.inl ⟨h2, sl, h4, key h5⟩))
 ·exact .inr (.inr (.inr h2))
theorem AnyO.lt {base : Nat} {w : World} {u : Value} {x : V} (h : AnyO base w u x) : ∀ k ∈ ib u, base ≤ k ∧ k < w.heap.size := by
 intro k hk
 rcases h with ⟨_, rfl, _⟩ | ⟨_, rfl⟩ | ⟨_, sl, rfl, h5⟩ | ⟨_, rfl, _⟩
 ·simp [ib, ob, Value.ownBlock] at hk
 ·simp [ib, ob, Value.ownBlock] at hk
 ·exact ⟨ownsRow_ge h5 k hk, ownsRow_lt h5 k hk⟩
 ·simp [ib, ob, bA, Value.ownBlock] at hk
theorem AnyO.base {base base' : Nat} {w : World} {u : Value} {x : V} (h : AnyO base w u x) (hb : base' ≤ base) : AnyO base' w u x := by
 rcases h with h2 | h2 | ⟨h2, sl, h4, h5⟩ | h2
 ·exact .inl h2
 ·exact .inr (.inl h2)
 ·exact .inr (.inr (.inl ⟨h2, sl, h4, ownsRow_base h5 hb⟩))
 ·exact .inr (.inr (.inr h2))
theorem AnyO.at {base : Nat} {w w' : World} {u : Value} {x : V} (h : AnyO base w u x) (hs : ∀ k ∈ ib u, w'.heap[k]? = w.heap[k]?) : AnyO base w' u x := by
 rcases h with h2 | h2 | ⟨h2, sl, h4, h5⟩ | h2
 ·exact .inl h2
 ·exact .inr (.inl h2)
 ·refine .inr (.inr (.inl ⟨h2, sl, h4, ownsRow_at h5 (fun k hk => hs k ?_)⟩))
  rw [h4]
  exact hk
 ·exact .inr (.inr (.inr h2))
/-- A value appended to the row. -/
theorem Outs2.snoc {base : Nat} {w w1 : World} {v v1 u : Value} {l : List V} {x : V} {xs : List Value} (hx : ∀ (j : Nat) (y : V), l[j]? = some y → ∃ z, xs[j]? = some z ∧ AnyO base w z y ∧ ∀ k ∈ ib z, k ∉ ob v)
  (hn : xs.length = l.length) (hu : AnyO base w u x) (hd : ∀ k ∈ ib u, k ∉ ob v) (ho1 : w1.ownsRow base 20 1 v1 (l.length + 1) (xs ++ [u])) (hg : w.grownBy w1 v.ownBlock) (hs : SameOrNew w v v1) : Outs2 base w1 v1 (l ++ [x]) := by
 have key : ∀ {z y}, AnyO base w z y → (∀ k ∈ ib z, k ∉ ob v) → AnyO base w1 z y ∧ ∀ k ∈ ib z, k ∉ ob v1 := by
  intro z y hz hk
  refine ⟨hz.at fun k h => hg.block k (hz.lt k h).2 (fun e => hk k h (by simp [ob, ← e])), fun k h hm => ?_⟩
  rcases (Chg.of_grown hg hs).2 k hm with h1 | h1
  ·exact hk k h h1
  ·have := (hz.lt k h).2; omega
 refine ⟨xs ++ [u], by simpa using ho1, fun j y hj => ?_⟩
 rcases Nat.lt_trichotomy j l.length with h | h | h
 ·rw [List.getElem?_append_left h] at hj
  obtain ⟨z, h1, h2, h3⟩ := hx j y hj
  obtain ⟨k1, k2⟩ := key h2 h3
  exact ⟨z, by rw [List.getElem?_append_left (by omega)]; exact h1, k1, k2⟩
 ·subst h
  rw [List.getElem?_append_right (Nat.le_refl _), Nat.sub_self] at hj
  obtain rfl : x = y := by simpa using hj
  obtain ⟨k1, k2⟩ := key hu hd
  exact ⟨u, by rw [List.getElem?_append_right (by omega), hn, Nat.sub_self]; rfl, k1, k2⟩
 ·rw [List.getElem?_eq_none (by simp; omega)] at hj
  cases hj
/-- What Unpack leaves. -/
def UnpackP (w : World) (y : Bool) (o : Option (List V × Nat)) (e : Ending) (w' : World) : Prop :=
 Below w.heap.size w w' ∧ if y then (match o with
  | some (l, k) => ∃ v', e = .returned (.tuple #[v', .int .i64 (k : Int), .int .i64 0]) ∧ Outs w.heap.size w' v' l
  | none => e = .returned (.tuple #[.slice none 0 0, .int .i64 0, .int .i64 4])) else e = .returned (.tuple #[.slice none 0 0, .int .i64 0, .int .i64 2])
end Go.Proofs.YtgmahhdnjikdjaaGreat
/- The law's known, much, num. -/
namespace Go.Proofs.YtgmahhdnjikdjaaGreat
open Go.RowKit
set_option linter.unusedVariables false
set_option linter.unusedSimpArgs false
open Wire
end Go.Proofs.YtgmahhdnjikdjaaGreat
/- WireShapes, walked. -/
namespace Go.Proofs.YtgmahhdnjikdjaaGreat
open Go.RowKit
set_option linter.unusedVariables false
set_option linter.unusedSimpArgs false
open Wire
end Go.Proofs.YtgmahhdnjikdjaaGreat
/- The reference's values in memory; the law's told, all, much. -/
namespace Go.Proofs.YtgmahhdnjikdjaaGreat
open Go.RowKit
set_option linter.unusedVariables false
set_option linter.unusedSimpArgs false
open Wire
/-- A value's cells as the reference keeps it. -/
def rC (v : V) (sl : Value) : List Value := .int .u8 (v.letter.toNat : Int) :: .int .u64 (v.n : Int) :: .bool v.yes :: sl :: bV v.x
/-- A value of the reference's, by value. -/
def rA (v : V) (sl : Value) : Value := .agg (rC v sl).toArray
/-- A value as the program takes it, its bytes in new memory; odd: a number that has no type. -/
def AnyT (base : Nat) (w : World) (u : Value) (v : V) : Prop :=
 AnyO base w u v ∨ (v.letter ≠ 56 ∧ v.letter ≠ 63 ∧ v.letter ≠ 42 ∧ v.letter ≠ 35 ∧ ∃ n, u = .iface 3 (.int .i64 n))
theorem AnyT.any {base : Nat} {w : World} {u : Value} {v : V} (h : AnyT base w u v) : AnyV w u v := by
 rcases h with h | h
 ·exact h.any
 ·obtain ⟨h1, h2, h3, h4, n, e⟩ := h
  exact .inr (.inr (.inr (.inr ⟨h1, h2, h3, h4, .inl ⟨n, e⟩⟩)))
theorem AnyT.lt {base : Nat} {w : World} {u : Value} {x : V} (h : AnyT base w u x) : ∀ k ∈ ib u, base ≤ k ∧ k < w.heap.size := by
 rcases h with h | ⟨_, _, _, _, n, rfl⟩
 ·exact h.lt
 ·intro k hk; simp [ib, ob, Value.ownBlock] at hk
theorem AnyT.base {base base' : Nat} {w : World} {u : Value} {x : V} (h : AnyT base w u x) (hb : base' ≤ base) : AnyT base' w u x := by
 rcases h with h | h
 ·exact .inl (h.base hb)
 ·exact .inr h
theorem AnyT.at {base : Nat} {w w' : World} {u : Value} {x : V} (h : AnyT base w u x) (hs : ∀ k ∈ ib u, w'.heap[k]? = w.heap[k]?) : AnyT base w' u x := by
 rcases h with h | h
 ·exact .inl (h.at hs)
 ·exact .inr h
theorem AnyT.below {base : Nat} {w w' : World} {u : Value} {x : V} (h : AnyT base w u x) (hb : Below w.heap.size w w') : AnyT base w' u x :=
 h.at fun k hk => hb.block k (h.lt k hk).2
theorem AnyT.iface {base : Nat} {w : World} {u : Value} {v : V} (h : AnyT base w u v) : ∃ t y, u = .iface t y := by
 rcases h with h | ⟨_, _, _, _, n, rfl⟩
 ·exact h.iface
 ·exact ⟨_, _, rfl⟩
/-- Such values in a row that is new, and whose block holds none of their bytes. -/
def Outs3 (base : Nat) (w : World) (v : Value) (l : List V) : Prop :=
 ∃ xs, w.ownsRow base 20 1 v l.length xs ∧ ∀ (j : Nat) (x : V), l[j]? = some x → ∃ u, xs[j]? = some u ∧ AnyT base w u x ∧ ∀ k ∈ ib u, k ∉ ob v
theorem Outs3.nil (base : Nat) (w : World) : Outs3 base w (.slice none 0 0) [] := ⟨[], World.ownsRow_nil _ _ _ _, fun j x h => by simp at h⟩
theorem Outs3.below {base : Nat} {w w' : World} {v : Value} {l : List V} (h : Outs3 base w v l) (hb : Below w.heap.size w w') : Outs3 base w' v l := by
 obtain ⟨xs, ho, hx⟩ := h
 refine ⟨xs, ownsRow_below ho hb, fun j x hj => ?_⟩
 obtain ⟨u, h1, h2, h3⟩ := hx j x hj
 exact ⟨u, h1, h2.below hb, h3⟩
theorem Outs3.snoc {base : Nat} {w w1 : World} {v v1 u : Value} {l : List V} {x : V} {xs : List Value} (hx : ∀ (j : Nat) (y : V), l[j]? = some y → ∃ z, xs[j]? = some z ∧ AnyT base w z y ∧ ∀ k ∈ ib z, k ∉ ob v)
  (hn : xs.length = l.length) (hu : AnyT base w u x) (hd : ∀ k ∈ ib u, k ∉ ob v) (ho1 : w1.ownsRow base 20 1 v1 (l.length + 1) (xs ++ [u])) (hg : w.grownBy w1 v.ownBlock) (hs : SameOrNew w v v1) : Outs3 base w1 v1 (l ++ [x]) := by
 have key : ∀ {z y}, AnyT base w z y → (∀ k ∈ ib z, k ∉ ob v) → AnyT base w1 z y ∧ ∀ k ∈ ib z, k ∉ ob v1 := by
  intro z y hz hk
  refine ⟨hz.at fun k h => hg.block k (hz.lt k h).2 (fun e => hk k h (by simp [ob, ← e])), fun k h hm => ?_⟩
  rcases (Chg.of_grown hg hs).2 k hm with h1 | h1
  ·exact hk k h h1
  ·have := (hz.lt k h).2; omega
 refine ⟨xs ++ [u], by simpa using ho1, fun j y hj => ?_⟩
 rcases Nat.lt_trichotomy j l.length with h | h | h
 ·rw [List.getElem?_append_left h] at hj
  obtain ⟨z, h1, h2, h3⟩ := hx j y hj
  obtain ⟨k1, k2⟩ := key h2 h3
  exact ⟨z, by rw [List.getElem?_append_left (by omega)]; exact h1, k1, k2⟩
 ·subst h
  rw [List.getElem?_append_right (Nat.le_refl _), Nat.sub_self] at hj
  obtain rfl : x = y := by simpa using hj
  obtain ⟨k1, k2⟩ := key hu hd
  exact ⟨u, by rw [List.getElem?_append_right (by omega), hn, Nat.sub_self]; rfl, k1, k2⟩
 ·rw [List.getElem?_eq_none (by simp; omega)] at hj
  cases hj
/-- A slice of the reference's values reads as l. -/
def RVs (w : World) (ao : Option Addr) (n cap : Nat) (l : List V) : Prop :=
 l.length = n ∧ n ≤ cap ∧ cap ≤ maxLen ∧ (ao = none → cap = 0) ∧ ∀ j x, l[j]? = some x → x.Ok ∧ ∃ b off sl, ao = some ⟨b, off, none⟩ ∧ b < w.heap.size ∧ w.rangeAt b (off + j * 260) (rC x sl) ∧ Rd w 1 sl x.b.length (bV x.b)
theorem rangeAt_below {w w' : World} {b o : Nat} {cs : List Value} (h : w.rangeAt b o cs) (hl : b < w.heap.size) (hb : Below w.heap.size w w') : w'.rangeAt b o cs :=
 fun j u hj => (hb.cell (p := ⟨b, o + j, none⟩) hl).trans (h j u hj)
theorem RVs.below {w w' : World} {ao : Option Addr} {n cap : Nat} {l : List V} (h : RVs w ao n cap l) (hb : Below w.heap.size w w') : RVs w' ao n cap l := by
 obtain ⟨h1, h2, h3, h4, h5⟩ := h
 refine ⟨h1, h2, h3, h4, fun j x hj => ?_⟩
 obtain ⟨ok, b, off, sl, e, hl, hr, hd⟩ := h5 j x hj
 exact ⟨ok, b, off, sl, e, Nat.lt_of_lt_of_le hl hb.size, rangeAt_below hr hl hb, hd.below hb⟩
end Go.Proofs.YtgmahhdnjikdjaaGreat
/- The law's all, is, are. -/
namespace Go.Proofs.YtgmahhdnjikdjaaGreat
open Go.RowKit
set_option linter.unusedVariables false
set_option linter.unusedSimpArgs false
open Wire
/-- Two values that are the same by their letter. -/
def SameV (x y : V) : Prop := x.letter = y.letter ∧ (x.letter = 56 ∧ x.n = y.n ∨ x.letter = 63 ∧ x.yes = y.yes ∨ x.letter = 42 ∧ x.b = y.b ∨ x.letter = 35 ∧ x.x = y.x)
end Go.Proofs.YtgmahhdnjikdjaaGreat
/- What was unpacked is packed as the bytes it took; shapes one behind the other: plain Lean. -/
namespace Go.Proofs.YtgmahhdnjikdjaaGreat.Wire
set_option linter.unusedVariables false
set_option linter.unusedSimpArgs false
/-- What Unpack answers: the error's number, how many bytes, the values. -/
def ucode (s b : List UInt8) : Int := if may s then (if (unpack s b).isSome then 0 else 4) else 2
def ulen (s b : List UInt8) : Nat := if may s then (match unpack s b with | some (_, k) => k | none => 0) else 0
def uvals (s b : List UInt8) : List V := if may s then (match unpack s b with | some (l, _) => l | none => []) else []
end Go.Proofs.YtgmahhdnjikdjaaGreat.Wire
/- WireJoins, walked. -/
namespace Go.Proofs.YtgmahhdnjikdjaaGreat
open Go.RowKit
set_option linter.unusedVariables false
set_option linter.unusedSimpArgs false
open Wire
end Go.Proofs.YtgmahhdnjikdjaaGreat
/- What was packed is unpacked as it was; of fewer bytes nothing: plain Lean. -/
namespace Go.Proofs.YtgmahhdnjikdjaaGreat.Wire
set_option linter.unusedVariables false
set_option linter.unusedSimpArgs false
def SameVs (l' l : List V) : Prop := l'.length = l.length ∧ ∀ (j : Nat) (x y : V), l'[j]? = some x → l[j]? = some y → SameV x y
theorem SameVs.cons {x y : V} {l' l : List V} (h : SameV x y) (hs : SameVs l' l) : SameVs (x :: l') (y :: l) := by
 refine ⟨by simp [hs.1], fun j a b ha hb => ?_⟩
 cases j with
 | zero => simp at ha hb; subst ha; subst hb; exact h
 | succ j => exact hs.2 j a b (by simpa using ha) (by simpa using hb)
end Go.Proofs.YtgmahhdnjikdjaaGreat.Wire
/- The law's are; Pack in one form. -/
namespace Go.Proofs.YtgmahhdnjikdjaaGreat
open Go.RowKit
set_option linter.unusedVariables false
set_option linter.unusedSimpArgs false
open Wire
def pcode (s : List UInt8) (l : List V) : Int := if (pack s l).isSome then 0 else 2
end Go.Proofs.YtgmahhdnjikdjaaGreat
/- Several texts in one: RPack MkV Build1 RUnpack. -/
namespace Go.Proofs.YtgmahhdnjikdjaaGreat
open Go.RowKit
set_option linter.unusedVariables false
set_option linter.unusedSimpArgs false
open Wire
/-- What a round knows of memory: the value in its block; what has been packed. -/
structure RP (B : Nat) (w : World) (vb : Nat) (x : V) (sl v' : Value) (acc : List UInt8) (W : World) : Prop where
 below : Below B w W
 rng : W.rangeAt vb 0 (rC x sl)
 lt : vb < W.heap.size
 rd : Rd W 1 sl x.b.length (bV x.b)
 own : W.ownsRow B 5 1 v' acc.length (bV acc)
 base : B ≤ W.heap.size
theorem RP.mono {B : Nat} {w : World} {vb : Nat} {x : V} {sl v' : Value} {acc : List UInt8} {W W' : World} (h : RP B w vb x sl v' acc W) (hb : Below W.heap.size W W') : RP B w vb x sl v' acc W' :=
 ⟨h.below.trans (hb.mono h.base), rangeAt_below h.rng h.lt hb, Nat.lt_of_lt_of_le h.lt hb.size, h.rd.below hb, ownsRow_below h.own hb, Nat.le_trans h.base hb.size⟩
end Go.Proofs.YtgmahhdnjikdjaaGreat
/- The reference's makers of values, walked. -/
namespace Go.Proofs.YtgmahhdnjikdjaaGreat
open Go.RowKit
set_option linter.unusedVariables false
set_option linter.unusedSimpArgs false
open Wire
def V0 : V := ⟨0, 0, false, [], List.replicate 256 0⟩
theorem foldl_sets (o : Nat) : ∀ (l : List Value) (k : Nat) (A : Array Value), o + k + l.length ≤ A.size → ((l.zipIdx k).foldl (fun (cs : Array Value) (x : Value × Nat) => cs.setIfInBounds (o + x.snd) x.fst) A).toList = A.toList.take (o + k) ++ l ++ A.toList.drop (o + k + l.length)
 | [], k, A, h => by simp
 | v :: l, k, A, h => by
  rw [List.length_cons] at h
  rw [List.zipIdx_cons, List.foldl_cons, foldl_sets o l (k + 1) _ (by rw [Array.size_setIfInBounds]; omega)]
  have hk : o + k < A.toList.length := by rw [Array.length_toList]; omega
  rw [Array.toList_setIfInBounds, List.length_cons]
  rw [show o + (k + 1) = o + k + 1 by omega, show o + k + 1 + l.length = o + k + (l.length + 1) by omega]
  rw [List.take_add_one, List.take_set_of_le (Nat.le_refl _), List.getElem?_set_self hk, List.drop_set_of_lt (by omega)]
  simp
end Go.Proofs.YtgmahhdnjikdjaaGreat
/- A slice of one element of many cells, made in place. -/
namespace Go.Proofs.YtgmahhdnjikdjaaGreat
open Go.RowKit
set_option linter.unusedVariables false
set_option linter.unusedSimpArgs false
theorem fold_whole (A : Array Value) (L : List Value) (h : L.length = A.size) : Array.foldl (fun (cs : Array Value) (x : Value × Nat) => cs.setIfInBounds (0 + x.snd) x.fst) A L.toArray.zipIdx 0 L.toArray.zipIdx.size = L.toArray := by
 apply Array.toList_inj.1
 have hzi : L.toArray.zipIdx = (L.zipIdx 0).toArray := by apply Array.toList_inj.1; simp
 rw [hzi, List.foldl_toArray' _ _ _ (by simp)]
 have h1 := foldl_sets 0 L 0 A (by omega)
 rw [h1]
 simp
 omega
theorem run_buildSlice_one {P : Program} (w : World) (t e : TypeId) (n : Nat) (z : Value) (L : List Value) (ht : P.underlying t = some (.slice e)) (hi : (P.info? e).map (fun i => (i.zero, i.size)) = some (some z, n)) (hz : z.cells.size = n) (hL : L.length = n) (hn : 0 < n) (hn2 : n ≤ 1000) :
  (Instr.buildSlice t 1 #[(0, .agg L.toArray)]).run P w = .ok (.slice (some ⟨w.heap.size, 0, none⟩) 1 1) (w.alloc (.cells L.toArray e)) := by
 cases hq : P.info? e with
 | none => rw [hq] at hi; cases hi
 | some i =>
  rw [hq] at hi
  simp only [Option.map_some, Option.some.injEq, Prod.mk.injEq] at hi
  obtain ⟨h1, h2⟩ := hi
  have hs : ∀ W, (sizeOf e).run P W = .ok n W := fun W => by simp [sizeOf, typeInfo, hq, h2]
  have hzv : ∀ W, (zeroValue e).run P W = .ok z W := fun W => by simp [zeroValue, typeInfo, hq, h1]
  have hf : ∀ A : Array Value, A.size = n → Instr.fill (fun i => some (i * n, n)) A [(0, Value.agg L.toArray)] = some L.toArray := by
   intro A hA
   unfold Instr.fill
   have e1 : (Value.agg L.toArray).cells = L.toArray := rfl
   simp only [e1, Nat.zero_mul, List.size_toArray, hL, hA]
   rw [if_neg (by simp)]
   unfold Instr.fill
   congr 1
   exact fold_whole A L (by omega)
  unfold Instr.buildSlice
  rw [Sem.run_bind, run_underlying ht w]
  simp only [Result.andThen_ok, Sem.run_bind, hs, Nat.one_mul]
  rw [if_neg (by omega)]
  have hn0 : ¬ n = 0 := by omega
  simp only [hn0, if_false, Sem.run_bind, hzv, Result.andThen_ok, Sem.run_pure]
  rw [hf _ (by simp)]
  rfl
end Go.Proofs.YtgmahhdnjikdjaaGreat
/- The reference's Unpack, walked. -/
namespace Go.Proofs.YtgmahhdnjikdjaaGreat
open Go.RowKit
set_option linter.unusedVariables false
set_option linter.unusedSimpArgs false
open Wire
end Go.Proofs.YtgmahhdnjikdjaaGreat
