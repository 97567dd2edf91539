/- Devices: what an operation does; plainly. -/
import Derived.Test.YthkmihedkddnmaaDev3
import Derived.Test.YthkmihedkddnmaaCB
import Derived.Test.YthkmihedkddnmaaPartRef
import Derived.Test.YthkmihedkddnmaaMerge
import Derived.Test.YthkmihedkddnmaaPartDataR
namespace Go.Proofs.Ythkmihedkddnmaa
open Go.RowKit Wire Cmd
set_option linter.unusedVariables false
set_option linter.unusedSimpArgs false

def zeroB : List UInt8 := List.replicate 256 0
/-- A block as it reads. -/
def blkAt (m : List (Nat × List UInt8)) (k : Nat) : List UInt8 := (getA k m).getD zeroB
/-- How many sectors a row has. -/
def rowC (o : Op0) : Int := if o.k = 5 then (o.data.length : Int) / 64 else o.count
/-- Why an operation is refused. -/
def refD (l : List (Nat × Vl)) (o : Op0) : Int :=
  if mayO o = false then 2 else if o.k = 8 then 0 else if o.k = 1 then (if (getA o.vol l).isSome then 7 else 0)
  else match getA o.vol l with
  | none => 6
  | some v =>
    if o.k = 4 then (if (getA o.to l).isSome then 7 else 0)
    else if o.k = 5 ∨ o.k = 6 ∨ o.k = 9 then (if 4 * (v.size : Int) < o.pl + rowC o then 5 else 0)
    else if o.k = 7 then (if (v.size : Int) < o.pl + o.count then 5 else 0)
    else 0
def dataO (o : Op0) : List UInt8 := if o.k = 6 then List.replicate (64 * o.count).toNat 0 else o.data
/-- One part is put. -/
def putP (a : Int) (d : List UInt8) (m : List (Nat × List UInt8)) (s : PSpan) : List (Nat × List UInt8) := putA s.blk (mergeB (blkAt m s.blk) s.lo (dataI d s.blk a s.lo s.hi)) m
def putM (a : Int) (d : List UInt8) (m : List (Nat × List UInt8)) (sp : List PSpan) : List (Nat × List UInt8) := sp.foldl (putP a d) m
theorem putM_snoc (a : Int) (d : List UInt8) (m : List (Nat × List UInt8)) (sp : List PSpan) (s : PSpan) : putM a d m (sp ++ [s]) = putP a d (putM a d m sp) s := by simp [putM]
def readM (m : List (Nat × List UInt8)) (sp : List PSpan) : List UInt8 := sp.flatMap fun s => cutB (blkAt m s.blk) s.lo s.hi
theorem readM_snoc (m : List (Nat × List UInt8)) (sp : List PSpan) (s : PSpan) : readM m (sp ++ [s]) = readM m sp ++ cutB (blkAt m s.blk) s.lo s.hi := by simp [readM]
/-- What an operation is answered, of so many blocks, and what is behind it. -/
def stepD (l : List (Nat × Vl)) (o : Op0) (b : Int) : Ans0 × List (Nat × Vl) :=
  if refD l o ≠ 0 then (⟨refD l o, 0, []⟩, l)
  else if o.k = 1 then (⟨0, 0, []⟩, putA o.vol ⟨o.size.toNat, []⟩ l)
  else if o.k = 2 then (⟨0, 0, []⟩, delA o.vol l)
  else match getA o.vol l with
  | none => (⟨0, 0, []⟩, l)
  | some v =>
    if o.k = 3 then (⟨0, 0, []⟩, putA o.vol ⟨o.size.toNat, dropA o.size 1073741824 v.m⟩ l)
    else if o.k = 4 then (⟨0, 0, []⟩, putA o.to v l)
    else if o.k = 5 ∨ o.k = 6 then
      (if ((pSpansI o.pl (rowC o)).length : Int) ≤ b then ⟨0, 0, []⟩ else ⟨8, max b 0, []⟩, putA o.vol ⟨v.size, putM o.pl (dataO o) v.m ((pSpansI o.pl (rowC o)).take b.toNat)⟩ l)
    else if o.k = 7 then (⟨0, 0, []⟩, putA o.vol ⟨v.size, dropA o.pl (o.pl + o.count) v.m⟩ l)
    else if o.k = 9 then (⟨0, 0, readM v.m (pSpansI o.pl o.count)⟩, l)
    else (⟨0, 0, []⟩, l)

theorem dataP_hi (bs : List UInt8) (blk a f t : Int) (h : f ≤ t) : ((dataP bs blk a f t).length : Int) ≤ (t - f) * 64 ∧ (dataP bs blk a f t).length % 64 = 0 := by
  have h0 : (0 : Int) ≤ (bs.length : Int) / 64 := by omega
  obtain ⟨a1, a2⟩ := pClamp_le blk a ((bs.length : Int) / 64) f h0
  obtain ⟨b1, b2⟩ := pClamp_le blk a ((bs.length : Int) / 64) t h0
  have h1 := pClamp_mono blk a ((bs.length : Int) / 64) h
  have h2 : pClamp blk a ((bs.length : Int) / 64) t - pClamp blk a ((bs.length : Int) / 64) f ≤ t - f := by unfold pClamp; omega
  unfold dataP
  rw [List.length_take, List.length_drop]
  generalize pClamp blk a ((bs.length : Int) / 64) f = x at *
  generalize pClamp blk a ((bs.length : Int) / 64) t = y at *
  have e : min ((y * 64).toNat - (x * 64).toNat) (bs.length - (x * 64).toNat) = (y * 64).toNat - (x * 64).toNat := by omega
  rw [e]
  omega
theorem dataI_hi (bs : List UInt8) (blk a f t : Int) (h : f ≤ t) : ((dataI bs blk a f t).length : Int) ≤ (t - f) * 64 ∧ (dataI bs blk a f t).length % 64 = 0 := by
  unfold dataI
  split
  · exact dataP_hi bs blk a f t h
  · simp; omega
/-- Parts of a row that is in a volume of so many blocks. -/
def SpIn (size : Nat) (s : PSpan) : Prop := s.blk < size ∧ s.lo < s.hi ∧ s.hi ≤ 4
theorem spans_in {a c : Int} {size : Nat} (h : a + c ≤ 4 * (size : Int)) : ∀ s ∈ pSpansI a c, SpIn size s := by
  intro s hs
  unfold pSpansI at hs
  split at hs
  · rename_i ho
    simp only [pOk, Bool.and_eq_true, decide_eq_true_eq] at ho
    simp only [pSpans, List.mem_map, List.mem_range] at hs
    obtain ⟨i, hi, rfl⟩ := hs
    refine ⟨?_, pFrom_lt_pTo hi, pTo_le⟩
    show a.toNat / 4 + i < size
    unfold pM at hi
    split at hi <;> omega
  · cases hs
theorem blkAt_len {m : List (Nat × List UInt8)} (h : ∀ q ∈ m, q.2.length = 256) (k : Nat) : (blkAt m k).length = 256 := by
  unfold blkAt
  cases hg : getA k m with
  | none =>
    show zeroB.length = 256
    unfold zeroB
    rw [List.length_replicate]
  | some b => exact h _ (getA_some hg)
theorem putP_ok {v : Vl} (h : v.Ok) {s : PSpan} (hs : SpIn v.size s) (a : Int) (d : List UInt8) : Vl.Ok ⟨v.size, putP a d v.m s⟩ := by
  obtain ⟨h1, h2, h3⟩ := hs
  refine ⟨h.size, ris_putA h.ris _ _, fun q hq => ?_, fun q hq => ?_⟩
  · rcases mem_putA hq with rfl | hq
    · exact h1
    · exact h.lt q hq
  · rcases mem_putA hq with rfl | hq
    · have hb := blkAt_len h.blk s.blk
      have := (dataI_hi d s.blk a s.lo s.hi (by omega)).1
      show (mergeB _ _ _).length = 256
      rw [mergeB_len (by rw [hb]; omega), hb]
    · exact h.blk q hq
theorem putM_ok {size : Nat} (a : Int) (d : List UInt8) : ∀ (sp : List PSpan) (m : List (Nat × List UInt8)), Vl.Ok ⟨size, m⟩ → (∀ s ∈ sp, SpIn size s) → Vl.Ok ⟨size, putM a d m sp⟩
  | [], m, h, _ => h
  | s :: sp, m, h, hs => by
    have h1 := putP_ok (v := ⟨size, m⟩) h (hs s (List.mem_cons_self ..)) a d
    exact putM_ok a d sp _ h1 (fun z hz => hs z (List.mem_cons_of_mem _ hz))
theorem dropA_ok {v : Vl} (h : v.Ok) (f t : Int) : Vl.Ok ⟨v.size, dropA f t v.m⟩ :=
  ⟨h.size, ris_dropA h.ris f t, fun q hq => h.lt q (List.mem_filter.1 hq).1, fun q hq => h.blk q (List.mem_filter.1 hq).1⟩
theorem putA_dev {l : List (Nat × Vl)} (h : DevOk l) {n : Nat} {v : Vl} (hn : 1 ≤ n ∧ n < 4294967296) (hv : v.Ok) : DevOk (putA n v l) :=
  ⟨ris_putA h.ris _ _, fun p hp => by
    rcases mem_putA hp with rfl | hp
    · exact hn
    · exact h.nat p hp, fun p hp => by
    rcases mem_putA hp with rfl | hp
    · exact hv
    · exact h.vol p hp⟩
theorem delA_dev {l : List (Nat × Vl)} (h : DevOk l) (n : Nat) : DevOk (delA n l) :=
  ⟨ris_delA h.ris _, fun p hp => h.nat p (List.mem_filter.1 hp).1, fun p hp => h.vol p (List.mem_filter.1 hp).1⟩
/-- A volume's number that an operation names is right. -/
theorem may_vol {o : Op0} (h : mayO o = true) (hk : o.k ≠ 8) : 1 ≤ o.vol ∧ o.vol < 4294967296 := by
  unfold mayO at h
  simp only [Bool.and_eq_true, decide_eq_true_eq] at h
  obtain ⟨⟨h1, h2, h3⟩, _⟩ := h
  have hm : (118 : UInt8) ∈ nm o.k := by
    unfold nm
    (repeat' split) <;> first | decide | omega
  have := List.all_eq_true.1 h1 118 hm
  simpa [wIn] using this
theorem may_to {o : Op0} (h : mayO o = true) (hk : o.k = 4) : 1 ≤ o.to ∧ o.to < 4294967296 := by
  unfold mayO at h
  simp only [Bool.and_eq_true, decide_eq_true_eq] at h
  obtain ⟨⟨h1, h2, h3⟩, _⟩ := h
  have hm : (116 : UInt8) ∈ nm o.k := by rw [hk]; decide
  have := List.all_eq_true.1 h1 116 hm
  have h4 : (1 ≤ o.to ∧ o.to < 4294967296) ∧ o.to ≠ o.vol := by simpa [wIn] using this
  exact h4.1
theorem may_size {o : Op0} (h : mayO o = true) (hk : o.k = 1 ∨ o.k = 3) : 0 ≤ o.size ∧ o.size ≤ 256 := by
  unfold mayO at h
  simp only [Bool.and_eq_true, decide_eq_true_eq] at h
  obtain ⟨⟨h1, h2, h3⟩, _⟩ := h
  have hm : (115 : UInt8) ∈ nm o.k := by rcases hk with hk | hk <;> rw [hk] <;> decide
  have := List.all_eq_true.1 h1 115 hm
  simpa [wIn] using this
/-- A device stays right. -/
theorem stepD_ok {l : List (Nat × Vl)} (h : DevOk l) (o : Op0) (b : Int) : DevOk (stepD l o b).2 := by
  unfold stepD
  by_cases hr : refD l o ≠ 0
  · rw [if_pos hr]; exact h
  rw [if_neg hr]
  have hr0 : refD l o = 0 := by omega
  have hmay : mayO o = true := by
    cases hm : mayO o with
    | true => rfl
    | false => unfold refD at hr0; rw [if_pos hm] at hr0; omega
  by_cases k1 : o.k = 1
  · rw [if_pos k1]
    have hs := may_size hmay (.inl k1)
    exact putA_dev h (may_vol hmay (by omega)) ⟨by show o.size.toNat ≤ 256; omega, List.Pairwise.nil, fun q hq => (by cases hq), fun q hq => (by cases hq)⟩
  rw [if_neg k1]
  by_cases k2 : o.k = 2
  · rw [if_pos k2]; exact delA_dev h _
  rw [if_neg k2]
  cases hg : getA o.vol l with
  | none => exact h
  | some v =>
    have hv := h.vol _ (getA_some hg)
    have hn := h.nat _ (getA_some hg)
    dsimp only
    by_cases k3 : o.k = 3
    · rw [if_pos k3]
      have hs := may_size hmay (.inr k3)
      refine putA_dev h hn ⟨by show o.size.toNat ≤ 256; omega, ris_dropA hv.ris _ _, fun q hq => ?_, fun q hq => hv.blk q (List.mem_filter.1 hq).1⟩
      have h1 := (List.mem_filter.1 hq).2
      have h2 := hv.lt q (List.mem_filter.1 hq).1
      have h3 := hv.size
      simp only [Bool.or_eq_true, decide_eq_true_eq] at h1
      show q.1 < o.size.toNat
      omega
    rw [if_neg k3]
    by_cases k4 : o.k = 4
    · rw [if_pos k4]; exact putA_dev h (may_to hmay k4) hv
    rw [if_neg k4]
    by_cases k5 : o.k = 5 ∨ o.k = 6
    · rw [if_pos k5]
      have hrow : o.pl + rowC o ≤ 4 * (v.size : Int) := by
        unfold refD at hr0
        rw [if_neg (by rw [hmay]; simp), if_neg (by omega), if_neg k1, hg] at hr0
        dsimp only at hr0
        rw [if_neg k4, if_pos (by omega)] at hr0
        split at hr0 <;> omega
      exact putA_dev h hn (putM_ok _ _ _ _ hv (fun s hs => spans_in hrow s (List.mem_of_mem_take hs)))
    rw [if_neg k5]
    by_cases k7 : o.k = 7
    · rw [if_pos k7]; exact putA_dev h hn (dropA_ok hv _ _)
    rw [if_neg k7]
    by_cases k9 : o.k = 9
    · rw [if_pos k9]; exact h
    rw [if_neg k9]; exact h
end Go.Proofs.Ythkmihedkddnmaa
