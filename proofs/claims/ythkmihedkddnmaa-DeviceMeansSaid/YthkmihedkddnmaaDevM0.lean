/- DeviceMeans: what it says, plainly. -/
import Derived.Test.YthkmihedkddnmaaDev18
namespace Go.Proofs.Ythkmihedkddnmaa
open Go.RowKit Wire Cmd
set_option linter.unusedVariables false
set_option linter.unusedSimpArgs false

theorem find_insA {α : Type} (k : Nat) (a : α) (j : Nat) : ∀ {l : List (Nat × α)}, (∀ y ∈ l, y.1 ≠ k) → (insA (k, a) l).find? (fun p => p.1 == j) = if j = k then some (k, a) else l.find? (fun p => p.1 == j)
  | [], h => by
    by_cases e : j = k
    · rw [if_pos e]; simp [insA, e]
    · rw [if_neg e]
      have : (k == j) = false := by simp; omega
      simp [insA, List.find?, this]
  | y :: l, h => by
    have hy := h y (List.mem_cons_self ..)
    have ih := find_insA k a j (l := l) (fun z hz => h z (List.mem_cons_of_mem _ hz))
    unfold insA
    by_cases e : j = k
    · subst e
      rw [if_pos rfl] at ih ⊢
      have hyj : (y.1 == j) = false := by simp; omega
      split
      · simp [List.find?]
      · rw [List.find?_cons, hyj]; exact ih
    · rw [if_neg e] at ih ⊢
      have hkj : (k == j) = false := by simp; omega
      split
      · rw [List.find?_cons]
        dsimp only
        rw [hkj]
      · rw [List.find?_cons, List.find?_cons]
        split
        · rfl
        · exact ih
theorem find_delA {α : Type} (k j : Nat) (h : j ≠ k) : ∀ l : List (Nat × α), (delA k l).find? (fun p => p.1 == j) = l.find? (fun p => p.1 == j)
  | [] => rfl
  | y :: l => by
    have ih := find_delA k j h l
    unfold delA at ih ⊢
    rw [List.filter_cons]
    by_cases e : y.1 = k
    · have h1 : (!(y.1 == k)) = false := by simp [e]
      rw [h1, if_neg (by simp), ih, List.find?_cons]
      have h2 : (y.1 == j) = false := by simp; omega
      rw [h2]
    · have h1 : (!(y.1 == k)) = true := by simp [e]
      rw [h1, if_pos rfl, List.find?_cons, List.find?_cons]
      split
      · rfl
      · exact ih
theorem getA_put {α : Type} (k : Nat) (a : α) (j : Nat) (l : List (Nat × α)) : getA j (putA k a l) = if j = k then some a else getA j l := by
  unfold getA putA
  rw [find_insA k a j delA_ne]
  by_cases e : j = k
  · rw [if_pos e, if_pos e]; rfl
  · rw [if_neg e, if_neg e, find_delA k j e]
theorem getA_del {α : Type} (k j : Nat) (l : List (Nat × α)) (h : j ≠ k) : getA j (delA k l) = getA j l := by
  unfold getA; rw [find_delA k j h]

/-- A sector as it reads. -/
def sec (m : List (Nat × List UInt8)) (s : Nat) : List UInt8 := cutB (blkAt m (s / 4)) (s % 4) (s % 4 + 1)
theorem cut1_merge {b d : List UInt8} {f t j : Nat} (hb : b.length = 256) (hd : d.length = (t - f) * 64) (hft : f ≤ t) (ht : t ≤ 4) (hj : j < 4) :
    cutB (mergeB b f d) j (j + 1) = if f ≤ j ∧ j < t then (d.drop ((j - f) * 64)).take 64 else cutB b j (j + 1) := by
  have e : (j + 1 - j) * 64 = 64 := by omega
  have hl : (b.take (f * 64)).length = f * 64 := by rw [List.length_take]; omega
  unfold cutB mergeB splice
  rw [e]
  by_cases h1 : j < f
  · rw [if_neg (by omega)]
    rw [List.drop_append_of_le_length (by omega), List.take_append_of_le_length (by rw [List.length_drop, hl]; omega), List.drop_take, List.take_take]
    congr 1
    omega
  by_cases h2 : j < t
  · rw [if_pos (by omega)]
    rw [List.drop_append, List.drop_eq_nil_of_le (by rw [hl]; omega), List.nil_append, hl, List.drop_append_of_le_length (by rw [hd]; omega), List.take_append_of_le_length (by rw [List.length_drop, hd]; omega)]
    congr 2
    omega
  · rw [if_neg (by omega)]
    rw [List.drop_append, List.drop_eq_nil_of_le (by rw [hl]; omega), List.nil_append, hl, List.drop_append, List.drop_eq_nil_of_le (by rw [hd]; omega), List.nil_append, List.drop_drop, hd]
    congr 2
    omega
theorem blkAt_put (k : Nat) (c : List UInt8) (m : List (Nat × List UInt8)) (j : Nat) : blkAt (putA k c m) j = if j = k then c else blkAt m j := by
  unfold blkAt
  rw [getA_put]
  by_cases e : j = k
  · rw [if_pos e, if_pos e]; rfl
  · rw [if_neg e, if_neg e]
theorem chunk_at {a n k : Nat} {bs : List UInt8} (ha : a ≤ 1048576) (hn : n ≤ 40) (hl : bs.length = n * 64) (hk : k < pM a n) :
    dataI bs (pSpan a n k).blk a (pSpan a n k).lo (pSpan a n k).hi = (bs.drop (pDone a n k * 64)).take (((pSpan a n k).hi - (pSpan a n k).lo) * 64) := by
  have h1 := pAt hk
  have h2 := pFrom_lt_pTo hk
  have h3 := pDone_succ hk
  have h4 := pDone_le (a := a) (c := n) (i := k)
  have h5 := pDone_le (a := a) (c := n) (i := k + 1)
  have h6 := pTo_le (a := a) (c := n) (i := k)
  have h7 := pM_le (a := a) (c := n)
  unfold dataI
  have hok : dOk ((pSpan a n k).blk : Int) (a : Int) ((pSpan a n k).lo : Int) ((pSpan a n k).hi : Int) = true := by
    show dOk ((a / 4 + k : Nat) : Int) (a : Int) ((pFrom a k : Nat) : Int) ((pTo a n k : Nat) : Int) = true
    have g1 : (0 : Int) ≤ ((a / 4 + k : Nat) : Int) := by omega
    have g2 : ((a / 4 + k : Nat) : Int) ≤ 268435456 := by omega
    have g3 : ((pFrom a k : Nat) : Int) < ((pTo a n k : Nat) : Int) := by omega
    have g4 : ((pTo a n k : Nat) : Int) ≤ 4 := by omega
    have g5 : (a : Int) ≤ 1073741824 := by omega
    have g6 : (0 : Int) ≤ (a : Int) := by omega
    have g7 : (0 : Int) ≤ ((pFrom a k : Nat) : Int) := by omega
    unfold dOk
    rw [decide_eq_true g1, decide_eq_true g2, decide_eq_true g3, decide_eq_true g4, decide_eq_true g5, decide_eq_true g6, decide_eq_true g7]
    rfl
  rw [hok, if_pos rfl]
  simp only [pSpan, pBlk]
  unfold dataP
  have e0 : (bs.length : Int) / 64 = (n : Int) := by omega
  have e1 : pClamp ((a / 4 + k : Nat) : Int) (a : Int) (n : Int) ((pFrom a k : Nat) : Int) = (pDone a n k : Int) := by unfold pClamp; omega
  have e2 : pClamp ((a / 4 + k : Nat) : Int) (a : Int) (n : Int) ((pTo a n k : Nat) : Int) = (pDone a n (k + 1) : Int) := by unfold pClamp; omega
  rw [e0, e1, e2]
  have e3 : ((pDone a n k : Int) * 64).toNat = pDone a n k * 64 := by omega
  have e4 : ((pDone a n (k + 1) : Int) * 64).toNat = pDone a n (k + 1) * 64 := by omega
  rw [e3, e4, ← Nat.sub_mul]
  congr 2
  omega
theorem chunk_len {a n k : Nat} {bs : List UInt8} (hl : bs.length = n * 64) (hk : k < pM a n) : ((bs.drop (pDone a n k * 64)).take (((pSpan a n k).hi - (pSpan a n k).lo) * 64)).length = ((pSpan a n k).hi - (pSpan a n k).lo) * 64 := by
  have h3 := pDone_succ hk
  have h5 := pDone_le (a := a) (c := n) (i := k + 1)
  rw [List.length_take, List.length_drop, hl]
  simp only [pSpan]
  omega
/-- The first k parts of a row are put: just their sectors have changed. -/
theorem sec_put {a n : Nat} {d : List UInt8} (ha : a ≤ 1048576) (hn : n ≤ 40) (hl : d.length = n * 64) (m : List (Nat × List UInt8)) (hm : ∀ q ∈ m, q.2.length = 256) : ∀ k, k ≤ pM a n →
    (∀ q ∈ putM a d m ((pSpans a n).take k), q.2.length = 256) ∧ ∀ s : Nat, sec (putM a d m ((pSpans a n).take k)) s = if a ≤ s ∧ s < a + pDone a n k then (d.drop ((s - a) * 64)).take 64 else sec m s
  | 0, _ => by
    rw [List.take_zero, pDone_zero]
    refine ⟨hm, fun s => ?_⟩
    rw [if_neg (by omega)]
    rfl
  | k + 1, hk => by
    obtain ⟨h1, h2⟩ := sec_put ha hn hl m hm k (by omega)
    have hkk : k < pM a n := by omega
    have e : (pSpans a n).take (k + 1) = (pSpans a n).take k ++ [pSpan a n k] := by
      rw [List.take_add_one]
      congr 1
      unfold pSpans
      rw [List.getElem?_map, List.getElem?_range hkk]
      rfl
    rw [e, putM_snoc]
    generalize putM a d m ((pSpans a n).take k) = M at h1 h2 ⊢
    unfold putP
    rw [chunk_at ha hn hl hkk]
    have hcl := chunk_len hl hkk
    have g1 := pAt hkk
    have g2 := pFrom_lt_pTo hkk
    have g3 := pDone_succ hkk
    have g6 := pTo_le (a := a) (c := n) (i := k)
    have g7 := pDone_le (a := a) (c := n) (i := k + 1)
    have eb : (pSpan a n k).blk = a / 4 + k := rfl
    have ef : (pSpan a n k).lo = pFrom a k := rfl
    have et : (pSpan a n k).hi = pTo a n k := rfl
    rw [ef, et] at hcl
    rw [eb, ef, et]
    refine ⟨fun q hq => ?_, fun s => ?_⟩
    · rcases mem_putA hq with rfl | hq
      · show (mergeB _ _ _).length = 256
        have hb := blkAt_len h1 (a / 4 + k)
        rw [mergeB_len (by rw [hb, hcl]; omega), hb]
      · exact h1 q hq
    · have hs2 := h2 s
      unfold sec at hs2 ⊢
      rw [blkAt_put]
      by_cases e1 : s / 4 = a / 4 + k
      · rw [if_pos e1, cut1_merge (blkAt_len h1 _) hcl (by omega) g6 (by omega)]
        by_cases e2 : pFrom a k ≤ s % 4 ∧ s % 4 < pTo a n k
        · rw [if_pos e2, if_pos (by omega), List.drop_take, List.drop_drop, List.take_take]
          congr 2 <;> omega
        · rw [if_neg e2, ← e1, hs2]
          by_cases e3 : a ≤ s ∧ s < a + pDone a n k
          · rw [if_pos e3, if_pos (by omega)]
          · rw [if_neg e3, if_neg (by omega)]
      · rw [if_neg e1, hs2]
        by_cases e3 : a ≤ s ∧ s < a + pDone a n k
        · rw [if_pos e3, if_pos (by omega)]
        · rw [if_neg e3, if_neg (by omega)]
theorem spansI_nat {a c : Nat} (h : a + c ≤ 1073741824) : pSpansI (a : Int) (c : Int) = pSpans a c := by
  unfold pSpansI pOk
  by_cases hc : 1 ≤ c
  · rw [if_pos (by simp; omega)]; simp
  · obtain rfl : c = 0 := by omega
    rw [if_neg (by simp)]
    simp [pSpans, pM]
theorem spans_one (s : Nat) : pSpans s 1 = [⟨s / 4, s % 4, s % 4 + 1⟩] := by
  have e : pM s 1 = 1 := by unfold pM; rw [if_neg (by omega)]; omega
  unfold pSpans
  rw [e]
  show [pSpan s 1 0] = _
  have h1 : pFrom s 0 = s % 4 := by unfold pFrom; omega
  have h2 : pTo s 1 0 = s % 4 + 1 := by unfold pTo; omega
  unfold pSpan pBlk
  rw [h1, h2]
  simp
theorem done_all {a n : Nat} (hn : 1 ≤ n) : pDone a n (pM a n) = n := by unfold pDone pM; rw [if_neg (by omega)]; omega
/-- What was written is read, and its neighbours stay. -/
theorem sec_write {a n : Nat} {d : List UInt8} (ha : a ≤ 1048576) (hn : 1 ≤ n ∧ n ≤ 40) (hl : d.length = n * 64) (m : List (Nat × List UInt8)) (hm : ∀ q ∈ m, q.2.length = 256) (s : Nat) :
    sec (putM a d m ((pSpansI a n).take 1024)) s = if a ≤ s ∧ s < a + n then (d.drop ((s - a) * 64)).take 64 else sec m s := by
  have h7 := pM_le (a := a) (c := n)
  have h := (sec_put ha hn.2 hl m hm (pM a n) (Nat.le_refl _)).2 s
  rw [done_all hn.1] at h
  rw [spansI_nat (by omega), List.take_of_length_le (by simp [pSpans]; omega), ← h, List.take_of_length_le (by simp [pSpans])]
/-- The volumes that some operations leave. -/
def runL (l : List (Nat × Vl)) (os : List Op0) : List (Nat × Vl) := os.foldl (fun l o => (stepD l o 1024).2) l
theorem runL_snoc (l : List (Nat × Vl)) (os : List Op0) (o : Op0) : runL l (os ++ [o]) = (stepD (runL l os) o 1024).2 := by simp [runL]
theorem runL_take {l : List (Nat × Vl)} {os : List Op0} {i : Nat} {o : Op0} (h : os[i]? = some o) : runL l (os.take (i + 1)) = (stepD (runL l (os.take i)) o 1024).2 := by
  rw [List.take_add_one, h]
  exact runL_snoc _ _ _
/-- A refused operation changes nothing. -/
theorem step_no {l : List (Nat × Vl)} {o : Op0} (h : refD l o ≠ 0) : stepD l o 1024 = (⟨refD l o, 0, []⟩, l) := by
  unfold stepD
  rw [if_pos h]
theorem write_ok {l : List (Nat × Vl)} {o : Op0} (hk : o.k = 5) (h : refD l o = 0) : ∃ v, getA o.vol l = some v ∧ o.pl + (o.data.length : Int) / 64 ≤ 4 * (v.size : Int) ∧ (0 ≤ o.pl ∧ o.pl ≤ 1048576) ∧ (64 ≤ o.data.length ∧ o.data.length % 64 = 0 ∧ o.data.length ≤ 2048) ∧
    stepD l o 1024 = (⟨0, 0, []⟩, putA o.vol ⟨v.size, putM o.pl o.data v.m ((pSpansI o.pl ((o.data.length : Int) / 64)).take 1024)⟩ l) := by
  obtain ⟨v, hv⟩ := ref0_vol h (by omega) (by omega)
  have hr := ref0_row h (.inl hk) hv
  have e : rowC o = (o.data.length : Int) / 64 := by unfold rowC; rw [if_pos hk]
  rw [e] at hr
  have hm := ref0_may h
  have hp := may_pl hm (by omega)
  have hd := may_data hm hk
  refine ⟨v, hv, hr, hp, hd, ?_⟩
  unfold stepD
  rw [if_neg (by omega), if_neg (by omega), if_neg (by omega), hv]
  dsimp only
  rw [if_neg (by omega), if_neg (by omega), if_pos (by omega), e]
  obtain ⟨a, ha⟩ : ∃ a : Nat, o.pl = (a : Int) := ⟨o.pl.toNat, by omega⟩
  have hlen : ((pSpansI o.pl ((o.data.length : Int) / 64)).length : Int) ≤ 1024 := by
    have e2 : (o.data.length : Int) / 64 = ((o.data.length / 64 : Nat) : Int) := by omega
    rw [ha, e2, spansI_nat (by omega)]
    have := pM_le (a := a) (c := o.data.length / 64)
    simp only [pSpans, List.length_map, List.length_range]
    omega
  rw [if_pos hlen]
  unfold dataO
  rw [if_neg (by omega)]
  rfl
/-- The law's own operations. -/
def rdOp (n : Nat) (s c : Int) : Op0 := ⟨9, n, 0, 0, s, c, []⟩
def snOp (n t : Nat) : Op0 := ⟨4, n, t, 0, 0, 0, []⟩
def dsOp (n : Nat) (c : Int) : Op0 := ⟨7, n, 0, 0, 0, c, []⟩
def rsOp (n : Nat) (s : Int) : Op0 := ⟨3, n, 0, s, 0, 0, []⟩
theorem may_rd {n : Nat} {s c : Int} (hn : 1 ≤ n ∧ n < 4294967296) (hs : 0 ≤ s ∧ s ≤ 1048576) (hc : 1 ≤ c ∧ c ≤ 1024) : mayO (rdOp n s c) = true := by
  unfold mayO
  rw [opEq_yes (show rdOp n s c = bare (rdOp n s c) (nm (rdOp n s c).k) from rfl)]
  simp [rdOp, nm, wIn]; (repeat' apply And.intro) <;> first | exact decide_eq_true (by omega) | (simp; omega) | omega
theorem may_sn {n t : Nat} (hn : 1 ≤ n ∧ n < 4294967296) (ht : 1 ≤ t ∧ t < 4294967296) (h : t ≠ n) : mayO (snOp n t) = true := by
  unfold mayO
  rw [opEq_yes (show snOp n t = bare (snOp n t) (nm (snOp n t).k) from rfl)]
  simp [snOp, nm, wIn]; (repeat' apply And.intro) <;> first | exact decide_eq_true (by omega) | (simp; omega) | omega
theorem may_ds {n : Nat} {c : Int} (hn : 1 ≤ n ∧ n < 4294967296) (hc : 1 ≤ c ∧ c ≤ 1024) : mayO (dsOp n c) = true := by
  unfold mayO
  rw [opEq_yes (show dsOp n c = bare (dsOp n c) (nm (dsOp n c).k) from rfl)]
  simp [dsOp, nm, wIn]; (repeat' apply And.intro) <;> first | exact decide_eq_true (by omega) | (simp; omega) | omega
theorem may_rs {n : Nat} {s : Int} (hn : 1 ≤ n ∧ n < 4294967296) (hs : 0 ≤ s ∧ s ≤ 256) : mayO (rsOp n s) = true := by
  unfold mayO
  rw [opEq_yes (show rsOp n s = bare (rsOp n s) (nm (rsOp n s).k) from rfl)]
  simp [rsOp, nm, wIn]; (repeat' apply And.intro) <;> first | exact decide_eq_true (by omega) | (simp; omega) | omega
theorem step_rd {l : List (Nat × Vl)} {n : Nat} {v : Vl} (hg : getA n l = some v) (hn : 1 ≤ n ∧ n < 4294967296) {s c : Int} (hs : 0 ≤ s ∧ s ≤ 1048576) (hc : 1 ≤ c ∧ c ≤ 1024) :
    stepD l (rdOp n s c) 1024 = (if 4 * (v.size : Int) < s + c then (⟨5, 0, []⟩, l) else (⟨0, 0, readM v.m (pSpansI s c)⟩, l)) := by
  have hr : refD l (rdOp n s c) = if 4 * (v.size : Int) < s + c then 5 else 0 := by
    unfold refD
    rw [if_neg (by rw [may_rd hn hs hc]; simp), if_neg (by simp [rdOp, snOp, dsOp, rsOp]), if_neg (by simp [rdOp, snOp, dsOp, rsOp])]
    show (match getA n l with | none => _ | some v => _) = _
    rw [hg]
    dsimp only
    rw [if_neg (by simp [rdOp, snOp, dsOp, rsOp]), if_pos (by simp [rdOp, snOp, dsOp, rsOp])]
    rfl
  unfold stepD
  rw [hr]
  by_cases h : 4 * (v.size : Int) < s + c
  · rw [if_pos h, if_pos h, if_pos (by simp [rdOp, snOp, dsOp, rsOp])]
  · rw [if_neg h, if_neg h, if_neg (by simp [rdOp, snOp, dsOp, rsOp]), if_neg (by simp [rdOp, snOp, dsOp, rsOp]), if_neg (by simp [rdOp, snOp, dsOp, rsOp])]
    show (match getA n l with | none => _ | some v => _) = _
    rw [hg]
    dsimp only
    rw [if_neg (by simp [rdOp, snOp, dsOp, rsOp]), if_neg (by simp [rdOp, snOp, dsOp, rsOp]), if_neg (by simp [rdOp, snOp, dsOp, rsOp]), if_neg (by simp [rdOp, snOp, dsOp, rsOp]), if_pos (by simp [rdOp, snOp, dsOp, rsOp])]
    rfl
theorem step_rd1 {l : List (Nat × Vl)} {n : Nat} {v : Vl} (hg : getA n l = some v) (hn : 1 ≤ n ∧ n < 4294967296) (hv : v.size ≤ 256) {s : Nat} (hs : s < 4 * v.size) : stepD l (rdOp n s 1) 1024 = (⟨0, 0, sec v.m s⟩, l) := by
  rw [step_rd hg hn (by omega) (by omega), if_neg (by omega)]
  have e := spansI_nat (a := s) (c := 1) (by omega)
  rw [show ((1 : Nat) : Int) = 1 from rfl] at e
  rw [e, spans_one]
  simp [readM, sec]
theorem step_sn {l : List (Nat × Vl)} {n t : Nat} {v : Vl} (hg : getA n l = some v) (hn : 1 ≤ n ∧ n < 4294967296) (ht : 1 ≤ t ∧ t < 4294967296) (h : t ≠ n) (hl : getA t l = none) : stepD l (snOp n t) 1024 = (⟨0, 0, []⟩, putA t v l) := by
  have hr : refD l (snOp n t) = 0 := by
    unfold refD
    rw [if_neg (by rw [may_sn hn ht h]; simp), if_neg (by simp [rdOp, snOp, dsOp, rsOp]), if_neg (by simp [rdOp, snOp, dsOp, rsOp])]
    show (match getA n l with | none => _ | some v => _) = _
    rw [hg]
    dsimp only
    rw [if_pos (by simp [rdOp, snOp, dsOp, rsOp])]
    show (if (getA t l).isSome then _ else _) = _
    rw [hl]
    rfl
  unfold stepD
  rw [hr, if_neg (by simp [rdOp, snOp, dsOp, rsOp]), if_neg (by simp [rdOp, snOp, dsOp, rsOp]), if_neg (by simp [rdOp, snOp, dsOp, rsOp])]
  show (match getA n l with | none => _ | some v => _) = _
  rw [hg]
  dsimp only
  rw [if_neg (by simp [rdOp, snOp, dsOp, rsOp]), if_pos (by simp [rdOp, snOp, dsOp, rsOp])]
  rfl
theorem step_ds {l : List (Nat × Vl)} {n : Nat} {v : Vl} (hg : getA n l = some v) (hn : 1 ≤ n ∧ n < 4294967296) (hv : v.Ok) (h1 : 1 ≤ v.size) : stepD l (dsOp n v.size) 1024 = (⟨0, 0, []⟩, putA n ⟨v.size, []⟩ l) := by
  have hsz := hv.size
  have hr : refD l (dsOp n v.size) = 0 := by
    unfold refD
    rw [if_neg (by rw [may_ds hn (by omega)]; simp), if_neg (by simp [rdOp, snOp, dsOp, rsOp]), if_neg (by simp [rdOp, snOp, dsOp, rsOp])]
    show (match getA n l with | none => _ | some v => _) = _
    rw [hg]
    dsimp only
    rw [if_neg (by simp [rdOp, snOp, dsOp, rsOp]), if_neg (by simp [rdOp, snOp, dsOp, rsOp]), if_pos (by simp [rdOp, snOp, dsOp, rsOp])]
    show (if (v.size : Int) < 0 + (v.size : Int) then _ else _) = _
    rw [if_neg (by omega)]
  have hd : dropA 0 (0 + (v.size : Int)) v.m = [] := by
    unfold dropA
    rw [List.filter_eq_nil_iff]
    intro p hp
    have := hv.lt p hp
    simp
    omega
  unfold stepD
  rw [hr, if_neg (by simp [rdOp, snOp, dsOp, rsOp]), if_neg (by simp [rdOp, snOp, dsOp, rsOp]), if_neg (by simp [rdOp, snOp, dsOp, rsOp])]
  show (match getA n l with | none => _ | some v => _) = _
  rw [hg]
  dsimp only
  rw [if_neg (by simp [rdOp, snOp, dsOp, rsOp]), if_neg (by simp [rdOp, snOp, dsOp, rsOp]), if_neg (by simp [rdOp, snOp, dsOp, rsOp]), if_pos (by simp [rdOp, snOp, dsOp, rsOp])]
  show (_, putA n ⟨v.size, dropA 0 (0 + (v.size : Int)) v.m⟩ l) = _
  rw [hd]
theorem step_rs {l : List (Nat × Vl)} {n : Nat} {v : Vl} (hg : getA n l = some v) (hn : 1 ≤ n ∧ n < 4294967296) {s : Nat} (hs : s ≤ 256) : stepD l (rsOp n s) 1024 = (⟨0, 0, []⟩, putA n ⟨s, dropA s 1073741824 v.m⟩ l) := by
  have hr : refD l (rsOp n s) = 0 := by
    unfold refD
    rw [if_neg (by rw [may_rs hn (by omega)]; simp), if_neg (by simp [rdOp, snOp, dsOp, rsOp]), if_neg (by simp [rdOp, snOp, dsOp, rsOp])]
    show (match getA n l with | none => _ | some v => _) = _
    rw [hg]
    dsimp only
    rw [if_neg (by simp [rdOp, snOp, dsOp, rsOp]), if_neg (by simp [rdOp, snOp, dsOp, rsOp]), if_neg (by simp [rdOp, snOp, dsOp, rsOp])]
  unfold stepD
  rw [hr, if_neg (by simp [rdOp, snOp, dsOp, rsOp]), if_neg (by simp [rdOp, snOp, dsOp, rsOp]), if_neg (by simp [rdOp, snOp, dsOp, rsOp])]
  show (match getA n l with | none => _ | some v => _) = _
  rw [hg]
  dsimp only
  rw [if_pos (by simp [rdOp, snOp, dsOp, rsOp])]
  rfl
/-- A volume that no operation names stays. -/
theorem step_else {l : List (Nat × Vl)} {o : Op0} {t : Nat} (h1 : o.vol ≠ t) (h2 : o.to ≠ t) : getA t (stepD l o 1024).2 = getA t l := by
  unfold stepD
  (repeat' split) <;> first | rfl | (dsimp only; rw [getA_put, if_neg (by omega)]) | (dsimp only; rw [getA_del _ _ _ (by omega)])
theorem run_else {l : List (Nat × Vl)} {t : Nat} : ∀ {os : List Op0}, (∀ o ∈ os, o.vol ≠ t ∧ o.to ≠ t) → getA t (runL l os) = getA t l := by
  intro os
  induction os generalizing l with
  | nil => intro _; rfl
  | cons o os ih =>
    intro h
    have h0 := h o (List.mem_cons_self ..)
    show getA t (runL (stepD l o 1024).2 os) = _
    rw [ih (fun o ho => h o (List.mem_cons_of_mem _ ho)), step_else h0.1 h0.2]
theorem runL_ok {l : List (Nat × Vl)} (h : DevOk l) : ∀ os : List Op0, DevOk (runL l os) := by
  intro os
  induction os generalizing l with
  | nil => exact h
  | cons o os ih => exact ih (stepD_ok h o 1024)
/-- What is there of nothing reads as noughts. -/
theorem read_nil : ∀ sp : List PSpan, (∀ s ∈ sp, s.hi ≤ 4) → readM [] sp = List.replicate ((sp.map fun s => (s.hi - s.lo) * 64).sum) 0
  | [], _ => rfl
  | s :: sp, h => by
    have ih := read_nil sp (fun z hz => h z (List.mem_cons_of_mem _ hz))
    have hs := h s (List.mem_cons_self ..)
    unfold readM at ih ⊢
    rw [List.flatMap_cons, ih, List.map_cons, List.sum_cons]
    have : cutB (blkAt [] s.blk) s.lo s.hi = List.replicate ((s.hi - s.lo) * 64) 0 := by
      show cutB zeroB s.lo s.hi = _
      unfold cutB zeroB
      rw [List.drop_replicate, List.take_replicate]
      congr 1
      omega
    rw [this, List.replicate_append_replicate]
theorem sum_spans {a n : Nat} : ∀ k, k ≤ pM a n → (((pSpans a n).take k).map fun s => (s.hi - s.lo) * 64).sum = pDone a n k * 64
  | 0, _ => by rw [List.take_zero, pDone_zero]; rfl
  | k + 1, hk => by
    have hkk : k < pM a n := by omega
    have e : (pSpans a n).take (k + 1) = (pSpans a n).take k ++ [pSpan a n k] := by
      rw [List.take_add_one]
      congr 1
      unfold pSpans
      rw [List.getElem?_map, List.getElem?_range hkk]
      rfl
    rw [e, List.map_append, List.sum_append, sum_spans k (by omega)]
    have := pDone_succ hkk
    simp only [List.map_cons, List.map_nil, List.sum_cons, List.sum_nil, pSpan]
    omega
theorem read_all {n : Nat} (h : 1 ≤ n ∧ n ≤ 256) : readM [] (pSpansI 0 (4 * (n : Int))) = List.replicate (256 * n) 0 := by
  have e := spansI_nat (a := 0) (c := 4 * n) (by omega)
  rw [show ((0 : Nat) : Int) = 0 from rfl, show ((4 * n : Nat) : Int) = 4 * (n : Int) from by omega] at e
  rw [e, read_nil _ (fun s hs => by
    simp only [pSpans, List.mem_map, List.mem_range] at hs
    obtain ⟨i, _, rfl⟩ := hs
    exact pTo_le)]
  have h1 := sum_spans (a := 0) (n := 4 * n) (pM 0 (4 * n)) (Nat.le_refl _)
  rw [List.take_of_length_le (by simp [pSpans]), done_all (by omega)] at h1
  rw [h1]
  congr 1
  omega
/-- Cut to nothing, and grown again: as what is discarded whole. -/
theorem cut_same {v : Vl} (hv : v.Ok) : dropA (0 : Int) 1073741824 v.m = [] := by
  unfold dropA
  rw [List.filter_eq_nil_iff]
  intro p hp
  have := hv.lt p hp
  have := hv.size
  simp
  omega
theorem strip_none {l : List (Nat × (Vl × Nat))} {n : Nat} (h : getA n l = none) : getA n (strip l) = none := by rw [getA_strip, h]; rfl
theorem get_strip {l : List (Nat × (Vl × Nat))} {n : Nat} {v : Vl} (h : getA n (strip l) = some v) : ∃ b, getA n l = some (v, b) := by
  rw [getA_strip] at h
  obtain ⟨x, hx, e⟩ := Option.map_eq_some_iff.1 h
  exact ⟨x.2, by rw [hx, ← e]⟩
end Go.Proofs.Ythkmihedkddnmaa
