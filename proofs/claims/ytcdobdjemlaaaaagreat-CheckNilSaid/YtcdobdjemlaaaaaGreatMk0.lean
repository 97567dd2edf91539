/- A formatted disk, plainly: what stands in its blocks; what Open asks of it. -/
import Derived.Test.YtcdobdjemlaaaaaGreatOp0
namespace Go.Proofs.YtcdobdjemlaaaaaGreat
open Go.RowKit Wire
set_option linter.unusedVariables false
set_option linter.unusedSimpArgs false

theorem rd_wpN_at (d : Dk) (pg mcs dcs : List Nat) {P : Nat} (hfit : ∀ i, i < P → (2 + pg.getD i 0) * 4 + 4 ≤ d.img.length) (hne : ∀ a b, a < b → b < P → pg.getD a 0 ≠ pg.getD b 0) : ∀ i, i ≤ P → ∀ a, a < i → rdB (d.wpN pg mcs dcs i).img (2 + pg.getD a 0) = wpB pg mcs dcs a
  | 0, _, a, ha => by omega
  | i + 1, hi, a, ha => by
    have hl := (d.wpN_at pg mcs dcs i).1
    show rdB ((d.wpN pg mcs dcs i).wrK _ _).img _ = _
    rw [Dk.wrK_img]
    by_cases h : a = i
    · subst h
      exact rd_wr (wpB_len _ _ _ _) (by rw [hl]; exact hfit a (by omega))
    · rw [rd_wr_other (by rw [hl]; exact hfit a (by omega)) (by have := hne a i (by omega) (by omega); omega)]
      exact rd_wpN_at d pg mcs dcs hfit hne i (by omega) a (by omega)
theorem fmt_img (d : Dk) (m k : Nat) : (d.fmt m k).img = wrB (wrB (d.wpN (pgK (pagesN m + pagesN k)) (ctK m (pagesN m + pagesN k)) (List.replicate k 0) (pagesN m + pagesN k)).img 0 (zeros 256)) 1 (suF m k (pagesN m + pagesN k)).bytes := by
  show ((Dk.wrK _ 0 (zeros 256)).wrK 1 _).img = _
  rw [Dk.wrK_img, Dk.wrK_img]
  rfl
theorem fmt_len (d : Dk) (m k : Nat) : (d.fmt m k).img.length = d.img.length := by
  rw [fmt_img, wrB_len, wrB_len, (d.wpN_at _ _ _ _).1]
theorem ctN_ctK {m P i : Nat} (hi : i ≤ P) : ctN (ctK m P) i = 1 := by
  unfold ctN ctK
  rw [List.getD_eq_getElem?_getD, List.getElem?_append_left (by simp; omega), List.getElem?_replicate, if_pos (by omega)]
  rfl
theorem ctN_ctK0 {m P i : Nat} (hi : P < i) : ctN (ctK m P) i = 0 := by
  unfold ctN ctK
  rw [List.getD_eq_getElem?_getD, List.getElem?_append_right (by simp; omega), List.getElem?_replicate]
  split <;> rfl
theorem ctN_rep (k i : Nat) : ctN (List.replicate k 0) i = 0 := by
  unfold ctN
  rw [List.getD_eq_getElem?_getD, List.getElem?_replicate]
  split <;> rfl
theorem pagesN_le1 {n : Nat} (h : 1 ≤ n) : 1 ≤ pagesN n := by unfold pagesN; rw [if_neg (by omega)]; omega
/-- What a pool needs. -/
structure MkOk (n m k : Nat) : Prop where
  m1 : 16 ≤ m
  m2 : m ≤ 240
  k1 : 1 ≤ k
  k2 : k ≤ 480
  p6 : pagesN m + pagesN k ≤ 6
  sec : 4 * (2 + m + k) ≤ n
def slotF (m k : Nat) (i : Nat) : Su := if i = 0 then suO else suF m k (pagesN m + pagesN k)
def slotE (i : Nat) : Int := if i = 0 then 4 else 0
theorem zeros_len (k : Nat) : (zeros k).length = k := List.length_replicate
theorem zeros_dk0 (n j : Nat) (hj : j * 4 + 4 ≤ n) : rdB (dk0 n).img j = zeros 256 := by
  have h : ∀ i, i < 4 → (dk0 n).img.getD (j * 4 + i) [] = zeros 64 := fun i hi => by
    show (List.replicate n (zeros 64)).getD _ _ = _
    rw [List.getD_eq_getElem?_getD, List.getElem?_replicate, if_pos (by omega)]
    rfl
  unfold rdB
  simp only [show List.range 4 = [0, 1, 2, 3] from rfl, List.flatMap_cons, List.flatMap_nil, h 0 (by omega), h 1 (by omega), h 2 (by omega), h 3 (by omega)]
  unfold zeros
  rw [List.append_nil, List.replicate_append_replicate, List.replicate_append_replicate, List.replicate_append_replicate]
section
variable {d : Dk} {n m k : Nat} (hn : d.img.length = n) (ok : MkOk n m k)
include hn ok
theorem fmt_slot0 : rdB (d.fmt m k).img 0 = zeros 256 := by
  have hs := ok.sec
  rw [fmt_img, rd_wr_other (by rw [wrB_len, (d.wpN_at _ _ _ _).1, hn]; omega) (by omega), rd_wr (zeros_len 256) (by rw [(d.wpN_at _ _ _ _).1, hn]; omega)]
theorem fmt_slot1 : rdB (d.fmt m k).img 1 = (suF m k (pagesN m + pagesN k)).bytes := by
  have hs := ok.sec
  rw [fmt_img, rd_wr (Su.bytes_len (pgK_len ok.p6)) (by rw [wrB_len, (d.wpN_at _ _ _ _).1, hn]; omega)]
theorem fmt_page {i : Nat} (hi : i < pagesN m + pagesN k) : rdB (d.fmt m k).img (2 + (pgK (pagesN m + pagesN k)).getD i 0) = wpB (pgK (pagesN m + pagesN k)) (ctK m (pagesN m + pagesN k)) (List.replicate k 0) i := by
  have hs := ok.sec
  have h6 := ok.p6
  have hm := ok.m1
  have hg := pgK_get h6 hi
  have hl := (d.wpN_at (pgK (pagesN m + pagesN k)) (ctK m (pagesN m + pagesN k)) (List.replicate k 0) (pagesN m + pagesN k)).1
  rw [fmt_img, rd_wr_other (by rw [wrB_len, hl, hn, hg]; omega) (by omega), rd_wr_other (by rw [hl, hn, hg]; omega) (by omega)]
  exact rd_wpN_at d _ _ _ (fun a ha => by rw [pgK_get h6 ha, hn]; omega) (fun a b hab hb => by rw [pgK_get h6 hb, pgK_get h6 (by omega)]; omega) _ (Nat.le_refl _) i hi
theorem fmt_ok : OpOk (d.fmt m k) (suF m k (pagesN m + pagesN k)) m k (ctK m (pagesN m + pagesN k)) (List.replicate k 0) := by
  have h6 := ok.p6
  have hm := ok.m1
  refine ⟨suF_wf m k h6, suF_may ok.m1 ok.m2 ok.k1 ok.k2 h6 (by omega), rfl, rfl, ctK_len (by omega), List.length_replicate, ctK_lt _ _, fun c hc => by rw [List.eq_of_mem_replicate hc]; omega, h6, by rw [fmt_len, hn]; exact ok.sec, ok.k1, fun i hi => fmt_page hn ok hi, ctN_ctK (by omega), fun i hi => ctN_ctK (by show (pgK _).getD i 0 ≤ _; rw [pgK_get h6 hi]; omega), ?_, ?_, ?_⟩
  all_goals (show ctN (ctK m _) 0 ≠ 0; rw [ctN_ctK (by omega)]; decide)
theorem fmt_slots : ∀ i, i < 2 → OfR (rdB (d.fmt m k).img i) (slotF m k i) (slotE i) := fun i hi => by
  have h6 := ok.p6
  have hm := ok.m1
  rcases (show i = 0 ∨ i = 1 by omega) with rfl | rfl
  · rw [fmt_slot0 hn ok]
    exact ofr_zero
  · rw [fmt_slot1 hn ok]
    exact ofr_su _ (suF_wf m k h6) (suF_may ok.m1 ok.m2 ok.k1 ok.k2 h6 (by omega))
end
theorem slot_tx (m k : Nat) : ∀ i, i < 2 → (slotF m k i).tx < 18446744073709551616 := fun i hi => by
  rcases (show i = 0 ∨ i = 1 by omega) with rfl | rfl
  · show (0 : Nat) < _; decide
  · show (1 : Nat) < _; decide
theorem slot_best (m k : Nat) : bestS (slotF m k) slotE 2 = suF m k (pagesN m + pagesN k) := by
  show stepS (stepS suO 0 suO 4) 1 (suF m k _) 0 = _
  have e : stepS suO 0 suO 4 = suO := by unfold stepS; rw [if_neg (by decide)]
  rw [e]
  unfold stepS
  rw [if_pos ⟨rfl, rfl, by show (0 : Nat) < 1; decide⟩]
/-- A store in memory (its disk aside). -/
structure StB (w : World) (S B pm pd mf md : Nat) (s : Su) (A D : M) (Fm Fd : List Nat) (bk : Bool) : Prop where
  box : w.heap[S]? = some (.cells (stC B s pm pd mf md bk) 34 (0, 0))
  ma : IA w pm A Fm
  da : IA w pd D Fd
  mok : A.Ok
  dok : D.Ok
  ml : (A.now.length : Int) = s.mt
  dl : (D.now.length : Int) = s.data
  wf : s.Wf
theorem StB.below {w w' : World} {S B pm pd mf md : Nat} {s : Su} {A D : M} {Fm Fd : List Nat} {bk : Bool} (h : StB w S B pm pd mf md s A D Fm Fd bk) (hb : Below w.heap.size w w') : StB w' S B pm pd mf md s A D Fm Fd bk :=
  ⟨(hb.block _ (Array.getElem?_eq_some_iff.1 h.box).1).trans h.box, h.ma.same (fun j hj => hb.block j (h.ma.lt j hj)), h.da.same (fun j hj => hb.block j (h.da.lt j hj)), h.mok, h.dok, h.ml, h.dl, h.wf⟩
end Go.Proofs.YtcdobdjemlaaaaaGreat
