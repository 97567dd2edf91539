import Derived.Test.YthkmihedkddnmaaGreatRG28
import Derived.Test.YthkmihedkddnmaaGreatRG18
import Derived.Test.YthkmihedkddnmaaGreatRG34
import Derived.Test.YthkmihedkddnmaaGreatRG6
set_option linter.unusedVariables false
set_option linter.unusedSimpArgs false
namespace Go.Proofs.YthkmihedkddnmaaGreat
open Go.RowKit Go.Maps Wire Cmd
theorem own_tagR {W : World} {B n size : Nat} {e : TypeId} {v : Value} {xs : List Value} (h : W.ownsRow B e size v n xs) : ∀ k ∈ ob v, ∃ cs, W.heap[k]? = some (.cells cs e (0, 0)) := by
 intro k hk
 rcases h.2 with ⟨rfl, _⟩ | ⟨g, cap, cur, rfl, _, hh, _⟩
 ·cases hk
 ·rw [ob_some] at hk
  rw [List.mem_singleton.1 hk]; exact ⟨cur, hh⟩
theorem DevAt.isMap {n0 : Nat} {w : World} {B Ba : Nat} {l : List (Nat × (Vl × Nat))} (h : DevAt n0 w B Ba l) : ∀ k ∈ dF Ba l, ∃ es c, w.heap[k]? = some (.map es c) := by
 intro k hk
 rcases List.mem_cons.1 hk with rfl | hk
 ·obtain ⟨es, c, hb, _⟩ := h.all
  exact ⟨es, c, hb⟩
 ·obtain ⟨p, hp, rfl⟩ := List.mem_map.1 hk
  obtain ⟨es, c, hb, _⟩ := h.vol p hp; exact ⟨es, c, hb⟩
theorem DevAt.geF {n0 : Nat} {w : World} {B Ba : Nat} {l : List (Nat × (Vl × Nat))} (h : DevAt n0 w B Ba l) : ∀ k ∈ dF Ba l, n0 ≤ k := by
 intro k hk
 rcases List.mem_cons.1 hk with rfl | hk
 ·exact h.ge.2.1
 ·obtain ⟨p, hp, rfl⟩ := List.mem_map.1 hk
  exact h.ge.2.2 p hp
theorem RDevAt.geF {n0 : Nat} {w : World} {C : Nat} {sv : Value} {l : List (Nat × (Vl × Value))} (h : RDevAt n0 w C sv l) : ∀ k ∈ C :: ob sv, n0 ≤ k := by
 intro k hk
 rcases List.mem_cons.1 hk with rfl | hk
 ·exact h.ge
 ·exact ownsRow_ge h.row k hk
theorem RDevAt.isCells {n0 : Nat} {w : World} {C : Nat} {sv : Value} {l : List (Nat × (Vl × Value))} (h : RDevAt n0 w C sv l) : ∀ k ∈ C :: ob sv, ∃ cs t, w.heap[k]? = some (.cells cs t (0, 0)) ∧ (t = 30 ∨ t = 58) := by
 intro k hk
 rcases List.mem_cons.1 hk with rfl | hk
 ·exact ⟨_, _, h.box, .inl rfl⟩
 ·obtain ⟨cs, hc⟩ := own_tagR h.row k hk
  exact ⟨cs, _, hc, .inr rfl⟩
theorem RDevAt.keptMap {n0 : Nat} {w w' : World} {C : Nat} {sv : Value} {l : List (Nat × (Vl × Value))} (h : RDevAt n0 w C sv l) {F : List Nat} (hm : Mods F w w') (hF : ∀ k ∈ F, ∃ es c, w.heap[k]? = some (.map es c)) : RDevAt n0 w' C sv l := by
 have no : ∀ (k : Nat) (cs : Array Value) (t : TypeId) (f : Nat × Nat), w.heap[k]? = some (.cells cs t f) → k ∉ F := fun k cs t f h1 h2 => by
  obtain ⟨es, c, h3⟩ := hF k h2; rw [h1] at h3
  cases h3
 refine ⟨(hm.block C h.lt (no _ _ _ _ h.box)).trans h.box, ownsRow_at h.row (fun j hj => ?_), fun p hp => ownsRow_at (h.blk p hp) (fun j hj => ?_), h.ge⟩
 ·obtain ⟨cs, hc⟩ := own_tagR h.row j hj
  exact hm.block j (ownsRow_lt h.row j hj) (no _ _ _ _ hc)
 ·obtain ⟨cs, hc⟩ := own_tagR (h.blk p hp) j hj
  exact hm.block j (ownsRow_lt (h.blk p hp) j hj) (no _ _ _ _ hc)
theorem DevAt.keptCells {n0 : Nat} {w w' : World} {B Ba : Nat} {l : List (Nat × (Vl × Nat))} (h : DevAt n0 w B Ba l) {F : List Nat} (hm : Mods F w w') (hF : ∀ k ∈ F, ∃ cs t, w.heap[k]? = some (.cells cs t (0, 0)) ∧ (t = 30 ∨ t = 58)) : DevAt n0 w' B Ba l := by
 refine h.kept hm (fun hB => ?_) (fun k hk hkF => ?_)
 ·obtain ⟨cs, t, h1, h2⟩ := hF B hB
  rw [h.box] at h1; obtain ⟨_, rfl, _⟩ := Obj.cells.inj (Option.some.inj h1)
  rcases h2 with h2 | h2 <;> exact absurd h2 (by decide)
 ·obtain ⟨cs, t, h1, _⟩ := hF k hkF
  obtain ⟨es, c, h3⟩ := h.isMap k hk; rw [h1] at h3
  cases h3
structure DuoD (n0 : Nat) (w : World) (B Ba : Nat) (l : List (Nat × (Vl × Nat))) (C : Nat) (sv : Value) (lw : List (Nat × (Vl × Value))) : Prop where
 a : DevAt n0 w B Ba l
 b : RDevAt n0 w C sv lw
 eq : mapA (·.1) lw = strip l
theorem DuoD.below {n0 : Nat} {w w' : World} {B Ba : Nat} {l : List (Nat × (Vl × Nat))} {C : Nat} {sv : Value} {lw : List (Nat × (Vl × Value))} (h : DuoD n0 w B Ba l C sv lw) (hb : Below w.heap.size w w') : DuoD n0 w' B Ba l C sv lw := ⟨h.a.below hb, h.b.below hb, h.eq⟩
theorem devS_len {l : List (Nat × Vl)} (h : DevOk l) : (devS l).length ≤ 1 + 515 * l.length := by
 have e : ∀ l : List (Nat × Vl), (∀ p ∈ l, p.2.Ok) → (volsS l).length ≤ 515 * l.length := by
  intro l
  induction l with
  | nil => intro _; exact Nat.le_refl _
  | cons p l ih =>
   intro h; have h1 := ih (fun q hq => h q (List.mem_cons_of_mem _ hq)); have h2 := (h p (List.mem_cons_self ..)).len; have e1 : volsS (p :: l) = volS p ++ volsS l := rfl; rw [e1, List.length_append, List.length_cons]; unfold volS; rw [List.length_append, blksS_len]; simp only [List.length_cons, List.length_nil]; omega
 have h1 := e l h.vol; unfold devS; rw [List.length_cons]; omega
theorem spans_le {a c : Int} {size : Nat} (h : a + c ≤ 4 * (size : Int)) : (pSpansI a c).length ≤ size := by
 unfold pSpansI
 split
 ·rename_i ho
  simp only [pOk, Bool.and_eq_true, decide_eq_true_eq] at ho; simp only [pSpans, List.length_map, List.length_range]; unfold pM
  split <;> omega
 ·simp
theorem stepD_big {l : List (Nat × Vl)} (h : DevOk l) (o : Op0) (b : Int) (hb : 1024 ≤ b) : stepD l o b = stepD l o 1024 := by
 unfold stepD
 by_cases h0 : refD l o = 0
 ·have hn : ¬ refD l o ≠ 0 := by simp [h0]
  simp only [if_neg hn]
  by_cases k1 : o.k = 1
  ·simp only [if_pos k1]
  ·by_cases k2 : o.k = 2
   ·simp only [if_neg k1, if_pos k2]
   ·simp only [if_neg k1, if_neg k2]
    cases hg : getA o.vol l with
    | none => rfl
    | some v =>
     dsimp only
     by_cases k5 : o.k = 5 ∨ o.k = 6
     ·have hr := ref0_row h0 (by rcases k5 with k | k; exact .inl k; exact .inr (.inl k)) hg
      have hv := (h.vol _ (getA_some hg)).size; have hl := spans_le hr; dsimp only at hv; have e1 : ∀ b : Int, 1024 ≤ b → (pSpansI o.pl (rowC o)).take b.toNat = pSpansI o.pl (rowC o) := fun b hb => List.take_of_length_le (by omega); have e2 : ∀ b : Int, 1024 ≤ b → ((pSpansI o.pl (rowC o)).length : Int) ≤ b := fun b hb => by omega
      simp only [e1 b hb, e1 1024 (by omega), if_pos (e2 b hb), if_pos (e2 1024 (by omega))]
     ·simp only [if_neg k5]
 ·simp only [if_pos (show refD l o ≠ 0 from h0)]
theorem delA_le {α : Type} (k : Nat) (l : List (Nat × α)) : (delA k l).length ≤ l.length := by unfold delA; exact List.length_filter_le _ _
theorem putA_le {α : Type} (k : Nat) (a : α) (l : List (Nat × α)) : (putA k a l).length ≤ l.length + 1 := by
 unfold putA; rw [insA_len]; have := delA_le k l; omega
theorem stepD_len (l : List (Nat × Vl)) (o : Op0) (b : Int) : (stepD l o b).2.length ≤ l.length + 1 := by
 unfold stepD
 by_cases h0 : refD l o = 0
 ·rw [if_neg (show ¬ refD l o ≠ 0 by simp [h0])]
  by_cases k1 : o.k = 1
  ·rw [if_pos k1]; exact putA_le _ _ _
  ·by_cases k2 : o.k = 2
   ·rw [if_neg k1, if_pos k2]; exact Nat.le_succ_of_le (delA_le _ _)
   ·rw [if_neg k1, if_neg k2]
    cases hg : getA o.vol l with
    | none => exact Nat.le_succ _
    | some v =>
     dsimp only
     by_cases k3 : o.k = 3
     ·rw [if_pos k3]; exact putA_le _ _ _
     ·rw [if_neg k3]
      by_cases k4 : o.k = 4
      ·rw [if_pos k4]; exact putA_le _ _ _
      ·rw [if_neg k4]
       by_cases k5 : o.k = 5 ∨ o.k = 6
       ·rw [if_pos k5]; exact putA_le _ _ _
       ·rw [if_neg k5]
        by_cases k7 : o.k = 7
        ·rw [if_pos k7]; exact putA_le _ _ _
        ·rw [if_neg k7]
         by_cases k9 : o.k = 9
         ·rw [if_pos k9]; exact Nat.le_succ _
         ·rw [if_neg k9]; exact Nat.le_succ _
 ·rw [if_pos (show refD l o ≠ 0 from h0)]; exact Nat.le_succ _
end Go.Proofs.YthkmihedkddnmaaGreat
namespace Go.Proofs.YthkmihedkddnmaaGreat
open Go.RowKit Go.Maps Wire Cmd
theorem DevAt.tagged {n0 : Nat} {w w' : World} {B Ba k : Nat} {l : List (Nat × (Vl × Nat))} {cs : Array Value} {t : TypeId} (h : DevAt n0 w B Ba l) (hk : w.heap[k]? = some (.cells cs t (0, 0))) (h1 : t ≠ 63) (hm : Mods [k] w w') : DevAt n0 w' B Ba l := by
 refine h.kept hm (fun hB => ?_) (fun j hj hjF => ?_)
 ·rw [List.mem_singleton] at hB
  subst hB; rw [h.box] at hk; obtain ⟨_, rfl, _⟩ := Obj.cells.inj (Option.some.inj hk); exact h1 rfl
 ·rw [List.mem_singleton] at hjF
  subst hjF; obtain ⟨es, c, h3⟩ := h.isMap j hj; rw [hk] at h3
  cases h3
theorem row_tagged {w w' : World} {n0 n size k : Nat} {e t : TypeId} {v : Value} {xs : List Value} {cs : Array Value} (h : w.ownsRow n0 e size v n xs) (hk : w.heap[k]? = some (.cells cs t (0, 0))) (h1 : t ≠ e) (hm : Mods [k] w w') : w'.ownsRow n0 e size v n xs :=
 ownsRow_at h (fun j hj => hm.block j (ownsRow_lt h j hj) (fun e2 => by
  rw [List.mem_singleton] at e2; subst e2; exact ob_tag h hk h1 hj))
theorem row_mono {w : World} {n0 n1 n size : Nat} {e : TypeId} {v : Value} {xs : List Value} (hle : n0 ≤ n1) (h : w.ownsRow n1 e size v n xs) : w.ownsRow n0 e size v n xs := by
 refine ⟨h.1, ?_⟩
 rcases h.2 with h | ⟨g, cap, cur, rfl, hg, r⟩
 ·exact .inl h
 ·exact .inr ⟨g, cap, cur, rfl, Nat.le_trans hle hg, r⟩
theorem row_cells {w w' : World} {n0 n n1 C : Nat} {v sv : Value} {xs : List Value} {lw : List (Nat × (Vl × Value))} (h : w.ownsRow n0 5 1 v n xs) (hr : RDevAt n1 w C sv lw) (hm : Mods (C :: ob sv) w w') : w'.ownsRow n0 5 1 v n xs :=
 ownsRow_at h (fun j hj => hm.block j (ownsRow_lt h j hj) (fun e2 => by
  obtain ⟨cs, t, h1, h2⟩ := hr.isCells j e2; refine ob_tag h h1 ?_ hj
  rcases h2 with rfl | rfl <;> decide))
def PlMeet (w : World) (B Ba C : Nat) (k : Nat) (r : Ans0 × List (Nat × Vl)) (W : World) (b12 b13 : Nat) : Prop :=
 ∃ (a5 : Option Addr) (c5 : Nat) (a11 : Option Addr) (c11 : Nat) (l5 : List (Nat × (Vl × Nat))) (sv : Value) (lw : List (Nat × (Vl × Value))),
  W.heap[b12]? = some (.cells #[.int .i64 r.1.code, .int .i64 r.1.done, .slice a5 r.1.data.length c5] 35 (0, 0)) ∧
  W.heap[b13]? = some (.cells #[.int .i64 r.1.code, .int .i64 r.1.done, .slice a11 r.1.data.length c11] 35 (0, 0)) ∧
  Rd W 1 (.slice a5 r.1.data.length c5) r.1.data.length (bV r.1.data) ∧ Rd W 1 (.slice a11 r.1.data.length c11) r.1.data.length (bV r.1.data) ∧
  DuoD w.heap.size W B Ba l5 C sv lw ∧ l5.length ≤ k ∧ Below w.heap.size w W
theorem ansEq_self (a : Ans0) : ansEq a a = true := by unfold ansEq; simp
theorem get_no {l : List (Nat × (Vl × Nat))} (h : DevOk (strip l)) {n : Nat} (hn : n = 0 ∨ 4294967296 ≤ n) : getA n l = none := by
 cases hg : getA n l with
 | none => rfl
 | some x =>
  have h1 : (n, x.1) ∈ strip l := List.mem_map.2 ⟨_, getA_some hg, rfl⟩; have h2 := h.nat _ h1; dsimp only at h2; omega
theorem pl5 {n0 : Nat} {wr X Y : World} {B Ba C : Nat} {l l5 : List (Nat × (Vl × Nat))} {sv : Value} {lw : List (Nat × (Vl × Value))} (hl : ∀ i ∈ dF Ba l ++ (C :: ob sv), i < wr.heap.size)
  (hm : Mods (dF Ba l ++ (C :: ob sv)) wr X) (hd : DevAt n0 X B Ba l) (hr : RDevAt n0 X C sv lw) (hc : Chg (dF Ba l) X Y (dF Ba l5)) :
  RDevAt n0 Y C sv lw ∧ Mods (dF Ba l ++ (C :: ob sv)) wr Y ∧ ∀ b, wr.heap.size ≤ b → b < X.heap.size → Y.heap[b]? = X.heap[b]? :=
 ⟨hr.keptMap hc.1 hd.isMap, hm.trans hc.1 (fun i hi => .inl (List.mem_append_left _ hi)), fun b h1 h2 => hc.1.block b h2 (fun h => by have := hl b (List.mem_append_left _ h); omega)⟩
theorem pl11 {n0 : Nat} {wr X Y : World} {B Ba C : Nat} {l l5 : List (Nat × (Vl × Nat))} {sv sv2 : Value} {lw : List (Nat × (Vl × Value))} (hl : ∀ i ∈ dF Ba l ++ (C :: ob sv), i < wr.heap.size)
  (hm : Mods (dF Ba l ++ (C :: ob sv)) wr X) (hd : DevAt n0 X B Ba l5) (hr : RDevAt n0 X C sv lw) (hc : Chg (C :: ob sv) X Y (C :: ob sv2)) :
  DevAt n0 Y B Ba l5 ∧ Mods (dF Ba l ++ (C :: ob sv)) wr Y ∧ ∀ b, wr.heap.size ≤ b → b < X.heap.size → Y.heap[b]? = X.heap[b]? :=
 ⟨hd.keptCells hc.1 hr.isCells, hm.trans hc.1 (fun i hi => .inl (List.mem_append_right _ hi)), fun b h1 h2 => hc.1.block b h2 (fun h => by have := hl b (List.mem_append_right _ h); omega)⟩
theorem pl_end {w y13 y14 y15 : World} {B Ba C k b12 b13 : Nat} {l l5 : List (Nat × (Vl × Nat))} {sv : Value} {lw : List (Nat × (Vl × Value))} {r : Ans0 × List (Nat × Vl)} {o : Op0} {a5 a11 : Option Addr} {c5 c11 : Nat}
  (hda : DevAt w.heap.size y13 B Ba l5) (hra : RDevAt w.heap.size y13 C sv lw) (h5 : y13.ownsRow w.heap.size 5 1 (.slice a5 r.1.data.length c5) r.1.data.length (bV r.1.data)) (h11 : y13.ownsRow w.heap.size 5 1 (.slice a11 r.1.data.length c11) r.1.data.length (bV r.1.data))
  (hb14 : ∃ cs, y13.heap[b12]? = some (.cells cs 35 (0, 0))) (m14 : Mods [b12] y13 y14) (hb15 : ∃ cs, y14.heap[b13]? = some (.cells cs 35 (0, 0))) (m15 : Mods [b13] y14 y15)
  (n12 : y15.heap[b12]? = some (.cells #[.int .i64 r.1.code, .int .i64 r.1.done, .slice a5 r.1.data.length c5] 35 (0, 0))) (n13 : y15.heap[b13]? = some (.cells #[.int .i64 r.1.code, .int .i64 r.1.done, .slice a11 r.1.data.length c11] 35 (0, 0)))
  (hrr : stepD (strip l) o 1024 = r) (hs5 : strip l5 = r.2) (hs11 : mapA (·.1) lw = r.2) (hlk : l.length ≤ k) (hb : Below w.heap.size w y15) : PlMeet w B Ba C (k + 1) r y15 b12 b13 := by
 obtain ⟨cs14, hc14⟩ := hb14; obtain ⟨cs15, hc15⟩ := hb15; have hda := (hda.tagged hc14 (by decide) m14).tagged hc15 (by decide) m15; have hra := (hra.tagged hc14 (by decide) (by decide) (by decide) m14).tagged hc15 (by decide) (by decide) (by decide) m15; have h5 := row_tagged (row_tagged h5 hc14 (by decide) m14) hc15 (by decide) m15; have h11 := row_tagged (row_tagged h11 hc14 (by decide) m14) hc15 (by decide) m15; have hlen : l5.length ≤ k + 1 := by
  have h1 := stepD_len (strip l) o 1024; rw [hrr, ← hs5] at h1; unfold strip at h1; rw [mapA_len, mapA_len] at h1; omega
 exact ⟨a5, c5, a11, c11, l5, sv, lw, n12, n13, Rd.of_own h5, Rd.of_own h11, ⟨hda, hra, by rw [hs11, hs5]⟩, hlen, hb⟩
end Go.Proofs.YthkmihedkddnmaaGreat
