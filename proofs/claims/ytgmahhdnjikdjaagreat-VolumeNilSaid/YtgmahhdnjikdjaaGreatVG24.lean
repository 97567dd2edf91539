import Derived.Test.YtgmahhdnjikdjaaGreatVG2
import Derived.Test.YtgmahhdnjikdjaaGreatVG23
set_option linter.unusedVariables false
set_option linter.unusedSimpArgs false
/- A region that draws its order and ends in stores: a condition on the world that holds up to the first of these. -/
namespace Go.Proofs.YtgmahhdnjikdjaaGreat
open Go.RowKit
set_option linter.unusedVariables false
section
variable {P : Program} {ops : Array Oper} {Q : Exit → Act → World → Prop} {md : Region.Mode} {S : World → Prop} {L : List Nat}
/-- None of L has come up. -/
def Ahead (L : List Nat) (listed : Array Bool) : Prop := ∀ l ∈ L, listed.getD l true = false
/-- Whatever order is picked; S holds behind each operation as long as none of L has come up. -/
def wpAnyL (P : Program) (md : Region.Mode) (ops : Array Oper) (Q : Exit → Act → World → Prop) (S : World → Prop) (L : List Nat) : Nat → Array Bool → Act → World → Prop
 | 0, listed, a, w => Region.ready md ops listed = [] ∧ Q .normal a w
 | f + 1, listed, a, w => (Region.ready md ops listed = [] → Q .normal a w) ∧
  ∀ i ∈ Region.ready md ops listed, wpOp P ops Q i (fun a' w' => ((Ahead L listed ∧ i ∉ L) → S w') ∧ wpAnyL P md ops Q S L f (listed.setIfInBounds i true) a' w') a w
theorem wpAny_of_L : ∀ (f : Nat) (listed : Array Bool) (a : Act) (w : World), wpAnyL P md ops Q S L f listed a w → wpAny P md ops Q f listed a w
 | 0, _, _, _, h => h
 | f + 1, _, _, _, h => ⟨h.1, fun i hi => wpOp_mono (fun a' w' h' => wpAny_of_L f _ a' w' h'.2) (h.2 i hi)⟩
/-- All of C wait for i, or for others of C; L is of them. -/
def chainB (md : Region.Mode) (ops : Array Oper) (C L : List Nat) (i : Nat) : Bool :=
 L.all (fun l => C.contains l) && C.all fun c => c != i && match ops[c]? with
  | none => true
  | some o => o.after.any fun e => Region.binds md e && (e.on == i || C.contains e.on)
theorem chain_not {C : List Nat} {i j : Nat} {listed : Array Bool} (h : chainB md ops C L i = true) (hC : Ahead C listed) (hi : listed.getD i true = false) (hj : j ∈ Region.ready md ops listed) : j ∉ C := by
 intro hjc
 obtain ⟨_, o, ho, hall⟩ := mem_ready.1 hj
 unfold chainB at h
 simp only [Bool.and_eq_true, List.all_eq_true] at h
 have h1 := (h.2 j hjc).2
 rw [ho] at h1
 obtain ⟨k, hk, he⟩ := Array.any_eq_true.1 h1
 simp only [Bool.and_eq_true, Bool.or_eq_true, beq_iff_eq, List.contains_iff_mem] at he
 have h2 := hall _ (Array.getElem_mem hk) he.1
 have hun : ∀ m, listed.getD m true = false → listed.getD m false = true → False := fun m a b => by
  rcases Nat.lt_or_ge m listed.size with h' | h'
  ·simp [h'] at a b; rw [a] at b; cases b
  ·simp [Array.getElem?_eq_none h'] at b
 rcases he.2 with e | e
 ·rw [e] at h2; exact hun i hi h2
 ·exact hun _ (hC _ e) h2
theorem wpAnyL_first {i : Nat} {oi : Oper} {v : Value} {C : List Nat} (hi : ops[i]? = some oi) (hsel : ∀ (j : Nat) (o : Oper) cs b, ops[j]? = some o → o.op ≠ .select cs b)
  (hQ : ∀ c a w, Q (.panic c) (a.put oi.dst v) w → Q (.panic c) a w) (hc : chainB md ops C L i = true) : ∀ (f : Nat) (listed : Array Bool) (a : Act) (w : World),
   (∀ j oj, ops[j]? = some oj → j ≠ i → listed.getD j true = false → (∀ e ∈ oj.after, Region.binds md e = true → e.on ≠ i) → oi.apart ops oj = true) →
   i ∈ Region.ready md ops listed → Ahead C listed → YieldsIf P ops S oi v a → S w →
   wpAnyL P md ops Q S L f (listed.setIfInBounds i true) (a.put oi.dst v) w → wpAnyL P md ops Q S L (f + 1) listed a w := by
 have hLC : ∀ l ∈ L, l ∈ C := fun l hl => by
  unfold chainB at hc
  simp only [Bool.and_eq_true, List.all_eq_true, List.contains_iff_mem] at hc
  exact hc.1 l hl
 have hCi : ∀ c ∈ C, c ≠ i := fun c hcc => by
  unfold chainB at hc
  simp only [Bool.and_eq_true, List.all_eq_true, bne_iff_ne] at hc
  exact (hc.2 c hcc).1
 intro f
 induction f with
 | zero =>
  intro listed a w _ hr _ hy hS H
  refine ⟨fun h => (by rw [h] at hr; cases hr), fun j hj => ?_⟩
  by_cases hji : j = i
  ·subst hji; exact hy.wpOp hi hS ⟨fun _ => hS, H⟩
  ·have h0 := ready_mono hj hji
   rw [H.1] at h0
   cases h0
 | succ f ih =>
  intro listed a w hfree hr hC hy hS H
  refine ⟨fun h => (by rw [h] at hr; cases hr), fun j hj => ?_⟩
  by_cases hji : j = i
  ·subst hji; exact hy.wpOp hi hS ⟨fun _ => hS, H⟩
  ·have hi0 := (mem_ready.1 hr).1
   have hjC := chain_not hc hC hi0 hj
   obtain ⟨hjun, oj, hoj, hall⟩ := mem_ready.1 hj
   have hnot : ∀ e ∈ oj.after, Region.binds md e = true → e.on ≠ i := fun e he hb heq => by
    have h1 := hall e he hb
    rw [heq] at h1
    rcases Nat.lt_or_ge i listed.size with h' | h'
    ·simp [h'] at hi0 h1; rw [hi0] at h1; cases h1
    ·simp [Array.getElem?_eq_none h'] at h1
   have h2 := wpOp_putIf hoj (hfree j oj hoj hji hjun hnot) (fun cs b => hsel i oi cs b hi) (fun cs b => hsel j oj cs b hoj) hQ hy (H.2 j (ready_mono hj hji))
   refine wpOp_mono (fun a' w' h3 => ?_) h2
   have hSw : S w' := h3.2.1 ⟨fun l hl => by rw [getD_set_ne true (Ne.symm (hCi l (hLC l hl)))]; exact hC l (hLC l hl), fun hl => hjC (hLC j hl)⟩
   refine ⟨fun _ => hSw, ih (listed.setIfInBounds j true) a' w' (fun k ok hk hki hun hno => ?_) (ready_mono hr (Ne.symm hji)) (fun c hcc => ?_) h3.1 hSw ?_⟩
   ·refine hfree k ok hk hki ?_ hno
    by_cases hjk : j = k
    ·subst hjk; exact hjun
    ·rw [getD_set_ne true hjk] at hun; exact hun
   ·rw [getD_set_ne true (fun (e : j = c) => hjC (by rw [e]; exact hcc))]; exact hC c hcc
   ·rw [Array.setIfInBounds_comm _ _ hji]; exact h3.2.2
/-- Number i is taken first. -/
theorem wpAnyL_take (C : List Nat) {i : Nat} {oi : Oper} {v : Value} {f : Nat} {listed : Array Bool} {a : Act} {w : World} (hi : ops[i]? = some oi)
  (hs : Region.noSelect ops = true) (hf : Region.free md ops listed i = true) (hr : (Region.ready md ops listed).contains i = true)
  (hc : chainB md ops C L i = true) (hC : C.all (fun c => !(listed.getD c true)) = true)
  (hQ : ∀ c a w, Q (.panic c) (a.put oi.dst v) w → Q (.panic c) a w) (hy : YieldsIf P ops S oi v a) (hS : S w)
  (h : wpAnyL P md ops Q S L f (listed.setIfInBounds i true) (a.put oi.dst v) w) : wpAnyL P md ops Q S L (f + 1) listed a w :=
 wpAnyL_first hi (Region.noSelect_spec hs) hQ hc f listed a w (Region.free_spec hi hf) (by simpa using hr) (fun c hcc => by simpa using List.all_eq_true.1 hC c hcc) hy hS h
def AllReadyL (P : Program) (md : Region.Mode) (ops : Array Oper) (Q : Exit → Act → World → Prop) (S : World → Prop) (L : List Nat) (f : Nat) (listed : Array Bool) (a : Act) (w : World) (rs : List Nat) : Prop :=
 ∀ i ∈ rs, wpOp P ops Q i (fun a' w' => ((Ahead L listed ∧ i ∉ L) → S w') ∧ wpAnyL P md ops Q S L f (listed.setIfInBounds i true) a' w') a w
theorem AllReadyL.nil {f : Nat} {listed : Array Bool} {a : Act} {w : World} : AllReadyL P md ops Q S L f listed a w [] := fun _ h => by cases h
theorem AllReadyL.cons {f : Nat} {listed : Array Bool} {a : Act} {w : World} {i : Nat} {o : Oper} {rs : List Nat} (ho : ops[i]? = some o)
  (h : ∀ K' : Act → World → Prop, Shut (∀ a w, S w → (S w → wpAnyL P md ops Q S L f (listed.setIfInBounds i true) a w) → K' a w) → if Region.wanted o (yielded ops a.tmps) = true then Oper.wp P o a w K' Q else K' (a.put o.dst undef) w)
  (hs : AllReadyL P md ops Q S L f listed a w rs) : AllReadyL P md ops Q S L f listed a w (i :: rs) := fun j hj => by
 rcases List.mem_cons.1 hj with rfl | hj
 ·exact wpOp_step ho (fun K' hK => h K' (fun a w hS hW => hK a w ⟨fun _ => hS, hW hS⟩))
 ·exact hs j hj
/-- One of L, or behind one of L: S is not asked. -/
theorem AllReadyL.late {f : Nat} {listed : Array Bool} {a : Act} {w : World} {i : Nat} {o : Oper} (ho : ops[i]? = some o) (hl : (L.contains i || L.any (fun l => listed.getD l true)) = true)
  (h : ∀ K' : Act → World → Prop, Shut (∀ a w, wpAnyL P md ops Q S L f (listed.setIfInBounds i true) a w → K' a w) → if Region.wanted o (yielded ops a.tmps) = true then Oper.wp P o a w K' Q else K' (a.put o.dst undef) w) :
  AllReadyL P md ops Q S L f listed a w [i] := fun j hj => by
 obtain rfl := List.mem_singleton.1 hj
 refine wpOp_step ho (fun K' hK => h K' (fun a w hW => hK a w ⟨fun hh => ?_, hW⟩))
 exfalso
 rcases Bool.or_eq_true_iff.1 hl with h1 | h1
 ·exact hh.2 (by simpa using h1)
 ·obtain ⟨l, hl, hb⟩ := List.any_eq_true.1 h1
  rw [hh.1 l hl] at hb
  cases hb
theorem wpAnyL_ready {rs : List Nat} {f : Nat} {listed : Array Bool} {a : Act} {w : World} (hr : Region.ready md ops listed = rs) (hne : rs ≠ [])
  (h : AllReadyL P md ops Q S L f listed a w rs) : wpAnyL P md ops Q S L (f + 1) listed a w := ⟨fun h0 => absurd (hr ▸ h0) hne, hr ▸ h⟩
theorem wpAnyL_done {listed : Array Bool} {a : Act} {w : World} (hr : Region.ready md ops listed = []) (h : Q .normal a w) : ∀ f, wpAnyL P md ops Q S L f listed a w
 | 0 => ⟨hr, h⟩
 | _ + 1 => ⟨fun _ => h, by rw [hr]; simp⟩
theorem wp_region_late (L : List Nat) {id : Nat} {a : Act} {w : World} (hm : P.follows .mixedOrders = true) (hS : S w.drew)
  (h : S w.drew → wpAnyL P .any ops Q S L ops.size (Array.replicate ops.size false) a w.drew) : (Code.region id ops true).wp P Q a w :=
 wp_region_any hm (wpAny_of_L _ _ _ _ (h hS))
end
end Go.Proofs.YtgmahhdnjikdjaaGreat
/- slices.Insert at a row's end; cut of a node that is not too long, walked. -/
namespace Go.Proofs.YtgmahhdnjikdjaaGreat
open Go.RowKit Go.Maps Wire
set_option linter.unusedVariables false
set_option linter.unusedSimpArgs false
set_option maxRecDepth 100000 in
set_option maxHeartbeats 6400000 in
theorem sins_end {w : World} {base n : Nat} {v : Value} {xs : List Nat} (h : w.ownsRow base 26 1 v n (qV xs)) (hn1 : 1 ≤ n) (hn : n ≤ 1000) (hb : base ≤ w.heap.size) (b k : Nat) (hk : w.heap[b]? = some (.cells #[.int .u64 (k : Int)] 26 (0, 0))) :
  Calls Tryz.prog 126 #[v, .int .i64 (n : Int), .slice (some ⟨b, 0, none⟩) 1 1] w fun e w' => ∃ v', e = .returned v' ∧ w'.ownsRow base 26 1 v' (n + 1) (qV (xs ++ [k])) ∧ Mods (ob v) w w' ∧ ∀ j ∈ ob v', j ∈ ob v ∨ w.heap.size ≤ j := by
 obtain ⟨g, c, cur, rfl, hg0, hgl, hnc, hcm, hx, hsz, htk⟩ := rowSome h (by omega)
 have HH := Lib.hid h
 have HK := Lib.hid hk
 have HB := Lib.hid hb
 have q1 : (0 : Int) ≤ (n : Int) := by omega
 have q2 : (n : Int) ≤ (n : Int) := by omega
 have q3 : (n : Int) ≤ (c : Int) := by omega
 clear h hk hb hx hsz htk hg0 hgl hcm
 by_cases hcn : n = c
 ·subst hcn
  go_enter Tryz.func126, Tryz.ntmps126
  go_upto_region 7 with fail
  apply wp_region_lit
  iterate 6 go_step
  refine wpL_met (by kernel_rfl) (fun K hK => wp_apps _ _ 157 rfl base 26 (.int .u64 0) 1 8 Tryz.underlying157 infoU64 rfl (by decide) (by decide) (.slice (some ⟨g, 0, none⟩) n _) n (qV xs) rfl HH.out (.slice (some ⟨b, 0, none⟩) 1 1) 1 (qV [k]) rfl (rd_one HK.out) (qV_one _) (by omega) HB.out (fun v' w5 ho hb5 hgr hsn _ => hK _ _ ?_))
  obtain ⟨a5, c5, rfl⟩ := row_slx ho
  have HO := Lib.hid ho
  have HG := Lib.hid hgr
  have HS := Lib.hid hsn
  clear ho hb5 hgr hsn hK K
  go_wp2_with fail
  go_ret
  refine ⟨.slice a5 (n + 1) c5, rfl, ?_, mods_grown HG.out, fun j hj => ?_⟩
  ·rw [show qV (xs ++ [k]) = qV xs ++ qV [k] from by simp [qV]]
   exact HO.out
  ·rcases HS.out with e | ⟨g', e, hg⟩
   ·left
    unfold ob
    rw [← e]
    exact hj
   ·right
    unfold ob at hj
    rw [e] at hj
    simp at hj
    omega
 ·have hcn2 : ¬ c = n := fun e => hcn e.symm
  go_enter Tryz.func126, Tryz.ntmps126
  go_upto_region 7 with fail
  apply wp_region_lit
  iterate 6 go_step
  refine wpL_met (by kernel_rfl) (fun K hK => wp_apps _ _ 157 rfl base 26 (.int .u64 0) 1 8 Tryz.underlying157 infoU64 rfl (by decide) (by decide) (.slice (some ⟨g, 0, none⟩) n _) n (qV xs) rfl HH.out (.slice (some ⟨b, 0, none⟩) 1 1) 1 (qV [k]) rfl (rd_one HK.out) (qV_one _) (by omega) HB.out (fun v' w5 ho hb5 hgr hsn _ => hK _ _ ?_))
  obtain ⟨a5, c5, rfl⟩ := row_slx ho
  have HO := Lib.hid ho
  have HG := Lib.hid hgr
  have HS := Lib.hid hsn
  clear ho hb5 hgr hsn hK K
  go_wp2_with fail
  go_ret
  refine ⟨.slice a5 (n + 1) c5, rfl, ?_, mods_grown HG.out, fun j hj => ?_⟩
  ·rw [show qV (xs ++ [k]) = qV xs ++ qV [k] from by simp [qV]]
   exact HO.out
  ·rcases HS.out with e | ⟨g', e, hg⟩
   ·left
    unfold ob
    rw [← e]
    exact hj
   ·right
    unfold ob at hj
    rw [e] at hj
    simp at hj
    omega
set_option maxRecDepth 100000 in
set_option maxHeartbeats 3200000 in
theorem tcut_no (w : World) (u v kd bb s2 : Value) (q n1 c1 : Nat) (a1 : Option Addr) (hx : w.heap[q]? = some (.cells #[kd, bb, .slice a1 n1 c1, s2] 159 (0, 0))) (h6 : n1 ≤ 6) :
  Calls Tryz.prog 127 #[u, .pointer (some ⟨q, 0, none⟩), v] w fun e w' => e = .returned (.int .i64 0) ∧ w = w' := by
 have d2 := cellOf hx 2 (v := .slice a1 n1 c1) rfl
 have h6' : decide ((n1 : Int) ≤ 6) = true := by simp; omega
 clear hx
 go_enter Tryz.func127, Tryz.ntmps127
 go_wp2_with fail
 go_ret
 exact ⟨rfl, rfl⟩
end Go.Proofs.YtgmahhdnjikdjaaGreat
