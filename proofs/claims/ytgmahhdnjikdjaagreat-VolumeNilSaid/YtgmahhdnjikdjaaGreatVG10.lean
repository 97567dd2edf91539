import Derived.Test.YtgmahhdnjikdjaaGreatVG8
import Derived.Test.YtgmahhdnjikdjaaGreatVG9
import Derived.Test.YtgmahhdnjikdjaaGreatVG6
set_option linter.unusedVariables false
set_option linter.unusedSimpArgs false
/- super: Load, walked. -/
namespace Go.Proofs.YtgmahhdnjikdjaaGreat
open Go.RowKit Wire
set_option linter.unusedVariables false
set_option linter.unusedSimpArgs false
/-- A superblock's cells, as a list. -/
def suL (s : Su) : List Value := (suC s.tx s.mt s.data (s.pages.getD 0 0) (s.pages.getD 1 0) (s.pages.getD 2 0) (s.pages.getD 3 0) (s.pages.getD 4 0) (s.pages.getD 5 0) s.top s.base s.stage s.cursor s.epoch s.last s.seq s.blast s.bseq s.marked).toList
theorem suL_v (s : Su) : suV s = .agg (suL s).toArray := rfl
theorem suL_len (s : Su) : (suL s).length = 19 := rfl
theorem suL_tx (s : Su) : (suL s)[0]? = some (.int .u64 (s.tx : Int)) := rfl
theorem suL_one (s : Su) : ∀ u ∈ suL s, u.oneCell' = true := fun u hu => by
 simp only [suL, suC, List.mem_cons, List.not_mem_nil, or_false] at hu
 rcases hu with rfl | rfl | rfl | rfl | rfl | rfl | rfl | rfl | rfl | rfl | rfl | rfl | rfl | rfl | rfl | rfl | rfl | rfl | rfl <;> rfl
/-- The zero superblock. -/
def suO : Su := ⟨0, 0, 0, [0, 0, 0, 0, 0, 0], 0, 0, 0, 0, 0, 0, 0, 0, 0, false⟩
/-- What Of answers of a block. -/
def OfR (b : List UInt8) (S : Su) (er : Int) : Prop := (er = 0 ∨ er = 4) ∧ ∀ X, Calls Tryz.prog 64 #[bA b] X fun e w' => e = .returned (.tuple #[suV S, .int .i64 er]) ∧ Below X.heap.size X w'
def stepS (bst : Su) (i : Nat) (S : Su) (er : Int) : Su := if er = 0 ∧ S.tx % 2 = i ∧ bst.tx < S.tx then S else bst
def bestS (Sf : Nat → Su) (ef : Nat → Int) : Nat → Su
 | 0 => suO
 | i + 1 => stepS (bestS Sf ef i) i (Sf i) (ef i)
/-- Ahead of a slot: what is the best one lies in its box. -/
def SLd (w1 wr : World) (g : Nat) (S : Su) : Prop := Below g w1 wr ∧ wr.heap[g]? = some (.cells (suL S).toArray 72 (0, 0))
theorem suO_box (w : World) : (w.alloc (.cells #[.int .u64 0, .int .i64 0, .int .i64 0, .int .u32 0, .int .u32 0, .int .u32 0, .int .u32 0, .int .u32 0, .int .u32 0, .int .u32 0, .int .u32 0, .int .u32 0, .int .i64 0, .int .u64 0, .int .u64 0, .int .u64 0, .int .u64 0, .int .u64 0, .bool false] 72)).heap[w.heap.size]? = some (.cells (suL suO).toArray 72 (0, 0)) := heap_alloc_new _ _
theorem sets_heap {g : Nat} {T : TypeId} {f : Nat × Nat} : ∀ (vs : List Value) (o : Nat) {w : World} {cs : List Value}, w.heap[g]? = some (.cells cs.toArray T f) → (w.setCells g o vs).heap[g]? = some (.cells (setL cs o vs).toArray T f)
 | [], _, _, _, h => h
 | v :: vs, o, w, cs, h => by
  have h1 := setOf h o v
  rw [List.setIfInBounds_toArray] at h1
  exact sets_heap vs (o + 1) h1
theorem sets_all {g : Nat} {T : TypeId} {f : Nat × Nat} {w : World} {cs vs : List Value} (h : w.heap[g]? = some (.cells cs.toArray T f)) (hl : cs.length = vs.length) : (w.setCells g 0 vs).heap[g]? = some (.cells vs.toArray T f) := by
 have h1 := sets_heap vs 0 h
 have h2 := setL_mid vs [] cs [] hl
 rw [List.append_nil, List.append_nil] at h2
 rw [show setL cs 0 vs = vs from h2] at h1
 exact h1
set_option maxRecDepth 100000 in
set_option maxHeartbeats 12800000 in
theorem sload_at (n0 : Nat) (w : World) (B : Nat) (iv jv : Value) (d : Dk) (h : DkAt n0 w B iv jv d) (hk : 8 ≤ d.img.length) (hn : d.img.length ≤ 1000000) (Sf : Nat → Su) (ef : Nat → Int) (ho : ∀ i, i < 2 → OfR (rdB d.img i) (Sf i) (ef i)) (ht : ∀ i, i < 2 → (Sf i).tx < 18446744073709551616) (hb : (bestS Sf ef 2).tx ≠ 0) :
  Calls Tryz.prog 27 #[.pointer (some ⟨B, 0, none⟩)] w fun e w' => e = .returned (.tuple #[suV (bestS Sf ef 2), .int .i64 0]) ∧ Below w.heap.size w w' := by
 have HH := Lib.hid h
 have HO := Lib.hid ho
 have HKN := Lib.hid (And.intro hk hn)
 have HBT := Lib.hid hb
 have HT := Lib.hid ht
 obtain ⟨w1, hw1⟩ : ∃ W, w.alloc (.cells #[.int .u64 0, .int .i64 0, .int .i64 0, .int .u32 0, .int .u32 0, .int .u32 0, .int .u32 0, .int .u32 0, .int .u32 0, .int .u32 0, .int .u32 0, .int .u32 0, .int .i64 0, .int .u64 0, .int .u64 0, .int .u64 0, .int .u64 0, .int .u64 0, .bool false] 72) = W := ⟨_, rfl⟩
 have HB1 : Hid (Below w.heap.size w w1) := Lib.hid (by rw [← hw1]; exact balloc (Below.refl _ _) _)
 have HX1 : Hid (w1.heap[w.heap.size]? = some (.cells (suL suO).toArray 72 (0, 0))) := Lib.hid (by rw [← hw1]; exact suO_box _)
 obtain ⟨w2, hw2⟩ : ∃ W, w1.alloc (.cells #[.int .u64 0, .int .i64 0, .int .i64 0, .int .u32 0, .int .u32 0, .int .u32 0, .int .u32 0, .int .u32 0, .int .u32 0, .int .u32 0, .int .u32 0, .int .u32 0, .int .i64 0, .int .u64 0, .int .u64 0, .int .u64 0, .int .u64 0, .int .u64 0, .bool false] 72) = W := ⟨_, rfl⟩
 have HL0 : Hid (SLd w1 w2 w1.heap.size suO) := Lib.hid ⟨by rw [← hw2]; exact balloc (Below.refl _ _) _, by rw [← hw2]; exact suO_box _⟩
 clear h hk hn ho hb ht
 go_enter Tryz.func27, Tryz.ntmps27
 go_wp2_with fail
 (try rw [hw1])
 (try rw [hw2])
 clear hw1 hw2
 go_loopw [9] (fun v wr => ∃ i : Nat, i ≤ 2 ∧ v = .int .i64 (i : Int) ∧ SLd w1 wr w1.heap.size (bestS Sf ef i)) (fun v _ => 2 - (Go.RowKit.intOf v).toNat)
 case atStart => exact ⟨0, by omega, rfl, HL0.out⟩
 case round =>
  obtain ⟨i, hi, rfl, hsl⟩ := hrel
  obtain ⟨bst, hbst⟩ : ∃ x, bestS Sf ef i = x := ⟨_, rfl⟩
  rw [hbst] at hsl
  have HSL := Lib.hid hsl
  have HBS := Lib.hid hbst
  clear hsl hbst
  by_cases hlt : i < 2
  ·have CR : Calls Tryz.prog 63 #[.pointer (some ⟨B, 0, none⟩), .int .i64 (i : Int)] wr fun e w' => e = .returned (.tuple #[bA (rdB d.img i), .int .i64 0]) ∧ Below wr.heap.size wr w' := by
    have hbw : Below w.heap.size w wr := bthn HB1.out HSL.out.1
    exact sread_at n0 wr B iv jv d (HH.out.below hbw) i (by have := HKN.out.1; omega) HKN.out.2
   have HBL : Hid ((rdB d.img i).length = 256) := Lib.hid (rdB_len HH.out.secs (by have := HKN.out.1; omega))
   have HOF := Lib.hid (HO.out i hlt)
   have HTI := Lib.hid (HT.out i hlt)
   have HNX : Hid (bestS Sf ef (i + 1) = stepS bst i (Sf i) (ef i)) := Lib.hid (by rw [← HBS.out]; rfl)
   obtain ⟨S, hS⟩ : ∃ x, Sf i = x := ⟨_, rfl⟩
   obtain ⟨er, her⟩ : ∃ x, ef i = x := ⟨_, rfl⟩
   obtain ⟨b, hbb⟩ : ∃ b, rdB d.img i = b := ⟨_, rfl⟩
   rw [hS, her] at HNX
   rw [hS, her, hbb] at HOF
   rw [hbb] at CR HBL
   rw [hS] at HTI
   clear hS her hbb
   go_wp2_with fail
   refine CR.mono ?_
   rintro e x1 ⟨rfl, hb1⟩
   have hrb : (bV b).toArray.size = 256 := by rw [List.size_toArray, bV_len, HBL.out]
   have hst := run_storeNew (P := Tryz.prog) x1 78 Tryz.zeroCells78 (bV b).toArray (by rw [hrb]; kernel_rfl) (fun u hu => bV_one b u (by simpa using hu))
   obtain ⟨x2, hx2⟩ : ∃ W, x1.alloc (.cells (bV b).toArray 78) = W := ⟨_, rfl⟩
   have hb2 : Below x1.heap.size x1 x2 := by rw [← hx2]; exact balloc (Below.refl _ _) _
   have hxb : BoxB x2 x1.heap.size b := by unfold BoxB; rw [← hx2]; exact heap_alloc_new _ _
   have HXB := Lib.hid hxb
   have HR2 : Hid (x2.rangeAt x1.heap.size 0 (bV b)) := Lib.hid (rangeOf hxb)
   have HB2 := Lib.hid (bthn hb1 hb2)
   have HIB : Hid ((Tryz.prog.info? 78).map (·.size) = some (bV b).length) := Lib.hid (by rw [bV_len, HBL.out]; exact infoBlk)
   rw [show bA b = .agg (bV b).toArray from rfl]
   rw [hx2] at hst
   have CO := HOF.out.2 x2
   rw [show bA b = .agg (bV b).toArray from rfl, suL_v] at CO
   obtain ⟨SL, hSLe⟩ : ∃ L, suL S = L := ⟨_, rfl⟩
   rw [hSLe] at CO
   have HSE := Lib.hid hSLe
   have HS19 : Hid (SL.length = 19) := Lib.hid (by rw [← hSLe]; rfl)
   have HS1 : Hid (∀ u ∈ SL, u.oneCell' = true) := Lib.hid (by rw [← hSLe]; exact suL_one S)
   have HS0 : Hid (SL[0]? = some (.int .u64 (S.tx : Int))) := Lib.hid (by rw [← hSLe]; rfl)
   clear CR hb1 hx2 hb2 hxb hSLe
   go_wp2_with (refine wpList_load_mid rfl 78 _ rfl x1.heap.size 0 rfl (bV b) _ HR2.out Tryz.underlying78 rfl HIB.out ?_)
   refine CO.mono ?_
   rintro e x3 ⟨rfl, hb3⟩
   dsimp only
   have HB3 := Lib.hid (bthn HB2.out hb3)
   have hss : SL.toArray.size = 19 := by rw [List.size_toArray, HS19.out]
   clear CO hb3 hst
   repeat (first
    | (refine wpList_store_mid rfl 72 _ _ rfl x3.heap.size 0 SL.toArray rfl rfl (thereOf (heap_alloc_new x3 _) (by rw [hss]; simp)) (by rw [hss]; exact infoSup) (Array.all_eq_true_iff_forall_mem.2 (fun v hv => HS1.out v (by simpa using hv))) ?_; refine Hid.out ?_)
    | go_step)
   refine Lib.hid ?_
   obtain ⟨x4, hx4⟩ : ∃ W, (x3.alloc (.cells #[.int .u64 0, .int .i64 0, .int .i64 0, .int .u32 0, .int .u32 0, .int .u32 0, .int .u32 0, .int .u32 0, .int .u32 0, .int .u32 0, .int .u32 0, .int .u32 0, .int .i64 0, .int .u64 0, .int .u64 0, .int .u64 0, .int .u64 0, .int .u64 0, .bool false] 72)).setCells x3.heap.size 0 SL = W := ⟨_, rfl⟩
   have HB4 : Hid (Below wr.heap.size wr x4) := Lib.hid (by rw [← hx4]; exact bthn HB3.out (belowSets (Nat.le_refl _) _ _ _ (balloc (Below.refl _ _) _)))
   obtain ⟨g4, hg4⟩ : ∃ g, x3.heap.size = g := ⟨_, rfl⟩
   have HR4 : Hid (x4.rangeAt g4 0 SL) := Lib.hid (by rw [← hx4, ← hg4]; exact World.rangeAt_setCells_same _ _ _ _ (thereOf (heap_alloc_new x3 _) (by rw [HS19.out]; simp)))
   have hc8 : x4.cell? ⟨g4, 0, none⟩ = some (.int .u64 (S.tx : Int)) := HR4.out 0 _ HS0.out
   have HSL4 : Hid (x4.heap[w1.heap.size]? = some (.cells (suL bst).toArray 72 (0, 0))) := Lib.hid ((HB4.out.block _ (Array.getElem?_eq_some_iff.1 HSL.out.2).1).trans HSL.out.2)
   have hc4 : x4.cell? ⟨w1.heap.size, 0, none⟩ = some (.int .u64 (bst.tx : Int)) := cellOf HSL4.out 0 (suL_tx bst)
   simp only [List.toList_toArray]
   rw [hx4]
   clear hx4
   obtain ⟨stx, hstx⟩ : ∃ x, S.tx = x := ⟨_, rfl⟩
   obtain ⟨btx, hbtx⟩ : ∃ x, bst.tx = x := ⟨_, rfl⟩
   rw [hstx] at hc8
   rw [hbtx] at hc4
   have HTX := Lib.hid (And.intro hstx hbtx)
   have htl : stx < 18446744073709551616 := by rw [← hstx]; exact HTI.out
   clear hstx hbtx
   have HQN : Hid (w1.heap.size < x4.heap.size ∧ g4 ≠ w1.heap.size) := Lib.hid ⟨(Array.getElem?_eq_some_iff.1 HSL4.out).1, by rw [← hg4]; have := HB3.out.size; have h2 := (Array.getElem?_eq_some_iff.1 HSL.out.2).1; omega⟩
   rw [hg4]
   clear hg4 hss hrb
   have HFN : Hid (∀ X, Below wr.heap.size wr X → (er ≠ 0 ∨ stx % 2 ≠ i ∨ ¬ btx < stx) → SLd w1 X w1.heap.size (bestS Sf ef (i + 1))) := Lib.hid (fun X hX hc => by
    rw [HNX.out]
    unfold stepS
    rw [if_neg (by rw [HTX.out.1, HTX.out.2]; rintro ⟨h1, h2, h3⟩; rcases hc with h | h | h <;> contradiction)]
    exact ⟨HSL.out.1.trans (hX.mono (Nat.le_of_lt (Array.getElem?_eq_some_iff.1 HSL.out.2).1)), (hX.block _ (Array.getElem?_eq_some_iff.1 HSL.out.2).1).trans HSL.out.2⟩)
   rcases HOF.out.1 with he | he
   ·subst he
    have hm2 : IntKind.i64.wrap ((stx : Int) % 2) = (stx : Int) % 2 := IntWalk.i64_in _ ⟨by omega, by omega⟩
    by_cases hm : stx % 2 = i
    ·have hme : (((stx : Int) % 2) == (i : Int)) = true := by simp; omega
     by_cases hl : btx < stx
     ·have hd1 : decide (btx < stx) = true := decide_eq_true hl
      have hd2 : decide ((btx : Int) < (stx : Int)) = true := decide_eq_true (by omega)
      go_upto_region 10 with fail
      have hss : SL.toArray.size = 19 := by rw [List.size_toArray, HS19.out]
      have HTH : Hid (x4.there w1.heap.size 0 19) := Lib.hid (thereOf HSL4.out (by simp [suL_len]))
      have HIS : Hid ((Tryz.prog.info? 72).map (·.size) = some SL.length) := Lib.hid (by rw [HS19.out]; exact infoSup)
      apply wp_region_lit
      repeat (first
       | (refine wpList_load_mid rfl 72 _ rfl g4 0 rfl SL _ HR4.out Tryz.underlying72 rfl HIS.out ?_)
       | (refine wpList_store_mid rfl 72 _ _ rfl w1.heap.size 0 SL.toArray rfl rfl (by rw [hss]; exact HTH.out) (by rw [hss]; exact infoSup) (Array.all_eq_true_iff_forall_mem.2 (fun v hv => HS1.out v (by simpa using hv))) ?_)
       | go_step)
      go_wp2_with fail
      go_roundw
      case rel => exact ⟨i + 1, by omega, by go_num, by
       rw [HNX.out]
       unfold stepS
       rw [if_pos ⟨rfl, by rw [HTX.out.1]; exact hm, by rw [HTX.out.1, HTX.out.2]; exact hl⟩]
       refine ⟨belowSets (Nat.le_refl _) _ _ _ (HSL.out.1.trans (HB4.out.mono (Nat.le_of_lt (Array.getElem?_eq_some_iff.1 HSL.out.2).1))), ?_⟩
       rw [HSE.out]
       exact sets_all HSL4.out (by rw [HS19.out]; rfl)⟩
      case measure => simp [Go.RowKit.intOf]; omega
     ·have hd1 : decide (btx < stx) = false := decide_eq_false hl
      have hd2 : decide ((btx : Int) < (stx : Int)) = false := decide_eq_false (by omega)
      go_wp2_with fail
      go_roundw
      case rel => exact ⟨i + 1, by omega, by go_num, HFN.out _ HB4.out (.inr (.inr hl))⟩
      case measure => simp [Go.RowKit.intOf]; omega
    ·have hme : (((stx : Int) % 2) == (i : Int)) = false := by simp; omega
     go_wp2_with fail
     go_roundw
     case rel => exact ⟨i + 1, by omega, by go_num, HFN.out _ HB4.out (.inr (.inl hm))⟩
     case measure => simp [Go.RowKit.intOf]; omega
   ·subst he
    go_wp2_with fail
    go_roundw
    case rel => exact ⟨i + 1, by omega, by go_num, HFN.out _ HB4.out (.inl (by decide))⟩
    case measure => simp [Go.RowKit.intOf]; omega
  ·obtain rfl : i = 2 := by omega
   have HX2 : Hid (wr.heap[w.heap.size]? = some (.cells (suL suO).toArray 72 (0, 0))) := Lib.hid ((HSL.out.1.block _ (Array.getElem?_eq_some_iff.1 HX1.out).1).trans HX1.out)
   have hc4 : wr.cell? ⟨w1.heap.size, 0, none⟩ = some (.int .u64 (bst.tx : Int)) := cellOf HSL.out.2 0 (suL_tx bst)
   have hbz : (((bst.tx : Nat) : Int) == 0) = false := by
    have h1 := HBT.out
    rw [HBS.out] at h1
    simp; omega
   obtain ⟨SL, hSLe⟩ : ∃ L, suL bst = L := ⟨_, rfl⟩
   have HS19 : Hid (SL.length = 19) := Lib.hid (by rw [← hSLe]; rfl)
   have HS1 : Hid (∀ u ∈ SL, u.oneCell' = true) := Lib.hid (by rw [← hSLe]; exact suL_one bst)
   have HR : Hid (wr.rangeAt w1.heap.size 0 SL) := Lib.hid (by rw [← hSLe]; exact rangeOf HSL.out.2)
   have HTH : Hid (wr.there w.heap.size 0 19) := Lib.hid (thereOf HX2.out (by simp [suL_len]))
   have hss : SL.toArray.size = 19 := by rw [List.size_toArray, HS19.out]
   have HIS : Hid ((Tryz.prog.info? 72).map (·.size) = some SL.length) := Lib.hid (by rw [HS19.out]; exact infoSup)
   have HSE := Lib.hid hSLe
   obtain ⟨btx, hbtx⟩ : ∃ x, bst.tx = x := ⟨_, rfl⟩
   rw [hbtx] at hbz hc4
   clear hSLe hbtx
   go_upto_region 14 with fail
   apply wp_region_lit
   repeat (first
    | (refine wpList_load_mid rfl 72 _ rfl w1.heap.size 0 rfl SL _ HR.out Tryz.underlying72 rfl HIS.out ?_)
    | (refine wpList_store_mid rfl 72 _ _ rfl w.heap.size 0 SL.toArray rfl rfl (by rw [hss]; exact HTH.out) (by rw [hss]; exact infoSup) (Array.all_eq_true_iff_forall_mem.2 (fun v hv => HS1.out v (by simpa using hv))) ?_)
    | go_step)
   refine bodyPost_ret (v := .tuple #[.agg SL.toArray, .int .i64 0]) (res_sup rfl _ _ w.heap.size SL _ rfl rfl (World.rangeAt_setCells_same _ _ _ _ (by rw [HS19.out]; exact HTH.out)) HIS.out) rfl ⟨?_, ?_⟩
   ·rw [HBS.out, suL_v, HSE.out]
   ·exact belowSets (Nat.le_refl _) _ _ _ (bthn HB1.out HSL.out.1)
end Go.Proofs.YtgmahhdnjikdjaaGreat
/- The zero value of a struct, built. -/
namespace Go.Proofs.YtgmahhdnjikdjaaGreat
open Go.RowKit Wire
set_option linter.unusedVariables false
set_option linter.unusedSimpArgs false
section
variable {P : Program} {ops : Array Oper} {Q : Exit → Act → World → Prop} {a : Act} {w : World} {rest : List Oper} {o : Oper}
theorem wpL_build0 (hw : Region.wanted o (yielded ops a.tmps) = true) (ty : TypeId) (ho : o.op = .build ty #[]) (cells : Array Value) (hb : P.built ty [] = some cells)
  (h : wpList P ops Q rest (a.put o.dst (.agg cells)) w) : wpList P ops Q (o :: rest) a w := by
 refine wpL_met hw fun K hK => ?_
 have hr := run_build (P := P) w ty #[] cells hb
 unfold Oper.wp execOp
 simp only [ho, List.map_toArray, List.map_nil, Sem.run_bind, hr, Result.andThen_ok, Sem.run_pure]
 exact hK _ _ h
end
/-- The blocks of a row bear its type. -/
theorem own_tagS {W : World} {B n size : Nat} {e : TypeId} {v : Value} {xs : List Value} (h : W.ownsRow B e size v n xs) : ∀ k ∈ ob v, ∃ cs f, W.heap[k]? = some (.cells cs e f) := by
 intro k hk
 rcases h.2 with ⟨rfl, _⟩ | ⟨g, cap, cur, rfl, hg, hh, _⟩
 ·simp [ob_nil] at hk
 ·rw [ob_some] at hk
  obtain rfl : k = g := by simpa using hk
  exact ⟨_, _, hh⟩
theorem store_at {P : Program} (W : World) (g : Nat) (T : TypeId) (old cs : Array Value) (h : W.heap[g]? = some (.cells old T (0, 0))) (hs : old.size = cs.size) (h1 : ∀ u ∈ cs.toList, u.oneCell' = true) :
  ∃ W', (storeCells ⟨g, 0, none⟩ cs.toList).run P W = .ok () W' ∧ W'.heap[g]? = some (.cells cs T (0, 0)) ∧ Mods [g] W W' := by
 have h2 := run_storeCells_from (P := P) g T cs.toList 0 old W h (by simp; omega) h1
 simp only [List.take_zero, List.nil_append, Array.toArray_toList] at h2
 exact ⟨_, h2, setRow_heap W g _ _ T _ h, rfl, rfl, rfl, by simp [World.setRow], fun k hk hn => setRow_other W g k _ (by simpa using hn)⟩
end Go.Proofs.YtgmahhdnjikdjaaGreat
