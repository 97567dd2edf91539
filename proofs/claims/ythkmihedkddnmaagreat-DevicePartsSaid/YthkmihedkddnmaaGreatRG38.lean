import Derived.Test.YthkmihedkddnmaaGreatRG6
import Derived.Test.YthkmihedkddnmaaGreatRG2
import Derived.Test.YthkmihedkddnmaaGreatRG18
import Derived.Test.YthkmihedkddnmaaGreatRG35
import Derived.Test.YthkmihedkddnmaaGreatRG13
set_option linter.unusedVariables false
set_option linter.unusedSimpArgs false
set_option maxHeartbeats 3200000
set_option maxRecDepth 100000
namespace Go.Proofs.YthkmihedkddnmaaGreat
open Go.ChangeShapes Go.WideShapes Go.ChangeAt Go.RowKit Go.Deep
theorem open_block {H : Type} {enc : TypeId × Value → H} {w : World} {base b0 : Nat} {held : Bool} {v : Value} {d : DataW H} {p : List MemPlace}
  (hv : Value.okWide Tryz.prog w .any b0 50 v) (h : DataW.Trod enc Tryz.prog w base (fun _ => true) held 50 v d p) : ∃ l : List UInt8, v = bA l ∧ l.length = 256 := by
 have hv2 : ∃ cs, v = .agg cs := by
  simp only [Value.okWide, Tryz.underlying50] at hv; obtain ⟨cs, h1, _⟩ := hv; exact ⟨cs, h1⟩
 obtain ⟨cs, rfl⟩ := hv2; obtain ⟨fuel, hf⟩ := h; have hc : (Value.agg cs).cells.toList = cs.toList := rfl; rw [hc] at hf; obtain ⟨h1, h2⟩ := block_of_trod hf; refine ⟨cs.toList.map byteOf, ?_, by simpa using h2⟩; unfold bA; rw [← h1]
end Go.Proofs.YthkmihedkddnmaaGreat
namespace Go.Proofs.YthkmihedkddnmaaGreat
open Go.ChangeShapes Go.WideShapes Go.ChangeAt Go.RowKit Go.Deep
theorem cellsSpot : Tryz.prog.cellsOf 48 = 2 := by kernel_rfl
theorem wf_u64S {n : Int} (h : (Lit.int .u64 n).wf = true) : 0 ≤ n ∧ n < 18446744073709551616 := by
 have h2 : 0 ≤ n ∧ n ≤ 18446744073709551615 := by simpa [Lit.wf, IntKind.min, IntKind.max, IntKind.signed, IntKind.bits] using h
 omega
theorem open_spot {H : Type} {enc : TypeId × Value → H} {w : World} {base b0 : Nat} {spare : Nat → Bool} {held : Bool} {v : Value} {d : DataW H} {p : List MemPlace}
  (hv : Value.okWide Tryz.prog w .any b0 48 v) (h : DataW.Trod enc Tryz.prog w base spare held 48 v d p) :
  ∃ (n : Nat) (k : Int), v = .agg #[.int .u64 (n : Int), .int .i64 k] ∧ n < 18446744073709551616 ∧ (-9223372036854775808 ≤ k ∧ k ≤ 9223372036854775807) := by
 obtain ⟨c0, c1, y0, y1, m, rfl, _, _, h0, h1⟩ := Go.Joins.open_agg2 Tryz.underlying48 (by kernel_rfl) cellsSpot hv h; obtain ⟨a, e0, _, wa⟩ := DataW.trod_int Tryz.underlying38 h0; obtain ⟨f, e1, _, wf⟩ := DataW.trod_int Tryz.underlying3 h1; simp only [List.cons.injEq, and_true] at e0 e1; subst e0 e1; obtain ⟨n, rfl⟩ : ∃ n : Nat, a = (n : Int) := ⟨a.toNat, by have := (wf_u64S wa).1; omega⟩
 exact ⟨n, f, rfl, by have := (wf_u64S wa).2; omega, wf_i64 wf⟩
end Go.Proofs.YthkmihedkddnmaaGreat
namespace Go.Proofs.YthkmihedkddnmaaGreat
open Lib (hid)
open Go.RowKit Go.Maps Wire Cmd
def PutE (l : List (Nat × Vl)) (n : Nat) (k : Int) : Int := match getA n l with | none => 6 | some v => if k < 0 ∨ (v.size : Int) ≤ k then 5 else 0
def PutL (l : List (Nat × Vl)) (n : Nat) (k : Int) (c : List UInt8) : List (Nat × Vl) := match getA n l with | none => l | some v => if k < 0 ∨ (v.size : Int) ≤ k then l else putA n ⟨v.size, putA k.toNat c v.m⟩ l
def PutP (n0 : Nat) (w : World) (B Ba : Nat) (l : List (Nat × (Vl × Nat))) (n : Nat) (k : Int) (c : List UInt8) (e : Ending) (w' : World) : Prop :=
 ∃ l', e = .returned (.int .i64 (PutE (strip l) n k)) ∧ DevAt n0 w' B Ba l' ∧ strip l' = PutL (strip l) n k c ∧ Chg (dF Ba l) w w' (dF Ba l')
theorem putE_no {l : List (Nat × Vl)} {n : Nat} {k : Int} (h : getA n l = none) : PutE l n k = 6 := by unfold PutE; rw [h]
theorem putL_no {l : List (Nat × Vl)} {n : Nat} {k : Int} {c : List UInt8} (h : getA n l = none) : PutL l n k c = l := by unfold PutL; rw [h]
theorem putE_out {l : List (Nat × Vl)} {n : Nat} {k : Int} {v : Vl} (h : getA n l = some v) (hk : k < 0 ∨ (v.size : Int) ≤ k) : PutE l n k = 5 := by unfold PutE; rw [h]; exact if_pos hk
theorem putL_out {l : List (Nat × Vl)} {n : Nat} {k : Int} {c : List UInt8} {v : Vl} (h : getA n l = some v) (hk : k < 0 ∨ (v.size : Int) ≤ k) : PutL l n k c = l := by unfold PutL; rw [h]; exact if_pos hk
theorem putE_in {l : List (Nat × Vl)} {n : Nat} {k : Int} {v : Vl} (h : getA n l = some v) (hk : ¬ (k < 0 ∨ (v.size : Int) ≤ k)) : PutE l n k = 0 := by unfold PutE; rw [h]; exact if_neg hk
theorem putL_in {l : List (Nat × Vl)} {n : Nat} {k : Int} {c : List UInt8} {v : Vl} (h : getA n l = some v) (hk : ¬ (k < 0 ∨ (v.size : Int) ≤ k)) : PutL l n k c = putA n ⟨v.size, putA k.toNat c v.m⟩ l := by unfold PutL; rw [h]; exact if_neg hk
theorem lookAll {X : World} {Ba : Nat} {l : List (Nat × (Vl × Nat))} (h : MapL X Tryz.prog 38 RVol .u64 volF Ba l) {n : Nat} (hn : n < 18446744073709551616) {x : Vl × Nat} (hg : getA n l = some x) :
  (Instr.lookup 61 (.map (some Ba)) (.int .u64 (n : Int)) false).run Tryz.prog X = .ok (.agg #[.int .i64 (x.1.size : Int), .map (some x.2)]) X := by
 obtain ⟨v', ps', h3, h4⟩ := h.look undU64 undAll (zeroVol X) (RVol_mk 0 none) (wfU hn); rw [hg] at h4; obtain ⟨rfl, _⟩ := RVol_inv h4; exact h3
theorem PutP.same {n0 : Nat} {w w' : World} {B Ba : Nat} {l : List (Nat × (Vl × Nat))} {n : Nat} {k : Int} {c : List UInt8} {r : Int} (h : DevAt n0 w B Ba l) (hb : Below w.heap.size w w') (he : PutE (strip l) n k = r) (hl : PutL (strip l) n k c = strip l) : PutP n0 w B Ba l n k c (.returned (.int .i64 r)) w' :=
 ⟨l, by rw [he], h.below hb, hl.symm, Chg.of_below hb⟩
theorem putVl_ok {v : Vl} (h : v.Ok) {k : Nat} {c : List UInt8} (hk : k < v.size) (hc : c.length = 256) : Vl.Ok ⟨v.size, putA k c v.m⟩ := by
 refine ⟨h.size, ris_putA h.ris _ _, fun q hq => ?_, fun q hq => ?_⟩
 ·rcases mem_putA hq with rfl | hq
  ·exact hk
  ·exact h.lt q hq
 ·rcases mem_putA hq with rfl | hq
  ·exact hc
  ·exact h.blk q hq
theorem pt_end {n0 : Nat} {w w2 wd w11 : World} {B Ba n kn : Nat} {l : List (Nat × (Vl × Nat))} {x : Vl × Nat} {c : List UInt8} (hb2 : Below w.heap.size w w2) (hd : DevAt n0 w2 B Ba l) (hg : getA n l = some x) (hbe : Below w2.heap.size w2 wd)
  (hml : MapL w11 Tryz.prog 3 RBlk .i64 blkD x.2 (putA kn c x.1.m)) (hmod : Mods [x.2] wd w11) (hv : Vl.Ok ⟨x.1.size, putA kn c x.1.m⟩) (hpl : PutL (strip l) n (kn : Int) c = putA n ⟨x.1.size, putA (kn : Int).toNat c x.1.m⟩ (strip l)) :
  DevAt n0 w11 B Ba (putA n (⟨x.1.size, putA kn c x.1.m⟩, x.2) l) ∧ strip (putA n (⟨x.1.size, putA kn c x.1.m⟩, x.2) l) = PutL (strip l) n (kn : Int) c ∧ Chg (dF Ba l) w w11 (dF Ba (putA n (⟨x.1.size, putA kn c x.1.m⟩, x.2) l)) := by
 have hm : Mods [x.2] w2 w11 := (Mods.of_below hbe).trans hmod (fun i hi => .inl hi); refine ⟨hd.volAt (n := n) (v := x.1) (b := x.2) hg hml hm hv, by rw [strip_put, hpl]; rfl, ?_⟩; refine Chg.pre hb2 ⟨hm.mono (fun i hi => by rw [List.mem_singleton.1 hi]; exact dF_mem hg), fun i hi => ?_⟩
 rcases dF_put i hi with h | h
 ·exact .inl h
 ·exact .inl (by rw [h]; exact dF_mem hg)
theorem dputm_any (n0 : Nat) (w : World) (B Ba : Nat) (l : List (Nat × (Vl × Nat))) (h : DevAt n0 w B Ba l) (n : Nat) (hn : n < 18446744073709551616) (k : Int) (hk : -9223372036854775808 ≤ k ∧ k ≤ 9223372036854775807) (c : List UInt8) (hc : c.length = 256) :
  Calls Tryz.prog 21 #[.pointer (some ⟨B, 0, none⟩), .agg #[.int .u64 (n : Int), .int .i64 k], bA c] w fun e w' => PutP n0 w B Ba l n k c e w' := by
 obtain ⟨w1, hw1⟩ : ∃ y, (w.alloc (.cells #[.int .u64 (n : Int), .int .i64 k] 48)).alloc (.cells (bV c).toArray 50) = y := ⟨_, rfl⟩
 have hb1 : Below w.heap.size w w1 := by rw [← hw1]; exact balloc (balloc (Below.refl _ _) _) _
 have HX4 : Hid (w1.heap[w.heap.size]? = some (.cells #[.int .u64 (n : Int), .int .i64 k] 48 (0, 0))) := hid (by
  rw [← hw1]; exact ((balloc (Below.refl _ _) _).block w.heap.size (by simp)).trans (heap_alloc_new _ _))
 have HX5 : Hid (w1.heap[w.heap.size + 1]? = some (.cells (bV c).toArray 50 (0, 0))) := hid (by
  rw [← hw1]; have := heap_alloc_new (w.alloc (.cells #[.int .u64 (n : Int), .int .i64 k] 48)) (.cells (bV c).toArray 50)
  simpa using this)
 have HH := hid h; have HD1 := hid (h.below hb1); have HB1 := hid hb1; have HCL := hid hc; have hcs : (bV c).toArray.size = 256 := by simp [bV_len, hc]
 have c0 := cellOf HX4.out 0 (v := .int .u64 (n : Int)) rfl; unfold bA
 cases hg : getA n l with
 | none =>
  have HG := hid hg; have CS := dsize_out n0 w1 B Ba l HD1.out n hn hg; clear h hb1 hc hg
  go_enter Tryz.func21, Tryz.ntmps21
  go_wp2_with fail
  (try rw [hw1])
  clear hw1; refine CS.mono ?_; rintro e w2 ⟨rfl, hb2⟩; have HB2 := hid (bthen HB1.out hb2); have CT := dthere_any w2 _ true (HD1.out.below hb2).dv; clear CS hb2 c0; go_wp2_with fail; refine CT.mono ?_; rintro e w3 ⟨rfl, rfl⟩; go_wp2_with fail; go_ret; have hgs : getA n (strip l) = none := by rw [getA_strip, HG.out]; rfl
  exact PutP.same HH.out HB2.out (putE_no hgs) (putL_no hgs)
 | some x =>
  have HG := hid hg; have CS := dsize_in n0 w1 B Ba l HD1.out n hn x hg; have HGS : Hid (getA n (strip l) = some x.1) := hid (by rw [getA_strip, hg]; rfl); obtain ⟨sz, hsz⟩ : ∃ s, x.1.size = s := ⟨_, rfl⟩
  have HSZ := hid hsz; have hszb : sz ≤ 256 := by rw [← hsz]; exact (h.ok.vol (n, x.1) (by unfold strip mapA; exact List.mem_map.2 ⟨_, getA_some hg, rfl⟩)).size
  have HNB : Hid (1 ≤ n ∧ n < 4294967296) := hid (h.ok.nat (n, x.1) (by unfold strip mapA; exact List.mem_map.2 ⟨_, getA_some hg, rfl⟩)); rw [hsz] at CS; clear h hb1 hc hg hsz
  go_enter Tryz.func21, Tryz.ntmps21
  go_wp2_with fail
  (try rw [hw1])
  clear hw1; refine CS.mono ?_; rintro e w2 ⟨rfl, hb2⟩; have HB2 := hid (bthen HB1.out hb2); have HD2 := hid (HD1.out.below hb2); have HX4b := hid ((hb2.block _ (hLT HX4.out)).trans HX4.out); have HX5b := hid ((hb2.block _ (hLT HX5.out)).trans HX5.out); have CT := dthere_any w2 _ true HD2.out.dv; clear CS hb2 c0; go_wp2_with fail; refine CT.mono ?_; rintro e w3 ⟨rfl, rfl⟩; have c0 := cellOf HX4b.out 0 (v := .int .u64 (n : Int)) rfl; have c1 := cellOf HX4b.out 1 (v := .int .i64 k) rfl
  by_cases hk0 : k < 0
  ·have q0 : decide (k < 0) = true := decide_eq_true hk0
   have HK := hid hk0; clear hk0; go_wp2_with fail; go_ret; exact PutP.same HH.out HB2.out (putE_out HGS.out (.inl HK.out)) (putL_out HGS.out (.inl HK.out))
  ·have q0 : decide (k < 0) = false := decide_eq_false hk0
   by_cases hk1 : (sz : Int) ≤ k
   ·have q1 : decide ((sz : Int) ≤ k) = true := decide_eq_true hk1
    have HK : Hid ((x.1.size : Int) ≤ k) := hid (by rw [HSZ.out]; exact hk1); clear hk0 hk1; go_wp2_with fail; go_ret; exact PutP.same HH.out HB2.out (putE_out HGS.out (.inr HK.out)) (putL_out HGS.out (.inr HK.out))
   ·have q1 : decide ((sz : Int) ≤ k) = false := decide_eq_false hk1
    obtain ⟨kn, rfl⟩ : ∃ kn : Nat, k = (kn : Int) := ⟨k.toNat, by omega⟩
    have HNK : Hid (¬ ((kn : Int) < 0 ∨ (x.1.size : Int) ≤ (kn : Int))) := hid (by rw [HSZ.out]; omega); have hkn : kn < 256 := by omega
    have HPE := hid (putE_in HGS.out HNK.out); have HPL := hid (putL_in (c := c) HGS.out HNK.out); have HM2 := hid (HD2.out.vol _ (getA_some HG.out)); have HVO : Hid (x.1.Ok) := hid (HD2.out.ok.vol (n, x.1) (by unfold strip mapA; exact List.mem_map.2 ⟨_, getA_some HG.out, rfl⟩)); have HVK : Hid (Vl.Ok ⟨x.1.size, putA kn c x.1.m⟩) := hid (putVl_ok HVO.out (by have := HNK.out; omega) HCL.out); have HNB2 : Hid (B ≠ x.2 ∧ w.heap.size ≠ x.2 ∧ w.heap.size + 1 ≠ x.2 ∧ Ba ≠ x.2) := hid (by
     obtain ⟨es, cl, hm⟩ := HM2.out.isMap; refine ⟨fun e => ?_, fun e => ?_, fun e => ?_, fun e => HD2.out.ne _ (getA_some HG.out) e.symm⟩
     ·rw [← e, HD2.out.box] at hm; cases hm
     ·rw [← e, HX4b.out] at hm; cases hm
     ·rw [← e, HX5b.out] at hm; cases hm)
    have HLK : Hid (∀ X, Mods [x.2] w2 X → (Instr.lookup 61 (.map (some Ba)) (.int .u64 (n : Int)) false).run Tryz.prog X = .ok (.agg #[.int .i64 (x.1.size : Int), .map (some x.2)]) X) := hid (fun X hX => lookAll (HD2.out.all.mods hX (fun hh => HNB2.out.2.2.2 (by simpa using hh))) hn HG.out); have HRA : Hid (w2.rangeAt (w.heap.size + 1) 0 (bV c)) := hid (blkBox HX5b.out); have HI := hid (infoB HCL.out); have q2 : decide (sz ≤ kn) = false := decide_eq_false (by omega); clear hk0 hk1; go_wp2_with fail; clear c0 c1 q0 q1 q2
    have HSS : Hid (∀ X, Mods [x.2] w2 X → (X.cell? ⟨B, 0, none⟩ = some (.map (some Ba)) ∧ X.cell? ⟨w.heap.size, 0, none⟩ = some (.int .u64 (n : Int)) ∧ X.cell? ⟨w.heap.size, 1, none⟩ = some (.int .i64 (kn : Int)) ∧ X.rangeAt (w.heap.size + 1) 0 (bV c)) ∧ Mods [x.2] w2 X) := hid (fun X hb => ⟨⟨(World.cell?_of_block (hb.block _ (HD2.out.lt) ((fun hh => HNB2.out.1 (by simpa using hh))))).trans (HD2.out.cell), (World.cell?_of_block (hb.block _ ((hLT HX4b.out)) ((fun hh => HNB2.out.2.1 (by simpa using hh))))).trans (cellOf HX4b.out 0 rfl), (World.cell?_of_block (hb.block _ ((hLT HX4b.out)) ((fun hh => HNB2.out.2.1 (by simpa using hh))))).trans (cellOf HX4b.out 1 rfl), (fun j u hj => (World.cell?_of_block (a := ⟨w.heap.size + 1, 0 + j, none⟩) (hb.block (w.heap.size + 1) (hLT HX5b.out) (fun hh => HNB2.out.2.2.1 (by simpa using hh)))).trans (HRA.out j u hj))⟩, hb⟩)
    refine wp_region_held_drew (S := fun X => (X.cell? ⟨B, 0, none⟩ = some (.map (some Ba)) ∧ X.cell? ⟨w.heap.size, 0, none⟩ = some (.int .u64 (n : Int)) ∧ X.cell? ⟨w.heap.size, 1, none⟩ = some (.int .i64 (kn : Int)) ∧ X.rangeAt (w.heap.size + 1) 0 (bV c)) ∧ Mods [x.2] w2 X) (by kernel_rfl) (HSS.out _ (Mods.of_below (Below.refl _ _).drew)) (fun hHeld => ?_); have hbe : Below w2.heap.size w2 w2.drew := (Below.refl _ _).drew; obtain ⟨wd, hwd⟩ : ∃ y, w2.drew = y := ⟨_, rfl⟩
    rw [hwd] at hHeld hbe ⊢; have HBE := hid hbe; have HS0 : Hid (w2.heap.size ≤ wd.heap.size) := hid HBE.out.size; clear hwd hbe; refine tkX 0 rfl ?_; refine tkX 4 rfl ?_; refine tkX 8 rfl ?_; refine wpAnyH_take (i := 10) (v := _) rfl (by kernel_rfl) (by kernel_rfl) (by kernel_rfl) (fun _ _ _ h => h) (yieldsIf_load_mid (by rfl) 50 _ rfl (w.heap.size + 1) (0) rfl (bV c) _ (fun w hSw => hSw.1.2.2.2) (Tryz.underlying50) rfl (HI.out)) (by assumption) ?_; simp only [gE1, gE2, gE3, Act.put, pE1, pE2, pE3]; refine tkX 1 rfl ?_; refine tkX 5 rfl ?_; refine tkX 9 rfl ?_; refine tkX 2 rfl ?_
    refine tkX 3 rfl ?_; refine tkQ 6 (.agg #[.int .i64 (x.1.size : Int), .map (some x.2)]) rfl ?_ ?_
    ·(intro w hSw; simp only [gE1, gE2, gE3]; (have h6 := HLK.out w hSw.2; go_simp; first | done | with_reducible rfl))
    refine tkQ 7 (.map (some x.2)) rfl ?_ ?_
    ·(intro w hSw; simp only [gE1, gE2, gE3]; (have h7 := fldVol w (x.1.size : Int) (some x.2); go_simp; first | done | with_reducible rfl))
    refine rd1 11 rfl fun K hK => ?_; obtain ⟨w11, hup, hml, hmod⟩ := (HM2.out.below HBE.out).put undInt undBlks (by have := HVO.out.len; unfold maxLen; omega) (wfI64 (n := kn) (by omega)) (RBlk_mk (b := c) HCL.out); unfold bA at hup; simp only [gE1, gE2, gE3]; go_simp; refine hK.out _ _ ?_ (fun hHeld => ?_)
    ·exact HSS.out _ ((Mods.of_below HBE.out).trans hmod (fun i hi => .inl hi))
    clear hK K; try simp only [Act.put, pE1, pE2, pE3]
    have HFIN : Hid (DevAt n0 w11 B Ba (putA n (⟨x.1.size, putA kn c x.1.m⟩, x.2) l) ∧ strip (putA n (⟨x.1.size, putA kn c x.1.m⟩, x.2) l) = PutL (strip l) n (kn : Int) c ∧ Chg (dF Ba l) w w11 (dF Ba (putA n (⟨x.1.size, putA kn c x.1.m⟩, x.2) l))) := hid (pt_end HB2.out HD2.out HG.out HBE.out hml hmod HVK.out HPL.out); clear hml hmod hup; refine wpAnyH_done (by kernel_rfl) ?_ _; have HEND := hid hHeld.2; have HSE := hid hHeld.1; clear hHeld; clear HSE HSS HEND; go_wp2_with fail; go_ret; exact ⟨_, by rw [HPE.out]; rfl, HFIN.out.1, HFIN.out.2.1, HFIN.out.2.2⟩
end Go.Proofs.YthkmihedkddnmaaGreat
