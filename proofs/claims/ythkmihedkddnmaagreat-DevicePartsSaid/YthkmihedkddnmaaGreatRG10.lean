import Derived.Test.YthkmihedkddnmaaGreatRG2
import Derived.Deep.RegionHeld3
import Derived.Test.YthkmihedkddnmaaGreatRG6
import Derived.Test.YthkmihedkddnmaaGreatRG4
import Derived.Test.YthkmihedkddnmaaGreatRG9
set_option linter.unusedVariables false
set_option linter.unusedSimpArgs false
set_option maxHeartbeats 3200000
set_option maxRecDepth 100000
namespace Go.Proofs.YthkmihedkddnmaaGreat
open Lib (hid)
open Go.RowKit Go.Maps Wire Cmd
theorem op7 {X : World} {b : Nat} {o : Op0} {sl : Value} (h : X.heap[b]? = some (.cells (oC o sl) 40 (0, 0))) :
  X.cell? ⟨b, 0, none⟩ = some (.int .i64 o.k) ∧ X.cell? ⟨b, 1, none⟩ = some (.int .u64 (o.vol : Int)) ∧ X.cell? ⟨b, 2, none⟩ = some (.int .u64 (o.to : Int)) ∧ X.cell? ⟨b, 3, none⟩ = some (.int .i64 o.size) ∧
  X.cell? ⟨b, 4, none⟩ = some (.int .i64 o.pl) ∧ X.cell? ⟨b, 5, none⟩ = some (.int .i64 o.count) ∧ X.cell? ⟨b, 6, none⟩ = some sl :=
 ⟨cellOf h 0 rfl, cellOf h 1 rfl, cellOf h 2 rfl, cellOf h 3 rfl, cellOf h 4 rfl, cellOf h 5 rfl, cellOf h 6 rfl⟩
theorem DevAt.looked {n0 : Nat} {w : World} {B Ba : Nat} {l : List (Nat × (Vl × Nat))} (h : DevAt n0 w B Ba l) {n : Nat} (hn : n < 18446744073709551616) :
  ∃ (s : Nat) (p : Option Nat) (b : Bool), (∀ X, Below w.heap.size w X → (Instr.lookup 61 (.map (some Ba)) (.int .u64 (n : Int)) true).run Tryz.prog X = .ok (.tuple #[.agg #[.int .i64 (s : Int), .map p], .bool b]) X) ∧
   ((∃ x, getA n l = some x ∧ s = x.1.size ∧ p = some x.2 ∧ b = true) ∨ (getA n l = none ∧ s = 0 ∧ p = none ∧ b = false)) := by
 cases hg : getA n l with
 | some x => exact ⟨x.1.size, some x.2, true, fun X hX => ((h.below hX).look hn hg).1, .inl ⟨x, rfl, rfl, rfl, rfl⟩⟩
 | none => exact ⟨0, none, false, fun X hX => ((h.below hX).lookNo hn hg).1, .inr ⟨rfl, rfl, rfl, rfl⟩⟩
theorem getA_strip (n : Nat) (l : List (Nat × (Vl × Nat))) : getA n (strip l) = (getA n l).map (·.1) := getA_map _ _ _
theorem may_in {o : Op0} (h : mayO o = true) {c : UInt8} (hc : c ∈ nm o.k) : wIn (c.toNat : Int) o = true := by
 unfold mayO at h; simp only [Bool.and_eq_true] at h; exact List.all_eq_true.1 h.1.1 c hc
theorem may_kind {o : Op0} (h : mayO o = true) : 1 ≤ o.k ∧ o.k ≤ 9 := by
 unfold mayO at h; simp only [Bool.and_eq_true, decide_eq_true_eq] at h; exact h.1.2
theorem may_pl {o : Op0} (h : mayO o = true) (hk : o.k = 5 ∨ o.k = 6 ∨ o.k = 7 ∨ o.k = 9) : 0 ≤ o.pl ∧ o.pl ≤ 1048576 := by
 have := may_in h (c := 97) (by rcases hk with hk | hk | hk | hk <;> rw [hk] <;> decide)
 simpa [wIn] using this
theorem may_count {o : Op0} (h : mayO o = true) (hk : o.k = 6 ∨ o.k = 7 ∨ o.k = 9) : 1 ≤ o.count ∧ o.count ≤ 1024 := by
 have := may_in h (c := 99) (by rcases hk with hk | hk | hk <;> rw [hk] <;> decide)
 simpa [wIn] using this
theorem may_data {o : Op0} (h : mayO o = true) (hk : o.k = 5) : 64 ≤ o.data.length ∧ o.data.length % 64 = 0 ∧ o.data.length ≤ 2048 := by
 have := may_in h (c := 100) (by rw [hk]; decide); simp only [wIn] at this
 simpa [and_assoc] using this
theorem may_rowC {o : Op0} (h : mayO o = true) (hk : o.k = 5 ∨ o.k = 6 ∨ o.k = 9) : 1 ≤ rowC o ∧ rowC o ≤ 1024 := by
 unfold rowC
 split
 ·rename_i h5
  have := may_data h h5; omega
 ·rename_i h5
  exact may_count h (by omega)
theorem drefused_at (n0 : Nat) (w : World) (B Ba : Nat) (l : List (Nat × (Vl × Nat))) (h : DevAt n0 w B Ba l) (o : Op0) (ok : o.Ok) (ao : Option Addr) (cap : Nat) (hd : Rd w 1 (.slice ao o.data.length cap) o.data.length (bV o.data)) :
  Calls Tryz.prog 40 #[.pointer (some ⟨B, 0, none⟩), .agg (oC o (.slice ao o.data.length cap))] w fun e w' => e = .returned (.int .i64 (refD (strip l) o)) ∧ Below w.heap.size w w' := by
 have HNL : Hid (o.data.length ≤ 9223372036854775807) := hid (by obtain ⟨_, _, _, _, hm, _⟩ := hd; unfold maxLen at hm; omega); obtain ⟨sl, hsl⟩ : ∃ s, Value.slice ao o.data.length cap = s := ⟨_, rfl⟩
 have CP : Hid (∀ X, Calls Tryz.prog 71 #[.agg (oC o sl)] X fun e w' => e = .returned (partV o) ∧ Below X.heap.size X w') := hid (fun X => by rw [← hsl]; exact part13_any o ao cap X HNL.out); rw [hsl] at hd ⊢; have HSL := hid hsl; clear hsl; obtain ⟨w1, hw1⟩ : ∃ W, w.alloc (.cells (oC o sl) 40) = W := ⟨_, rfl⟩
 have hb1 : Below w.heap.size w w1 := by rw [← hw1]; exact balloc (Below.refl _ _) _
 have hx1 : w1.heap[w.heap.size]? = some (.cells (oC o sl) 40 (0, 0)) := by rw [← hw1]; exact heap_alloc_new w _
 have CT := dthere_any w1 _ true (h.below hb1).dv; have CM := mayO_any o ok sl w1 (hd.below hb1); have HD1 := hid (h.below hb1); have HB1 := hid hb1; have HX1 := hid hx1; obtain ⟨c0, c1, c2, c3, c4, c5, c6⟩ := op7 hx1; clear h hb1 hx1; unfold oC at hw1; rw [show (oC o sl) = #[.int .i64 o.k, .int .u64 (o.vol : Int), .int .u64 (o.to : Int), .int .i64 o.size, .int .i64 o.pl, .int .i64 o.count, sl] from rfl]
 go_enter Tryz.func40, Tryz.ntmps40
 go_wp2_with fail; refine CT.mono ?_; rintro e w2 ⟨rfl, rfl⟩; go_wp2_with fail; refine CM.mono ?_; rintro e w2 ⟨rfl, hb2⟩; have HB2 := hid (bthen HB1.out hb2); have HX2 := hid ((hb2.block w.heap.size (hLT HX1.out)).trans HX1.out); have HD2 := hid (HD1.out.below hb2); clear c0 c1 c2 c3 c4 c5 c6 hw1 hb2 CT CM; obtain ⟨q, hq⟩ : ∃ q, mayO o = q := ⟨_, rfl⟩
 have HQ := hid hq; rw [hq]; clear hq
 cases q with
 | false =>
  have HR : Hid (refD (strip l) o = 2) := hid (by unfold refD; rw [if_pos HQ.out]); go_wp2_with fail; go_ret; exact ⟨by rw [HR.out]; rfl, HB2.out⟩
 | true =>
  obtain ⟨s, p, b, hlk, hcase⟩ := HD2.out.looked ok.vol; have HLK := hid hlk; have HCASE := hid hcase; clear hlk hcase; go_wp2_with fail; have HSS : Hid (∀ X, Below w2.heap.size w2 X → (X.cell? ⟨B, 0, none⟩ = some (.map (some Ba)) ∧ X.cell? ⟨w.heap.size, 1, none⟩ = some (.int .u64 (o.vol : Int))) ∧ Below w2.heap.size w2 X) := hid (fun X hb => ⟨⟨(World.cell?_of_block (hb.block _ (HD2.out.lt))).trans (HD2.out.cell), (World.cell?_of_block (hb.block _ ((hLT HX2.out)))).trans (cellOf HX2.out 1 rfl)⟩, hb⟩)
  refine wp_region_held_drew (S := fun X => (X.cell? ⟨B, 0, none⟩ = some (.map (some Ba)) ∧ X.cell? ⟨w.heap.size, 1, none⟩ = some (.int .u64 (o.vol : Int))) ∧ Below w2.heap.size w2 X) (by kernel_rfl) (HSS.out _ (Below.refl _ _).drew) (fun hHeld => ?_); have hbe : Below w2.heap.size w2 w2.drew := (Below.refl _ _).drew; obtain ⟨wd, hwd⟩ : ∃ y, w2.drew = y := ⟨_, rfl⟩
  rw [hwd] at hHeld hbe ⊢; have HBE := hid hbe; have HS0 : Hid (w2.heap.size ≤ wd.heap.size) := hid HBE.out.size; clear hwd hbe; refine tkA 0 rfl ?_; refine tkA 4 rfl ?_; refine tkA 1 rfl ?_; refine tkA 5 rfl ?_; refine tkA 2 rfl ?_; refine tkA 3 rfl ?_; refine tkB 6 (.tuple #[.agg #[.int .i64 (s : Int), .map p], .bool b]) rfl ?_ ?_
  ·(intro w hSw; simp only [gE1, gE2, gE3]; (have h6 := HLK.out w hSw.2; go_simp; first | done | with_reducible rfl))
  refine tkA 7 rfl ?_; refine tkA 8 rfl ?_; refine tkA 9 rfl ?_; refine rd1 10 rfl fun K hK => ?_; simp only [gE1, gE2, gE3]; go_simp; obtain ⟨b10, y10, hw10, hy10, hx10, HN10⟩ := al wd (.cells #[.int .i64 0, .map none] 84); rw [hy10, hw10]; have HG10 : Hid (w2.heap.size ≤ b10) := hid (by have := HBE.out.size; omega); clear hy10 hw10; have HBE := hid (bthen HBE.out hx10); clear hHeld; refine hK.out _ _ (HSS.out _ HBE.out) fun hHeld => ?_; clear hK K; try simp only [Act.put, pE1, pE2, pE3]
  clear hx10; refine rd1 11 rfl fun K hK => ?_; obtain ⟨hc11_0, hf11_0, hc11_1, hf11_1⟩ := bx2 HN10.out; simp only [gE1, gE2, gE3]; go_simp; obtain ⟨y11, hy11, hm11, hv11⟩ := st2 HN10.out (.int .i64 (s : Int)) (.map p); rw [hy11]; clear hy11 hc11_0 hf11_0 hc11_1 hf11_1; have HBE := hid (bM HBE.out hm11 HG10.out); clear hHeld; refine hK.out _ _ (HSS.out _ HBE.out) fun hHeld => ?_; clear hK K; try simp only [Act.put, pE1, pE2, pE3]
  have HN10 := hid hv11; clear hv11 hm11; refine tkA 12 rfl ?_; refine wpAnyH_done (by kernel_rfl) ?_ _; have HEND := hid hHeld.2; have HSE := hid hHeld.1; clear hHeld; clear HSE HSS; have HB5 := hid (bthen HB2.out HEND.out); have HX5 := hid ((HEND.out.block w.heap.size (hLT HX2.out)).trans HX2.out); have HD5 := hid (HD2.out.below HEND.out); have hp0 := cellOf HN10.out 0 (v := .int .i64 (s : Int)) rfl; obtain ⟨c0, c1, c2, c3, c4, c5, c6⟩ := op7 HX5.out; clear HEND HX2 HD2 HB2 HN10
  by_cases h8 : o.k = 8
  ·have g8 : (o.k == 8) = true := by simp [h8]
   have HK := hid h8; clear h8; have HR : Hid (refD (strip l) o = 0) := hid (by unfold refD; rw [if_neg (by rw [HQ.out]; simp), if_pos HK.out]); go_wp2_with fail; go_ret; exact ⟨by rw [HR.out]; rfl, HB5.out⟩
  have g8 := bneI h8
  rcases HCASE.out with ⟨x, hg, rfl, rfl, rfl⟩ | ⟨hg, rfl, rfl, rfl⟩
  ·by_cases h1 : o.k = 1
   ·have g1 : (o.k == 1) = true := by simp [h1]
    have HK := hid h1; have HR : Hid (refD (strip l) o = 7) := hid (by unfold refD; rw [if_neg (by rw [HQ.out]; simp), if_neg (by rw [HK.out]; omega), if_pos HK.out, getA_strip, hg]; rfl); clear h8 h1; go_wp2_with fail; go_ret; exact ⟨by rw [HR.out]; rfl, HB5.out⟩
   have g1 := bneI h1; have HG := hid hg; clear hg; have HR0 : Hid (refD (strip l) o = if o.k = 4 then (if (getA o.to (strip l)).isSome then 7 else 0)
  else if o.k = 5 ∨ o.k = 6 ∨ o.k = 9 then (if 4 * (x.1.size : Int) < o.pl + rowC o then 5 else 0)
  else if o.k = 7 then (if (x.1.size : Int) < o.pl + o.count then 5 else 0) else 0) := hid (by
    unfold refD; rw [if_neg (by rw [HQ.out]; simp), if_neg h8, if_neg h1, getA_strip, HG.out]
    rfl)
   by_cases h4 : o.k = 4
   ·have HPV : Hid (partV o = .iface 134 (.agg #[.int .u64 (o.vol : Int), .int .u64 (o.to : Int)])) := hid (by unfold partV; rw [if_neg (by omega), if_pos h4])
    have HR1 : Hid (refD (strip l) o = if (getA o.to (strip l)).isSome then 7 else 0) := hid (by rw [HR0.out, if_pos h4]); clear h4 h1 h8; go_wp2_with fail; refine (CP.out _).mono ?_; rintro e w6 ⟨rfl, hb6⟩; rw [HPV.out]; have HB6 := hid (bthen HB5.out hb6); have HX6 := hid ((hb6.block w.heap.size (hLT HX5.out)).trans HX5.out); have HD6 := hid (HD5.out.below hb6); have hq0 : w6.cell? ⟨b10, 0, none⟩ = _ := (World.cell?_of_block (hb6.block b10 (World.block_lt_of_cell? y11 _ hp0))).trans hp0; have hbl : b10 < w6.heap.size := World.block_lt_of_cell? w6 _ hq0
    obtain ⟨d0, d1, d2, d3, d4, d5, d6⟩ := op7 HX6.out; clear c0 c1 c2 c3 c4 c5 c6 hp0 hb6; have t1 := as_fork; obtain ⟨w7, hw7⟩ : ∃ W, w6.alloc (.cells #[.int .u64 (o.vol : Int), .int .u64 (o.to : Int)] 134) = W := ⟨_, rfl⟩
    have HB67 : Hid (Below w6.heap.size w6 w7) := hid (by rw [← hw7]; exact balloc (Below.refl _ _) _); have HX7 : Hid (w7.heap[w6.heap.size]? = some (.cells #[.int .u64 (o.vol : Int), .int .u64 (o.to : Int)] 134 (0, 0))) := hid (by rw [← hw7]; exact heap_alloc_new w6 _); have HD7 := hid (HD6.out.below HB67.out); obtain ⟨s2, p2, b2, hlk, hcase⟩ := HD7.out.looked ok.to; have HLK2 := hid hlk; have HCASE2 := hid hcase; clear hlk hcase; go_wp2_with fail
    (try rw [hw7])
    clear hw7 hq0 d0 d1 d2 d3 d4 d5 d6 t1; have HSS : Hid (∀ X, Below w7.heap.size w7 X → (X.cell? ⟨B, 0, none⟩ = some (.map (some Ba)) ∧ X.cell? ⟨w6.heap.size, 1, none⟩ = some (.int .u64 (o.to : Int))) ∧ Below w7.heap.size w7 X) := hid (fun X hb => ⟨⟨(World.cell?_of_block (hb.block _ (HD7.out.lt))).trans (HD7.out.cell), (World.cell?_of_block (hb.block _ ((hLT HX7.out)))).trans (cellOf HX7.out 1 rfl)⟩, hb⟩)
    refine wp_region_held_drew (S := fun X => (X.cell? ⟨B, 0, none⟩ = some (.map (some Ba)) ∧ X.cell? ⟨w6.heap.size, 1, none⟩ = some (.int .u64 (o.to : Int))) ∧ Below w7.heap.size w7 X) (by kernel_rfl) (HSS.out _ (Below.refl _ _).drew) (fun hHeld => ?_); have hbe : Below w7.heap.size w7 w7.drew := (Below.refl _ _).drew; obtain ⟨wd, hwd⟩ : ∃ y, w7.drew = y := ⟨_, rfl⟩
    rw [hwd] at hHeld hbe ⊢; have HBE := hid hbe; have HS0 : Hid (w7.heap.size ≤ wd.heap.size) := hid HBE.out.size; clear hwd hbe; refine tkA 0 rfl ?_; refine tkA 4 rfl ?_; refine tkA 1 rfl ?_; refine tkA 5 rfl ?_; refine tkA 2 rfl ?_; refine tkA 3 rfl ?_; refine tkB 6 (.tuple #[.agg #[.int .i64 (s2 : Int), .map p2], .bool b2]) rfl ?_ ?_
    ·(intro w hSw; simp only [gE1, gE2, gE3]; (have h6 := HLK2.out w hSw.2; go_simp; first | done | with_reducible rfl))
    refine tkA 7 rfl ?_; refine tkA 8 rfl ?_; refine tkA 9 rfl ?_; refine rd1 10 rfl fun K hK => ?_; simp only [gE1, gE2, gE3]; go_simp; obtain ⟨b10, y10, hw10, hy10, hx10, HN10⟩ := al wd (.cells #[.int .i64 0, .map none] 84); rw [hy10, hw10]; have HG10 : Hid (w7.heap.size ≤ b10) := hid (by have := HBE.out.size; omega); clear hy10 hw10; have HBE := hid (bthen HBE.out hx10); clear hHeld; refine hK.out _ _ (HSS.out _ HBE.out) fun hHeld => ?_; clear hK K; try simp only [Act.put, pE1, pE2, pE3]
    clear hx10; refine rd1 11 rfl fun K hK => ?_; obtain ⟨hc11_0, hf11_0, hc11_1, hf11_1⟩ := bx2 HN10.out; simp only [gE1, gE2, gE3]; go_simp; obtain ⟨y11, hy11, hm11, hv11⟩ := st2 HN10.out (.int .i64 (s2 : Int)) (.map p2); rw [hy11]; clear hy11 hc11_0 hf11_0 hc11_1 hf11_1; have HBE := hid (bM HBE.out hm11 HG10.out); clear hHeld; refine hK.out _ _ (HSS.out _ HBE.out) fun hHeld => ?_; clear hK K; try simp only [Act.put, pE1, pE2, pE3]
    have HN10 := hid hv11; clear hv11 hm11; refine tkA 12 rfl ?_; refine wpAnyH_done (by kernel_rfl) ?_ _; have HEND := hid hHeld.2; have HSE := hid hHeld.1; clear hHeld; have HB8 := hid (bthen HB6.out (bthen HB67.out HEND.out)); clear HEND HSE HSS
    rcases HCASE2.out with ⟨x2, hg2, rfl, rfl, rfl⟩ | ⟨hg2, rfl, rfl, rfl⟩
    ·have HR : Hid (refD (strip l) o = 7) := hid (by rw [HR1.out, getA_strip, hg2]; rfl)
     go_wp2_with fail; go_ret; exact ⟨by rw [HR.out]; rfl, HB8.out⟩
    ·have HR : Hid (refD (strip l) o = 0) := hid (by rw [HR1.out, getA_strip, hg2]; rfl)
     go_wp2_with fail; go_ret; exact ⟨by rw [HR.out]; rfl, HB8.out⟩
   by_cases h7 : o.k = 7
   ·have HPV : Hid (partV o = .iface 137 (.agg #[.int .i64 o.pl, .int .i64 o.count])) := hid (by unfold partV; rw [if_neg (by omega), if_neg h4, if_neg (by omega), if_neg (by omega), if_pos h7])
    have HR1 : Hid (refD (strip l) o = if (x.1.size : Int) < o.pl + o.count then 5 else 0) := hid (by rw [HR0.out, if_neg h4, if_neg (by omega), if_pos h7]); have hpl := may_pl HQ.out (by omega); have hct := may_count HQ.out (by omega); have hsz : x.1.size ≤ 256 := (HD5.out.ok.vol (o.vol, x.1) (by unfold strip mapA; exact List.mem_map.2 ⟨_, getA_some HG.out, rfl⟩)).size; clear h4 h1 h8 h7; go_wp2_with fail; refine (CP.out _).mono ?_; rintro e w6 ⟨rfl, hb6⟩; rw [HPV.out]; have HB6 := hid (bthen HB5.out hb6); have HX6 := hid ((hb6.block w.heap.size (hLT HX5.out)).trans HX5.out)
    have HD6 := hid (HD5.out.below hb6); have hq0 : w6.cell? ⟨b10, 0, none⟩ = _ := (World.cell?_of_block (hb6.block b10 (World.block_lt_of_cell? y11 _ hp0))).trans hp0; have hbl : b10 < w6.heap.size := World.block_lt_of_cell? w6 _ hq0; obtain ⟨d0, d1, d2, d3, d4, d5, d6⟩ := op7 HX6.out; clear c0 c1 c2 c3 c4 c5 c6 hp0 hb6; have t1 := fun (z : Value) (T : TypeId) (w : World) => no_fork (t := 137) (by decide) z T w; have t2 := fun (z : Value) (T : TypeId) (w : World) => no_row (t := 137) (by decide) z T w; have t3 := as_space
    generalize o.pl = pl at *
    generalize o.count = ct at *
    generalize x.1.size = sz at *
    by_cases hgt : (sz : Int) < pl + ct
    ·have HR : Hid (refD (strip l) o = 5) := hid (by rw [HR1.out, if_pos hgt])
     go_wp2_with fail; go_ret; exact ⟨by rw [HR.out]; rfl, balloc HB6.out _⟩
    ·have HR : Hid (refD (strip l) o = 0) := hid (by rw [HR1.out, if_neg hgt])
     go_wp2_with fail; go_ret; exact ⟨by rw [HR.out]; rfl, balloc HB6.out _⟩
   by_cases h5 : o.k = 5 ∨ o.k = 6 ∨ o.k = 9
   ·have HPV : Hid (partV o = .iface 136 (.agg #[.int .i64 o.pl, .int .i64 (rowC o)])) := hid (by
     unfold partV rowC; rw [if_neg (by omega), if_neg h4]
     by_cases h55 : o.k = 5
     ·rw [if_pos h55, if_pos h55]
     ·rw [if_neg h55, if_pos (by omega), if_neg h55])
    have HR1 : Hid (refD (strip l) o = if 4 * (x.1.size : Int) < o.pl + rowC o then 5 else 0) := hid (by rw [HR0.out, if_neg h4, if_pos h5]); have hpl := may_pl HQ.out (by omega); have hct := may_rowC HQ.out (by omega); have hsz : x.1.size ≤ 256 := (HD5.out.ok.vol (o.vol, x.1) (by unfold strip mapA; exact List.mem_map.2 ⟨_, getA_some HG.out, rfl⟩)).size; clear h4 h1 h8 h7 h5; go_wp2_with fail; refine (CP.out _).mono ?_; rintro e w6 ⟨rfl, hb6⟩; rw [HPV.out]; have HB6 := hid (bthen HB5.out hb6); have HX6 := hid ((hb6.block w.heap.size (hLT HX5.out)).trans HX5.out)
    have HD6 := hid (HD5.out.below hb6); have hq0 : w6.cell? ⟨b10, 0, none⟩ = _ := (World.cell?_of_block (hb6.block b10 (World.block_lt_of_cell? y11 _ hp0))).trans hp0; have hbl : b10 < w6.heap.size := World.block_lt_of_cell? w6 _ hq0; obtain ⟨d0, d1, d2, d3, d4, d5, d6⟩ := op7 HX6.out; clear c0 c1 c2 c3 c4 c5 c6 hp0 hb6; have t1 := fun (z : Value) (T : TypeId) (w : World) => no_fork (t := 136) (by decide) z T w; have t2 := as_row
    generalize o.pl = pl at *
    generalize rowC o = ct at *
    generalize x.1.size = sz at *
    by_cases hgt : 4 * (sz : Int) < pl + ct
    ·have HR : Hid (refD (strip l) o = 5) := hid (by rw [HR1.out, if_pos hgt])
     go_wp2_with fail; go_ret; exact ⟨by rw [HR.out]; rfl, balloc HB6.out _⟩
    ·have HR : Hid (refD (strip l) o = 0) := hid (by rw [HR1.out, if_neg hgt])
     go_wp2_with fail; go_ret; exact ⟨by rw [HR.out]; rfl, balloc HB6.out _⟩
   have HR : Hid (refD (strip l) o = 0) := hid (by rw [HR0.out, if_neg h4, if_neg h5, if_neg h7])
   by_cases h3 : o.k = 3
   ·have HPV : Hid (partV o = .iface 3 (.int .i64 o.size)) := hid (by unfold partV; rw [if_pos (.inr h3)])
    clear h3 h4 h5 h7 h1 h8; go_wp2_with fail; refine (CP.out _).mono ?_; rintro e w6 ⟨rfl, hb6⟩; rw [HPV.out]; have HB6 := hid (bthen HB5.out hb6); have HX6 := hid ((hb6.block w.heap.size (hLT HX5.out)).trans HX5.out); have HD6 := hid (HD5.out.below hb6); have hq0 : w6.cell? ⟨b10, 0, none⟩ = _ := (World.cell?_of_block (hb6.block b10 (World.block_lt_of_cell? y11 _ hp0))).trans hp0; have hbl : b10 < w6.heap.size := World.block_lt_of_cell? w6 _ hq0; obtain ⟨d0, d1, d2, d3, d4, d5, d6⟩ := op7 HX6.out; clear c0 c1 c2 c3 c4 c5 c6 hp0 hb6
    have t1 := fun (z : Value) (T : TypeId) (w : World) => no_fork (t := 3) (by decide) z T w; have t2 := fun (z : Value) (T : TypeId) (w : World) => no_row (t := 3) (by decide) z T w; have t3 := fun (z : Value) (T : TypeId) (w : World) => no_space (t := 3) (by decide) z T w; go_wp2_with fail; go_ret; exact ⟨by rw [HR.out]; rfl, HB6.out⟩
   ·have HPV : Hid (partV o = .nilIface) := hid (by unfold partV; rw [if_neg (by omega), if_neg h4, if_neg (by omega), if_neg (by omega), if_neg h7])
    clear h3 h4 h5 h7 h1 h8; go_wp2_with fail; refine (CP.out _).mono ?_; rintro e w6 ⟨rfl, hb6⟩; rw [HPV.out]; have HB6 := hid (bthen HB5.out hb6); have HX6 := hid ((hb6.block w.heap.size (hLT HX5.out)).trans HX5.out); have HD6 := hid (HD5.out.below hb6); have hq0 : w6.cell? ⟨b10, 0, none⟩ = _ := (World.cell?_of_block (hb6.block b10 (World.block_lt_of_cell? y11 _ hp0))).trans hp0; have hbl : b10 < w6.heap.size := World.block_lt_of_cell? w6 _ hq0; obtain ⟨d0, d1, d2, d3, d4, d5, d6⟩ := op7 HX6.out; clear c0 c1 c2 c3 c4 c5 c6 hp0 hb6; have t1 := nil_fork; have t2 := nil_row; have t3 := nil_space
    go_wp2_with fail; go_ret; exact ⟨by rw [HR.out]; rfl, HB6.out⟩
  ·have HG := hid hg
   clear hg; have HR0 : Hid (refD (strip l) o = if o.k = 1 then 0 else 6) := hid (by
    unfold refD; rw [if_neg (by rw [HQ.out]; simp), if_neg h8, getA_strip, HG.out]
    rfl)
   by_cases h1 : o.k = 1
   ·have g1 : (o.k == 1) = true := by simp [h1]
    have HR : Hid (refD (strip l) o = 0) := hid (by rw [HR0.out, if_pos h1]); have HPV : Hid (partV o = .iface 3 (.int .i64 o.size)) := hid (by unfold partV; rw [if_pos (.inl h1)]); clear h1 h8; go_wp2_with fail; refine (CP.out _).mono ?_; rintro e w6 ⟨rfl, hb6⟩; rw [HPV.out]; have HB6 := hid (bthen HB5.out hb6); have HX6 := hid ((hb6.block w.heap.size (hLT HX5.out)).trans HX5.out); have HD6 := hid (HD5.out.below hb6); have hq0 : w6.cell? ⟨b10, 0, none⟩ = _ := (World.cell?_of_block (hb6.block b10 (World.block_lt_of_cell? y11 _ hp0))).trans hp0
    have hbl : b10 < w6.heap.size := World.block_lt_of_cell? w6 _ hq0; obtain ⟨d0, d1, d2, d3, d4, d5, d6⟩ := op7 HX6.out; clear c0 c1 c2 c3 c4 c5 c6 hp0 hb6; have t1 := fun (z : Value) (T : TypeId) (w : World) => no_fork (t := 3) (by decide) z T w; have t2 := fun (z : Value) (T : TypeId) (w : World) => no_row (t := 3) (by decide) z T w; have t3 := fun (z : Value) (T : TypeId) (w : World) => no_space (t := 3) (by decide) z T w; go_wp2_with fail; go_ret; exact ⟨by rw [HR.out]; rfl, HB6.out⟩
   ·have g1 := bneI h1
    have HR : Hid (refD (strip l) o = 6) := hid (by rw [HR0.out, if_neg h1]); clear h1 h8; go_wp2_with fail; go_ret; exact ⟨by rw [HR.out]; rfl, HB5.out⟩
end Go.Proofs.YthkmihedkddnmaaGreat
namespace Go.Proofs.YthkmihedkddnmaaGreat
open Lib (hid)
open Go.RowKit Go.Maps Wire Cmd
theorem DevAt.short {n0 : Nat} {w : World} {B Ba : Nat} {l : List (Nat × (Vl × Nat))} (h : DevAt n0 w B Ba l) : l.length < maxLen := by
 have := ris_len_le 0 h.ok.ris (fun p hp => ⟨Nat.zero_le _, (h.ok.nat p hp).2⟩); have hlen : (strip l).length = l.length := mapA_len _ _; unfold maxLen; omega
theorem DevAt.lt_all {n0 : Nat} {w : World} {B Ba : Nat} {l : List (Nat × (Vl × Nat))} (h : DevAt n0 w B Ba l) : ∀ k ∈ dF Ba l, k < w.heap.size := by
 intro k hk
 rcases List.mem_cons.1 hk with rfl | hk
 ·exact h.all.lt
 ·obtain ⟨p, hp, rfl⟩ := List.mem_map.1 hk
  exact (h.vol p hp).lt
theorem DevAt.B_ne {n0 : Nat} {w : World} {B Ba : Nat} {l : List (Nat × (Vl × Nat))} (h : DevAt n0 w B Ba l) : B ≠ Ba := by
 obtain ⟨es, clock, hes⟩ := h.all.isMap; exact fun e => map_ne_cells hes h.box e.symm
structure Boxes (w w2 : World) (C : Array Value) : Prop where
 bel : Below w.heap.size w w2
 sz : w2.heap.size = w.heap.size + 2
 op : w2.heap[w.heap.size]? = some (.cells C 40 (0, 0))
 ans : w2.heap[w.heap.size + 1]? = some (.cells #[.int .i64 0, .int .i64 0, .slice none 0 0] 35 (0, 0))
theorem boxes (w : World) (C : Array Value) : Boxes w ((w.alloc (.cells C 40)).alloc (.cells #[.int .i64 0, .int .i64 0, .slice none 0 0] 35)) C := by
 have h1 := heap_alloc_new w (.cells C 40); have h2 := heap_alloc_new (w.alloc (.cells C 40)) (.cells #[.int .i64 0, .int .i64 0, .slice none 0 0] 35); have hb := balloc (Below.refl _ (w.alloc (.cells C 40))) (.cells #[.int .i64 0, .int .i64 0, .slice none 0 0] 35); refine ⟨bthen (balloc (Below.refl _ _) _) hb, by simp, (hb.block _ (by simp)).trans h1, ?_⟩
 simpa using h2
theorem dcreate_at (n0 : Nat) (w : World) (B Ba : Nat) (l : List (Nat × (Vl × Nat))) (h : DevAt n0 w B Ba l) (o : Op0) (ao : Option Addr) (cap : Nat) (b : Int) (hn : o.data.length ≤ 9223372036854775807) (hmay : mayO o = true) (hk : o.k = 1) :
  Calls Tryz.prog 41 #[.pointer (some ⟨B, 0, none⟩), .agg (oC o (.slice ao o.data.length cap)), .int .i64 b] w fun e w' => e = .returned (ansE 0 0) ∧ ∃ b', DevAt n0 w' B Ba (putA o.vol (⟨o.size.toNat, []⟩, b') l) ∧ Mods [Ba] w w' ∧ w.heap.size ≤ b' := by
 have HH := hid h; have hbx := boxes w (oC o (.slice ao o.data.length cap)); have hsize := may_size hmay (.inl hk); have HVOL := hid (may_vol hmay (by omega)); have HS : Hid (((o.size.toNat : Nat) : Int) = o.size ∧ o.size.toNat ≤ 256) := hid ⟨by omega, by omega⟩; have HPV : Hid (partV o = .iface 3 (.int .i64 o.size)) := hid (by unfold partV; rw [if_pos (.inl hk)]); obtain ⟨sl, hsl⟩ : ∃ s, Value.slice ao o.data.length cap = s := ⟨_, rfl⟩
 have CP : Hid (∀ X, Calls Tryz.prog 71 #[.agg (oC o sl)] X fun e w' => e = .returned (.iface 3 (.int .i64 o.size)) ∧ Below X.heap.size X w') := hid (fun X => by rw [← hsl, ← HPV.out]; exact part13_any o ao cap X hn); rw [hsl] at hbx ⊢; clear hsl hsize h hk hmay hn; rw [show (oC o sl) = #[.int .i64 o.k, .int .u64 (o.vol : Int), .int .u64 (o.to : Int), .int .i64 o.size, .int .i64 o.pl, .int .i64 o.count, sl] from rfl] at hbx ⊢
 obtain ⟨w2, hw2⟩ : ∃ W, (w.alloc (.cells #[.int .i64 o.k, .int .u64 (o.vol : Int), .int .u64 (o.to : Int), .int .i64 o.size, .int .i64 o.pl, .int .i64 o.count, sl] 40)).alloc (.cells #[.int .i64 0, .int .i64 0, .slice none 0 0] 35) = W := ⟨_, rfl⟩
 rw [hw2] at hbx; have HBX := hid hbx; clear hbx; have t1 := is_int
 go_enter Tryz.func41, Tryz.ntmps41
 go_wp2_with fail
 (try rw [hw2])
 clear hw2; have HD2 := hid (HH.out.below HBX.out.bel); have HX2 := hid HBX.out.op; have HLT := hid (hLT HX2.out); have HNI : Hid (w.heap.size ∉ [Ba]) := hid (by have := HH.out.all.lt; simp; omega); have HNB : Hid (B ∉ [Ba]) := hid (by simpa using HD2.out.B_ne)
 have HSS : Hid (∀ X, Mods [Ba] w2 X → (X.cell? ⟨B, 0, none⟩ = some (.map (some Ba)) ∧ X.cell? ⟨w.heap.size, 0, none⟩ = some (.int .i64 o.k) ∧ X.cell? ⟨w.heap.size, 1, none⟩ = some (.int .u64 (o.vol : Int)) ∧ X.cell? ⟨w.heap.size, 2, none⟩ = some (.int .u64 (o.to : Int)) ∧ X.cell? ⟨w.heap.size, 3, none⟩ = some (.int .i64 o.size) ∧ X.cell? ⟨w.heap.size, 4, none⟩ = some (.int .i64 o.pl) ∧ X.cell? ⟨w.heap.size, 5, none⟩ = some (.int .i64 o.count) ∧ X.cell? ⟨w.heap.size, 6, none⟩ = some (sl)) ∧ Mods [Ba] w2 X) := hid (fun X hb => ⟨⟨(World.cell?_of_block (hb.block _ (HD2.out.lt) (HNB.out))).trans (HD2.out.cell), (World.cell?_of_block (hb.block _ (HLT.out) (HNI.out))).trans (cellOf HX2.out 0 rfl), (World.cell?_of_block (hb.block _ (HLT.out) (HNI.out))).trans (cellOf HX2.out 1 rfl), (World.cell?_of_block (hb.block _ (HLT.out) (HNI.out))).trans (cellOf HX2.out 2 rfl), (World.cell?_of_block (hb.block _ (HLT.out) (HNI.out))).trans (cellOf HX2.out 3 rfl), (World.cell?_of_block (hb.block _ (HLT.out) (HNI.out))).trans (cellOf HX2.out 4 rfl), (World.cell?_of_block (hb.block _ (HLT.out) (HNI.out))).trans (cellOf HX2.out 5 rfl), (World.cell?_of_block (hb.block _ (HLT.out) (HNI.out))).trans (cellOf HX2.out 6 rfl)⟩, hb⟩)
 refine wp_region_held_drew (S := fun X => (X.cell? ⟨B, 0, none⟩ = some (.map (some Ba)) ∧ X.cell? ⟨w.heap.size, 0, none⟩ = some (.int .i64 o.k) ∧ X.cell? ⟨w.heap.size, 1, none⟩ = some (.int .u64 (o.vol : Int)) ∧ X.cell? ⟨w.heap.size, 2, none⟩ = some (.int .u64 (o.to : Int)) ∧ X.cell? ⟨w.heap.size, 3, none⟩ = some (.int .i64 o.size) ∧ X.cell? ⟨w.heap.size, 4, none⟩ = some (.int .i64 o.pl) ∧ X.cell? ⟨w.heap.size, 5, none⟩ = some (.int .i64 o.count) ∧ X.cell? ⟨w.heap.size, 6, none⟩ = some (sl)) ∧ Mods [Ba] w2 X) (by kernel_rfl) (HSS.out _ (Mods.of_below (Below.refl _ _).drew)) (fun hHeld => ?_)
 have hbe : Below w2.heap.size w2 w2.drew := (Below.refl _ _).drew; obtain ⟨wd, hwd⟩ : ∃ y, w2.drew = y := ⟨_, rfl⟩
 rw [hwd] at hHeld hbe ⊢; have HBE := hid hbe; have HS0 : Hid (w2.heap.size ≤ wd.heap.size) := hid HBE.out.size; clear hwd hbe; refine tkA 0 rfl ?_; refine tkA 4 rfl ?_; refine tkA 6 rfl ?_; refine tkA 1 rfl ?_; refine tkA 5 rfl ?_; refine tkA 2 rfl ?_; refine tkA 3 rfl ?_; refine rd2 7 9 rfl rfl (fun K hK => ?_) fun K hK => ?_
 ·skip
  simp only [gE1, gE2, gE3]; go_simp; refine (CP.out _).mono ?_; rintro e w3 ⟨rfl, hb3⟩; dsimp only; have HBE := hid (bthen HBE.out hb3); clear hHeld; refine hK.out _ _ (HSS.out _ (Mods.of_below HBE.out)) fun hHeld => ?_; clear hK K; try simp only [Act.put, pE1, pE2, pE3]
  have HC7 := hid hb3; clear hb3; refine tkA 8 rfl ?_; refine rd1 9 rfl fun K hK => ?_; have hmm := @run_makeMap Tryz.prog; simp only [gE1, gE2, gE3]; go_simp; clear hmm; obtain ⟨b9, y9, hw9, hy9, hx9, HN9⟩ := al w3 (.map #[] 0); rw [hy9, hw9]; have HG9 : Hid (w2.heap.size ≤ b9) := hid (by have := HBE.out.size; omega); clear hy9 hw9; have HBE := hid (bthen HBE.out hx9); clear hHeld; refine hK.out _ _ (HSS.out _ (Mods.of_below HBE.out)) fun hHeld => ?_; clear hK K; try simp only [Act.put, pE1, pE2, pE3]
  clear hx9; refine tkA 10 rfl ?_; refine rd1 11 rfl fun K hK => ?_; obtain ⟨w4, hup, hml, hmod⟩ := (HD2.out.below HBE.out).all.put undU64 undAll HH.out.short (wfU (Nat.lt_trans HVOL.out.2 (by decide))) (a := ((⟨o.size.toNat, []⟩ : Vl), b9)) (v := .agg #[.int .i64 o.size, .map (some b9)]) (by rw [← HS.out.1]; exact RVol_mk _ _); simp only [gE1, gE2, gE3]; go_simp; refine hK.out _ _ ?_ (fun hHeld => ?_)
  ·exact HSS.out _ ((Mods.of_below HBE.out).trans hmod (fun i hi => .inl hi))
  clear hK K; try simp only [Act.put, pE1, pE2, pE3]
  have HD4 : Hid (DevAt n0 w4 B Ba (putA o.vol (⟨o.size.toNat, []⟩, b9) l)) := hid ((HD2.out.below HBE.out).putAt hml (mapL_at_new HN9.out hmod (by have := HG9.out; have := HD2.out.all.lt; simp; omega)) hmod HVOL.out ⟨HS.out.2, List.Pairwise.nil, fun q hq => (by cases hq), fun q hq => (by cases hq)⟩ (by have := HG9.out; have := HD2.out.lt; have := HD2.out.ge.1; omega) (by have := HG9.out; have := HD2.out.all.lt; omega) (fun p hp e => absurd e (by have := HG9.out; have := (HD2.out.vol p hp).lt; omega))); clear hml hmod hup; refine wpAnyH_done (by kernel_rfl) ?_ _; have HEND := hid hHeld.2
  have HSE := hid hHeld.1; clear hHeld; have HM5 := hid HEND.out; have HN9' := hid HN9.out; clear HEND HSE HSS HBE; have hxa := (HM5.out.block (w.heap.size + 1) (by rw [HBX.out.sz]; omega) (by have := HH.out.all.lt; simp; omega)).trans HBX.out.ans; have HXA := hid hxa; have e0 := cellOf hxa 0 (v := .int .i64 0) rfl; have e1 := cellOf hxa 1 (v := .int .i64 0) rfl; have e2 := cellOf hxa 2 (v := .slice none 0 0) rfl; have f0 := frozenOf hxa 0; have f1 := frozenOf hxa 1; have f2 := frozenOf hxa 2; clear hxa; go_wp2_with fail
  obtain ⟨hx4, hm4⟩ := set3 (x := .int .i64 0) (y := .int .i64 0) (z := .slice none 0 0) HXA.out; have hbn : b9 ≠ w.heap.size + 1 := by have := HG9.out; have := HBX.out.sz; omega
  refine bodyPost_ret (v := ansE 0 0) (resAns rfl _ _ _ _ _ _ rfl hx4) rfl ⟨rfl, b9, HD4.out.kept hm4 (fun hh => ?_) (fun k hk hh => ?_), ?_, by have := HG9.out; have := HBX.out.sz; omega⟩
  ·have : B = w.heap.size + 1 := by simpa using hh
   have := HH.out.lt; omega
  ·have e : k = w.heap.size + 1 := by simpa using hh
   subst e
   rcases List.mem_cons.1 hk with e2 | hk2
   ·have := HH.out.all.lt
    omega
   ·obtain ⟨p, hp, he⟩ := List.mem_map.1 hk2
    rcases mem_putA hp with rfl | hp
    ·exact hbn he
    ·have := (HH.out.vol p hp).lt
     omega
  ·exact ((Mods.of_below HBX.out.bel).trans HM5.out (fun i hi => .inl hi)).trans hm4 (fun i hi => .inr (by
    have : i = w.heap.size + 1 := by simpa using hi
    omega))
 ·skip
  have hmm := @run_makeMap Tryz.prog; simp only [gE1, gE2, gE3]; go_simp; clear hmm; obtain ⟨b9, y9, hw9, hy9, hx9, HN9⟩ := al wd (.map #[] 0); rw [hy9, hw9]; have HG9 : Hid (w2.heap.size ≤ b9) := hid (by have := HBE.out.size; omega); clear hy9 hw9; have HBE := hid (bthen HBE.out hx9); clear hHeld; refine hK.out _ _ (HSS.out _ (Mods.of_below HBE.out)) fun hHeld => ?_; clear hK K; try simp only [Act.put, pE1, pE2, pE3]
  clear hx9; refine rd1 7 rfl fun K hK => ?_; simp only [gE1, gE2, gE3]; go_simp; refine (CP.out _).mono ?_; rintro e w3 ⟨rfl, hb3⟩; dsimp only; have HBE := hid (bthen HBE.out hb3); clear hHeld; refine hK.out _ _ (HSS.out _ (Mods.of_below HBE.out)) fun hHeld => ?_; clear hK K; try simp only [Act.put, pE1, pE2, pE3]
  have HN9 := hid (nX hb3 HN9.out); have HC7 := hid hb3; clear hb3; refine tkA 8 rfl ?_; refine tkA 10 rfl ?_; refine rd1 11 rfl fun K hK => ?_; obtain ⟨w4, hup, hml, hmod⟩ := (HD2.out.below HBE.out).all.put undU64 undAll HH.out.short (wfU (Nat.lt_trans HVOL.out.2 (by decide))) (a := ((⟨o.size.toNat, []⟩ : Vl), b9)) (v := .agg #[.int .i64 o.size, .map (some b9)]) (by rw [← HS.out.1]; exact RVol_mk _ _); simp only [gE1, gE2, gE3]; go_simp; refine hK.out _ _ ?_ (fun hHeld => ?_)
  ·exact HSS.out _ ((Mods.of_below HBE.out).trans hmod (fun i hi => .inl hi))
  clear hK K; try simp only [Act.put, pE1, pE2, pE3]
  have HD4 : Hid (DevAt n0 w4 B Ba (putA o.vol (⟨o.size.toNat, []⟩, b9) l)) := hid ((HD2.out.below HBE.out).putAt hml (mapL_at_new HN9.out hmod (by have := HG9.out; have := HD2.out.all.lt; simp; omega)) hmod HVOL.out ⟨HS.out.2, List.Pairwise.nil, fun q hq => (by cases hq), fun q hq => (by cases hq)⟩ (by have := HG9.out; have := HD2.out.lt; have := HD2.out.ge.1; omega) (by have := HG9.out; have := HD2.out.all.lt; omega) (fun p hp e => absurd e (by have := HG9.out; have := (HD2.out.vol p hp).lt; omega))); clear hml hmod hup; refine wpAnyH_done (by kernel_rfl) ?_ _; have HEND := hid hHeld.2
  have HSE := hid hHeld.1; clear hHeld; have HM5 := hid HEND.out; have HN9' := hid HN9.out; clear HEND HSE HSS HBE; have hxa := (HM5.out.block (w.heap.size + 1) (by rw [HBX.out.sz]; omega) (by have := HH.out.all.lt; simp; omega)).trans HBX.out.ans; have HXA := hid hxa; have e0 := cellOf hxa 0 (v := .int .i64 0) rfl; have e1 := cellOf hxa 1 (v := .int .i64 0) rfl; have e2 := cellOf hxa 2 (v := .slice none 0 0) rfl; have f0 := frozenOf hxa 0; have f1 := frozenOf hxa 1; have f2 := frozenOf hxa 2; clear hxa; go_wp2_with fail
  obtain ⟨hx4, hm4⟩ := set3 (x := .int .i64 0) (y := .int .i64 0) (z := .slice none 0 0) HXA.out; have hbn : b9 ≠ w.heap.size + 1 := by have := HG9.out; have := HBX.out.sz; omega
  refine bodyPost_ret (v := ansE 0 0) (resAns rfl _ _ _ _ _ _ rfl hx4) rfl ⟨rfl, b9, HD4.out.kept hm4 (fun hh => ?_) (fun k hk hh => ?_), ?_, by have := HG9.out; have := HBX.out.sz; omega⟩
  ·have : B = w.heap.size + 1 := by simpa using hh
   have := HH.out.lt; omega
  ·have e : k = w.heap.size + 1 := by simpa using hh
   subst e
   rcases List.mem_cons.1 hk with e2 | hk2
   ·have := HH.out.all.lt
    omega
   ·obtain ⟨p, hp, he⟩ := List.mem_map.1 hk2
    rcases mem_putA hp with rfl | hp
    ·exact hbn he
    ·have := (HH.out.vol p hp).lt
     omega
  ·exact ((Mods.of_below HBX.out.bel).trans HM5.out (fun i hi => .inl hi)).trans hm4 (fun i hi => .inr (by
    have : i = w.heap.size + 1 := by simpa using hi
    omega))
end Go.Proofs.YthkmihedkddnmaaGreat
