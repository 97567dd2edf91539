import Derived.Test.YtgmahhdnjikdjaaGreatVG9
import Derived.Test.YtgmahhdnjikdjaaGreatVG8
import Derived.Test.YtgmahhdnjikdjaaGreatVG10
set_option linter.unusedVariables false
set_option linter.unusedSimpArgs false
/- super: Of, of what is no superblock (too few metadata blocks), walked. -/
namespace Go.Proofs.YtgmahhdnjikdjaaGreat
open Go.RowKit Wire
set_option linter.unusedVariables false
set_option linter.unusedSimpArgs false
def suZ : List Value := [.int .u64 0, .int .i64 0, .int .i64 0, .int .u32 0, .int .u32 0, .int .u32 0, .int .u32 0, .int .u32 0, .int .u32 0, .int .u32 0, .int .u32 0, .int .u32 0, .int .i64 0, .int .u64 0, .int .u64 0, .int .u64 0, .int .u64 0, .int .u64 0, .bool false]
set_option maxRecDepth 100000 in
set_option maxHeartbeats 12800000 in
theorem sof_bad (w : World) (R : List UInt8) (hrl : R.length = 256) (tx mn dn p0 p1 p2 p3 p4 p5 tp bs sg cn ep la sq bl bq mb : Nat) (hgs : getNs suKs (R.drop 8) = [tx, mn, dn, p0, p1, p2, p3, p4, p5, tp, bs, sg, cn, ep, la, sq, bl, bq, mb]) (m2 : mn < 16) (m4 : dn < 4294967296) (m8 : cn < 4294967296) (q0 : p0 < 4294967296) (q1 : p1 < 4294967296) (q2 : p2 < 4294967296) (q3 : p3 < 4294967296) (q4 : p4 < 4294967296) (q5 : p5 < 4294967296) (w4 : tp < 4294967296) (w5 : bs < 4294967296) (w6 : sg < 4294967296) (hmb1 : mb ≤ 1) :
  Calls Tryz.prog 64 #[bA R] w fun e w' => e = .returned (.tuple #[.agg suZ.toArray, .int .i64 4]) ∧ Below w.heap.size w w' := by
 have HRL := Lib.hid hrl
 obtain ⟨mk, hmk⟩ : ∃ b, (((mb : Nat) : Int) == 1) = b := ⟨_, rfl⟩
 have HMB := Lib.hid hmk
 have CBK : Hid (∀ X, Calls Tryz.prog 65 #[suV (⟨tx, (mn : Int), (dn : Int), [p0, p1, p2, p3, p4, p5], tp, bs, sg, (cn : Int), ep, la, sq, bl, bq, mk⟩ : Su)] X fun e w' => e = .returned (.tuple #[bA (zeros 256), .int .i64 2]) ∧ Below X.heap.size X w') := Lib.hid (fun X => sblock_no X _ (by show (mn : Int) < 16; omega))
 obtain ⟨RZ, hRZ⟩ : ∃ x, zeros 256 = x := ⟨_, rfl⟩
 have HZL : Hid (RZ.length = 256) := Lib.hid (by rw [← hRZ]; exact List.length_replicate)
 rw [hRZ] at CBK
 obtain ⟨g0, g1, g2, g3, g4, g5, g6, g7, g8, g9, g10, g11, g12, g13, g14, g15, g16, g17, g18⟩ := gets_of hgs
 have HG := Lib.hid (And.intro g0 (And.intro g1 (And.intro g2 (And.intro g3 (And.intro g4 (And.intro g5 (And.intro g6 (And.intro g7 g8))))))))
 have HG2 := Lib.hid (And.intro g9 (And.intro g10 (And.intro g11 (And.intro g12 (And.intro g13 (And.intro g14 (And.intro g15 (And.intro g16 (And.intro g17 g18)))))))))
 clear g0 g1 g2 g3 g4 g5 g6 g7 g8 g9 g10 g11 g12 g13 g14 g15 g16 g17 g18 hgs hmk hRZ hrl
 obtain ⟨wa, hwa⟩ : ∃ W, w.alloc (.cells (bV R).toArray 78) = W := ⟨_, rfl⟩
 have hba : Below w.heap.size w wa := by rw [← hwa]; exact balloc (Below.refl _ _) _
 have hxa : BoxB wa w.heap.size R := by unfold BoxB; rw [← hwa]; exact heap_alloc_new _ _
 obtain ⟨wb, hwb⟩ : ∃ W, wa.alloc (.cells #[.int .u64 0, .int .i64 0, .int .i64 0, .int .u32 0, .int .u32 0, .int .u32 0, .int .u32 0, .int .u32 0, .int .u32 0, .int .u32 0, .int .u32 0, .int .u32 0, .int .i64 0, .int .u64 0, .int .u64 0, .int .u64 0, .int .u64 0, .int .u64 0, .bool false] 72) = W := ⟨_, rfl⟩
 have hbb : Below wa.heap.size wa wb := by rw [← hwb]; exact balloc (Below.refl _ _) _
 have hxb : wb.heap[wa.heap.size]? = some (.cells #[.int .u64 0, .int .i64 0, .int .i64 0, .int .u32 0, .int .u32 0, .int .u32 0, .int .u32 0, .int .u32 0, .int .u32 0, .int .u32 0, .int .u32 0, .int .u32 0, .int .i64 0, .int .u64 0, .int .u64 0, .int .u64 0, .int .u64 0, .int .u64 0, .bool false] 72 (0, 0)) := by rw [← hwb]; exact heap_alloc_new _ _
 obtain ⟨wc, hwc⟩ : ∃ W, (wb.alloc (.cells #[.int .i64 8] 3)) = W := ⟨_, rfl⟩
 have hbc : Below wb.heap.size wb wc := by rw [← hwc]; exact balloc (Below.refl _ _) _
 have hxc : wc.heap[wb.heap.size]? = some (.cells #[.int .i64 8] 3 (0, 0)) := by rw [← hwc]; exact heap_alloc_new _ _
 have hmf : ∀ (fn : Fn) (first cap : Array Value) (w : World), (Instr.makeFunc fn first cap).run Tryz.prog w = .ok (.func fn first cap) w := by intros; rfl
 rw [show bA R = .agg (bV R).toArray from rfl]
 go_enter Tryz.func64, Tryz.ntmps64
 go_upto_region 3 with fail
 (try rw [hwa])
 (try rw [hwb])
 (try rw [hwc])
--GEN
 have HNE : Hid (w.heap.size ≠ wb.heap.size ∧ w.heap.size ≠ wa.heap.size ∧ wa.heap.size ∉ [wb.heap.size]) := Lib.hid (by
  have h1 := (Array.getElem?_eq_some_iff.1 hxa).1
  have h2 := (Array.getElem?_eq_some_iff.1 hxb).1
  exact ⟨by omega, by omega, by simp; omega⟩)
 have GSC : Hid (GetS wc w.heap.size wb.heap.size 8 R) := Lib.hid ⟨(hbc.block _ (by have := (Array.getElem?_eq_some_iff.1 hxa).1; have := hbb.size; omega)).trans ((hbb.block _ (Array.getElem?_eq_some_iff.1 hxa).1).trans hxa), hxc⟩
 have HSC : Hid (wc.heap[wa.heap.size]? = some (.cells #[.int .u64 0, .int .i64 0, .int .i64 0, .int .u32 0, .int .u32 0, .int .u32 0, .int .u32 0, .int .u32 0, .int .u32 0, .int .u32 0, .int .u32 0, .int .u32 0, .int .i64 0, .int .u64 0, .int .u64 0, .int .u64 0, .int .u64 0, .int .u64 0, .bool false] 72 (0, 0))) := Lib.hid ((hbc.block _ (Array.getElem?_eq_some_iff.1 hxb).1).trans hxb)
 have HMC : Hid (Mods [wa.heap.size, wb.heap.size] wc wc) := Lib.hid (Mods.refl _ _)
 have HQG : Hid (w.heap.size ≤ wa.heap.size ∧ w.heap.size ≤ wb.heap.size) := Lib.hid ⟨hba.size, Nat.le_trans hba.size hbb.size⟩
 have HBC : Hid (Below w.heap.size w wc) := Lib.hid (bthn hba (bthn hbb hbc))
 clear hxa hxb hxc hwa hwb hwc hba hbb hbc
 have CG := get_next (k := 8) (x := tx) GSC.out HNE.out.1 HRL.out (by omega) (by omega) HG.out.1
 go_wp2_with fail
 refine CG.mono ?_
 rintro e x0 ⟨rfl, hgs, hmm⟩
 have GS0 : Hid (GetS x0 w.heap.size wb.heap.size 16 R) := Lib.hid hgs
 have HS0 : Hid (x0.heap[wa.heap.size]? = some (.cells #[.int .u64 0, .int .i64 0, .int .i64 0, .int .u32 0, .int .u32 0, .int .u32 0, .int .u32 0, .int .u32 0, .int .u32 0, .int .u32 0, .int .u32 0, .int .u32 0, .int .i64 0, .int .u64 0, .int .u64 0, .int .u64 0, .int .u64 0, .int .u64 0, .bool false] 72 (0, 0))) := Lib.hid ((hmm.block _ (Array.getElem?_eq_some_iff.1 HSC.out).1 HNE.out.2.2).trans HSC.out)
 have HM0 : Hid (Mods [wa.heap.size, wb.heap.size] wc x0) := Lib.hid (HMC.out.trans hmm (fun i hi => .inl (List.mem_cons_of_mem _ hi)))
 clear CG hgs hmm
 have CG := get_next (k := 4) (x := mn) GS0.out HNE.out.1 HRL.out (by omega) (by omega) HG.out.2.1
 go_wp2_with fail
 refine CG.mono ?_
 rintro e x1 ⟨rfl, hgs, hmm⟩
 have GS1 : Hid (GetS x1 w.heap.size wb.heap.size 20 R) := Lib.hid hgs
 have HS1 : Hid (x1.heap[wa.heap.size]? = some (.cells #[.int .u64 0, .int .i64 0, .int .i64 0, .int .u32 0, .int .u32 0, .int .u32 0, .int .u32 0, .int .u32 0, .int .u32 0, .int .u32 0, .int .u32 0, .int .u32 0, .int .i64 0, .int .u64 0, .int .u64 0, .int .u64 0, .int .u64 0, .int .u64 0, .bool false] 72 (0, 0))) := Lib.hid ((hmm.block _ (Array.getElem?_eq_some_iff.1 HS0.out).1 HNE.out.2.2).trans HS0.out)
 have HM1 : Hid (Mods [wa.heap.size, wb.heap.size] wc x1) := Lib.hid (HM0.out.trans hmm (fun i hi => .inl (List.mem_cons_of_mem _ hi)))
 clear CG hgs hmm
 have CG := get_next (k := 4) (x := dn) GS1.out HNE.out.1 HRL.out (by omega) (by omega) HG.out.2.2.1
 go_wp2_with fail
 refine CG.mono ?_
 rintro e x2 ⟨rfl, hgs, hmm⟩
 have GS2 : Hid (GetS x2 w.heap.size wb.heap.size 24 R) := Lib.hid hgs
 have HS2 : Hid (x2.heap[wa.heap.size]? = some (.cells #[.int .u64 0, .int .i64 0, .int .i64 0, .int .u32 0, .int .u32 0, .int .u32 0, .int .u32 0, .int .u32 0, .int .u32 0, .int .u32 0, .int .u32 0, .int .u32 0, .int .i64 0, .int .u64 0, .int .u64 0, .int .u64 0, .int .u64 0, .int .u64 0, .bool false] 72 (0, 0))) := Lib.hid ((hmm.block _ (Array.getElem?_eq_some_iff.1 HS1.out).1 HNE.out.2.2).trans HS1.out)
 have HM2 : Hid (Mods [wa.heap.size, wb.heap.size] wc x2) := Lib.hid (HM1.out.trans hmm (fun i hi => .inl (List.mem_cons_of_mem _ hi)))
 clear CG hgs hmm
 have hsx := HS2.out
 have s0 := cellOf hsx 0 (v := .int .u64 0) rfl
 have s1 := cellOf hsx 1 (v := .int .i64 0) rfl
 have s2 := cellOf hsx 2 (v := .int .i64 0) rfl
 have f0 := frozenOf hsx 0
 have f1 := frozenOf hsx 1
 have f2 := frozenOf hsx 2
 clear hsx
 go_wp2_with fail
 obtain ⟨x3, hx3⟩ : ∃ W, ((x2.setCell ⟨wa.heap.size, 0, none⟩ (.int .u64 (tx : Int))).setCell ⟨wa.heap.size, 1, none⟩ (.int .i64 (mn : Int))).setCell ⟨wa.heap.size, 2, none⟩ (.int .i64 (dn : Int)) = W := ⟨_, rfl⟩
 have hm3 : Mods [wa.heap.size] x2 x3 := by rw [← hx3]; exact (((Mods.refl _ _).setCell (p := ⟨wa.heap.size, 0, none⟩) (List.mem_singleton.2 rfl) _).setCell (p := ⟨wa.heap.size, 1, none⟩) (List.mem_singleton.2 rfl) _).setCell (p := ⟨wa.heap.size, 2, none⟩) (List.mem_singleton.2 rfl) _
 have HQN : Hid (wb.heap.size ∉ [wa.heap.size] ∧ w.heap.size ∉ [wa.heap.size]) := Lib.hid ⟨fun h => HNE.out.2.2 (by rw [List.mem_singleton.1 h]; simp), fun h => HNE.out.2.1 (List.mem_singleton.1 h)⟩
 have HS3 : Hid (x3.heap[wa.heap.size]? = some (.cells (SBk tx mn dn p0 p1 p2 p3 p4 p5 0) 72 (0, 0))) := Lib.hid (by rw [← hx3]; exact setOf (setOf (setOf HS2.out 0 _) 1 _) 2 _)
 have GS3 : Hid (GetS x3 w.heap.size wb.heap.size (24 + 4 * 0) R) := Lib.hid (GS2.out.keep hm3 HQN.out.2 HQN.out.1)
 have HM3 : Hid (Mods [wa.heap.size, wb.heap.size] wc x3) := Lib.hid (HM2.out.trans hm3 (fun i hi => .inl (by rw [List.mem_singleton.1 hi]; exact List.mem_cons_self ..)))
 have HPG : Hid (∀ k pk, [p0, p1, p2, p3, p4, p5][k]? = some pk → getN 4 (R.drop (24 + 4 * k)) = pk) := Lib.hid (fun k pk h => by
  have hk := (List.getElem?_eq_some_iff.1 h).1
  have g := HG.out
  rcases (show k = 0 ∨ k = 1 ∨ k = 2 ∨ k = 3 ∨ k = 4 ∨ k = 5 by simp at hk; omega) with rfl | rfl | rfl | rfl | rfl | rfl <;> (obtain rfl := Option.some.inj h)
  ·exact g.2.2.2.1
  ·exact g.2.2.2.2.1
  ·exact g.2.2.2.2.2.1
  ·exact g.2.2.2.2.2.2.1
  ·exact g.2.2.2.2.2.2.2.1
  ·exact g.2.2.2.2.2.2.2.2)
 rw [hx3]
 clear hx3 hm3 s0 s1 s2 f0 f1 f2
 go_loopw [21] (fun v wr => ∃ k : Nat, k ≤ 6 ∧ v = .int .i64 (k : Int) ∧ GetS wr w.heap.size wb.heap.size (24 + 4 * k) R ∧ wr.heap[wa.heap.size]? = some (.cells (SBk tx mn dn p0 p1 p2 p3 p4 p5 k) 72 (0, 0)) ∧ Mods [wa.heap.size, wb.heap.size] wc wr) (fun v _ => 6 - (Go.RowKit.intOf v).toNat)
 case atStart => exact ⟨0, by omega, rfl, GS3.out, HS3.out, HM3.out⟩
 case round =>
  obtain ⟨k, hk, rfl, hgs, hss, hmm⟩ := hrel
  have GSK := Lib.hid hgs
  have HSK := Lib.hid hss
  have HMK := Lib.hid hmm
  clear hgs hss hmm
  by_cases hlt : k < 6
  ·obtain ⟨pk, hpk⟩ : ∃ x, [p0, p1, p2, p3, p4, p5][k]? = some x := ⟨_, List.getElem?_eq_getElem (by simpa using hlt)⟩
   have hpb : pk < 4294967296 := by
    rcases (show k = 0 ∨ k = 1 ∨ k = 2 ∨ k = 3 ∨ k = 4 ∨ k = 5 by omega) with rfl | rfl | rfl | rfl | rfl | rfl <;> (obtain rfl := Option.some.inj hpk; assumption)
   have CG := get_next (k := 4) (x := pk) GSK.out HNE.out.1 HRL.out (by omega) (by omega) (HPG.out k pk hpk)
   have HSB := Lib.hid (sbk_set (tx := tx) (mn := mn) (dn := dn) hlt hpk)
   clear hpk
   go_wp2_with fail
   refine CG.mono ?_
   rintro e x4 ⟨rfl, hgs, hmm⟩
   have hs4 : x4.heap[wa.heap.size]? = some (.cells (SBk tx mn dn p0 p1 p2 p3 p4 p5 k) 72 (0, 0)) := (hmm.block _ (Array.getElem?_eq_some_iff.1 HSK.out).1 HNE.out.2.2).trans HSK.out
   have HM4 : Hid (Mods [wa.heap.size, wb.heap.size] wc x4) := Lib.hid (HMK.out.trans hmm (fun i hi => .inl (List.mem_cons_of_mem _ hi)))
   have HS4 := Lib.hid hs4
   have HGS4 := Lib.hid hgs
   have s3 := cellOf hs4 (3 + k) (v := .int .u32 0) (sbk_get hlt)
   have f3 := frozenOf hs4 (3 + k)
   clear CG hgs hmm hs4
   go_wp2_with fail
   refine ⟨⟨k + 1, by omega, by go_num, ?_, by rw [← HSB.out]; exact setOf HS4.out (3 + k) _, HM4.out.setCell (p := ⟨wa.heap.size, 3 + k, none⟩) (List.mem_cons_self ..) _⟩, by simp [Go.RowKit.intOf]; omega⟩
   have h := HGS4.out.keep ((Mods.refl [wa.heap.size] x4).setCell (p := ⟨wa.heap.size, 3 + k, none⟩) (List.mem_singleton.2 rfl) (.int .u32 (pk : Int))) HQN.out.2 HQN.out.1
   rw [show 24 + 4 * (k + 1) = 24 + 4 * k + 4 by omega]
   exact h
  ·obtain rfl : k = 6 := by omega
   have GS8 : Hid (GetS wr w.heap.size wb.heap.size 48 R) := GSK
   have HS8 : Hid (wr.heap[wa.heap.size]? = some (.cells #[.int .u64 (tx : Int), .int .i64 (mn : Int), .int .i64 (dn : Int), .int .u32 (p0 : Int), .int .u32 (p1 : Int), .int .u32 (p2 : Int), .int .u32 (p3 : Int), .int .u32 (p4 : Int), .int .u32 (p5 : Int), .int .u32 0, .int .u32 0, .int .u32 0, .int .i64 0, .int .u64 0, .int .u64 0, .int .u64 0, .int .u64 0, .int .u64 0, .bool false] 72 (0, 0))) := Lib.hid HSK.out
   have HM8 := HMK
   have hmbe := HMB.out
   have CG := get_next (k := 4) (x := tp) GS8.out HNE.out.1 HRL.out (by omega) (by omega) HG2.out.1
   go_wp2_with fail
   refine CG.mono ?_
   rintro e x9 ⟨rfl, hgs, hmm⟩
   have GS9 : Hid (GetS x9 w.heap.size wb.heap.size 52 R) := Lib.hid hgs
   have HS9 : Hid (x9.heap[wa.heap.size]? = some (.cells #[.int .u64 (tx : Int), .int .i64 (mn : Int), .int .i64 (dn : Int), .int .u32 (p0 : Int), .int .u32 (p1 : Int), .int .u32 (p2 : Int), .int .u32 (p3 : Int), .int .u32 (p4 : Int), .int .u32 (p5 : Int), .int .u32 0, .int .u32 0, .int .u32 0, .int .i64 0, .int .u64 0, .int .u64 0, .int .u64 0, .int .u64 0, .int .u64 0, .bool false] 72 (0, 0))) := Lib.hid ((hmm.block _ (Array.getElem?_eq_some_iff.1 HS8.out).1 HNE.out.2.2).trans HS8.out)
   have HM9 : Hid (Mods [wa.heap.size, wb.heap.size] wc x9) := Lib.hid (HM8.out.trans hmm (fun i hi => .inl (List.mem_cons_of_mem _ hi)))
   clear CG hgs hmm
   have CG := get_next (k := 4) (x := bs) GS9.out HNE.out.1 HRL.out (by omega) (by omega) HG2.out.2.1
   go_wp2_with fail
   refine CG.mono ?_
   rintro e x10 ⟨rfl, hgs, hmm⟩
   have GS10 : Hid (GetS x10 w.heap.size wb.heap.size 56 R) := Lib.hid hgs
   have HS10 : Hid (x10.heap[wa.heap.size]? = some (.cells #[.int .u64 (tx : Int), .int .i64 (mn : Int), .int .i64 (dn : Int), .int .u32 (p0 : Int), .int .u32 (p1 : Int), .int .u32 (p2 : Int), .int .u32 (p3 : Int), .int .u32 (p4 : Int), .int .u32 (p5 : Int), .int .u32 0, .int .u32 0, .int .u32 0, .int .i64 0, .int .u64 0, .int .u64 0, .int .u64 0, .int .u64 0, .int .u64 0, .bool false] 72 (0, 0))) := Lib.hid ((hmm.block _ (Array.getElem?_eq_some_iff.1 HS9.out).1 HNE.out.2.2).trans HS9.out)
   have HM10 : Hid (Mods [wa.heap.size, wb.heap.size] wc x10) := Lib.hid (HM9.out.trans hmm (fun i hi => .inl (List.mem_cons_of_mem _ hi)))
   clear CG hgs hmm
   have CG := get_next (k := 4) (x := sg) GS10.out HNE.out.1 HRL.out (by omega) (by omega) HG2.out.2.2.1
   go_wp2_with fail
   refine CG.mono ?_
   rintro e x11 ⟨rfl, hgs, hmm⟩
   have GS11 : Hid (GetS x11 w.heap.size wb.heap.size 60 R) := Lib.hid hgs
   have HS11 : Hid (x11.heap[wa.heap.size]? = some (.cells #[.int .u64 (tx : Int), .int .i64 (mn : Int), .int .i64 (dn : Int), .int .u32 (p0 : Int), .int .u32 (p1 : Int), .int .u32 (p2 : Int), .int .u32 (p3 : Int), .int .u32 (p4 : Int), .int .u32 (p5 : Int), .int .u32 0, .int .u32 0, .int .u32 0, .int .i64 0, .int .u64 0, .int .u64 0, .int .u64 0, .int .u64 0, .int .u64 0, .bool false] 72 (0, 0))) := Lib.hid ((hmm.block _ (Array.getElem?_eq_some_iff.1 HS10.out).1 HNE.out.2.2).trans HS10.out)
   have HM11 : Hid (Mods [wa.heap.size, wb.heap.size] wc x11) := Lib.hid (HM10.out.trans hmm (fun i hi => .inl (List.mem_cons_of_mem _ hi)))
   clear CG hgs hmm
   have CG := get_next (k := 4) (x := cn) GS11.out HNE.out.1 HRL.out (by omega) (by omega) HG2.out.2.2.2.1
   go_wp2_with fail
   refine CG.mono ?_
   rintro e x12 ⟨rfl, hgs, hmm⟩
   have GS12 : Hid (GetS x12 w.heap.size wb.heap.size 64 R) := Lib.hid hgs
   have HS12 : Hid (x12.heap[wa.heap.size]? = some (.cells #[.int .u64 (tx : Int), .int .i64 (mn : Int), .int .i64 (dn : Int), .int .u32 (p0 : Int), .int .u32 (p1 : Int), .int .u32 (p2 : Int), .int .u32 (p3 : Int), .int .u32 (p4 : Int), .int .u32 (p5 : Int), .int .u32 0, .int .u32 0, .int .u32 0, .int .i64 0, .int .u64 0, .int .u64 0, .int .u64 0, .int .u64 0, .int .u64 0, .bool false] 72 (0, 0))) := Lib.hid ((hmm.block _ (Array.getElem?_eq_some_iff.1 HS11.out).1 HNE.out.2.2).trans HS11.out)
   have HM12 : Hid (Mods [wa.heap.size, wb.heap.size] wc x12) := Lib.hid (HM11.out.trans hmm (fun i hi => .inl (List.mem_cons_of_mem _ hi)))
   clear CG hgs hmm
   have hsx := HS12.out
   have s9 := cellOf hsx 9 (v := .int .u32 0) rfl
   have f9 := frozenOf hsx 9
   have s10 := cellOf hsx 10 (v := .int .u32 0) rfl
   have f10 := frozenOf hsx 10
   have s11 := cellOf hsx 11 (v := .int .u32 0) rfl
   have f11 := frozenOf hsx 11
   have s12 := cellOf hsx 12 (v := .int .i64 0) rfl
   have f12 := frozenOf hsx 12
   clear hsx
   go_upto_region 10 with fail
   obtain ⟨y12, hy⟩ : ∃ W, (((x12.setCell ⟨wa.heap.size, 9, none⟩ (.int .u32 (tp : Int))).setCell ⟨wa.heap.size, 10, none⟩ (.int .u32 (bs : Int))).setCell ⟨wa.heap.size, 11, none⟩ (.int .u32 (sg : Int))).setCell ⟨wa.heap.size, 12, none⟩ (.int .i64 (cn : Int)) = W := ⟨_, rfl⟩
   have hmy : Mods [wa.heap.size] x12 y12 := by rw [← hy]; exact ((((Mods.refl _ _).setCell (p := ⟨wa.heap.size, 9, none⟩) (List.mem_singleton.2 rfl) _).setCell (p := ⟨wa.heap.size, 10, none⟩) (List.mem_singleton.2 rfl) _).setCell (p := ⟨wa.heap.size, 11, none⟩) (List.mem_singleton.2 rfl) _).setCell (p := ⟨wa.heap.size, 12, none⟩) (List.mem_singleton.2 rfl) _
   have HSY : Hid (y12.heap[wa.heap.size]? = some (.cells #[.int .u64 (tx : Int), .int .i64 (mn : Int), .int .i64 (dn : Int), .int .u32 (p0 : Int), .int .u32 (p1 : Int), .int .u32 (p2 : Int), .int .u32 (p3 : Int), .int .u32 (p4 : Int), .int .u32 (p5 : Int), .int .u32 (tp : Int), .int .u32 (bs : Int), .int .u32 (sg : Int), .int .i64 (cn : Int), .int .u64 0, .int .u64 0, .int .u64 0, .int .u64 0, .int .u64 0, .bool false] 72 (0, 0))) := Lib.hid (by rw [← hy]; exact setOf (setOf (setOf (setOf HS12.out 9 _) 10 _) 11 _) 12 _)
   have GSY : Hid (GetS y12 w.heap.size wb.heap.size 64 R) := Lib.hid (GS12.out.keep hmy HQN.out.2 HQN.out.1)
   have HMY : Hid (Mods [wa.heap.size, wb.heap.size] wc y12) := Lib.hid (HM12.out.trans hmy (fun i hi => .inl (by rw [List.mem_singleton.1 hi]; exact List.mem_cons_self ..)))
   rw [hy]
   clear hy hmy s9 s10 s11 s12 f9 f10 f11 f12
   have CG := get_next (k := 8) (x := ep) GSY.out HNE.out.1 HRL.out (by omega) (by omega) HG2.out.2.2.2.2.1
   go_wp2_with fail
   refine CG.mono ?_
   rintro e x13 ⟨rfl, hgs, hmm⟩
   have GS13 : Hid (GetS x13 w.heap.size wb.heap.size 72 R) := Lib.hid hgs
   have HS13 : Hid (x13.heap[wa.heap.size]? = some (.cells #[.int .u64 (tx : Int), .int .i64 (mn : Int), .int .i64 (dn : Int), .int .u32 (p0 : Int), .int .u32 (p1 : Int), .int .u32 (p2 : Int), .int .u32 (p3 : Int), .int .u32 (p4 : Int), .int .u32 (p5 : Int), .int .u32 (tp : Int), .int .u32 (bs : Int), .int .u32 (sg : Int), .int .i64 (cn : Int), .int .u64 0, .int .u64 0, .int .u64 0, .int .u64 0, .int .u64 0, .bool false] 72 (0, 0))) := Lib.hid ((hmm.block _ (Array.getElem?_eq_some_iff.1 HSY.out).1 HNE.out.2.2).trans HSY.out)
   have HM13 : Hid (Mods [wa.heap.size, wb.heap.size] wc x13) := Lib.hid (HMY.out.trans hmm (fun i hi => .inl (List.mem_cons_of_mem _ hi)))
   clear CG hgs hmm
   have CG := get_next (k := 8) (x := la) GS13.out HNE.out.1 HRL.out (by omega) (by omega) HG2.out.2.2.2.2.2.1
   go_wp2_with fail
   refine CG.mono ?_
   rintro e x14 ⟨rfl, hgs, hmm⟩
   have GS14 : Hid (GetS x14 w.heap.size wb.heap.size 80 R) := Lib.hid hgs
   have HS14 : Hid (x14.heap[wa.heap.size]? = some (.cells #[.int .u64 (tx : Int), .int .i64 (mn : Int), .int .i64 (dn : Int), .int .u32 (p0 : Int), .int .u32 (p1 : Int), .int .u32 (p2 : Int), .int .u32 (p3 : Int), .int .u32 (p4 : Int), .int .u32 (p5 : Int), .int .u32 (tp : Int), .int .u32 (bs : Int), .int .u32 (sg : Int), .int .i64 (cn : Int), .int .u64 0, .int .u64 0, .int .u64 0, .int .u64 0, .int .u64 0, .bool false] 72 (0, 0))) := Lib.hid ((hmm.block _ (Array.getElem?_eq_some_iff.1 HS13.out).1 HNE.out.2.2).trans HS13.out)
   have HM14 : Hid (Mods [wa.heap.size, wb.heap.size] wc x14) := Lib.hid (HM13.out.trans hmm (fun i hi => .inl (List.mem_cons_of_mem _ hi)))
   clear CG hgs hmm
   have CG := get_next (k := 8) (x := sq) GS14.out HNE.out.1 HRL.out (by omega) (by omega) HG2.out.2.2.2.2.2.2.1
   go_wp2_with fail
   refine CG.mono ?_
   rintro e x15 ⟨rfl, hgs, hmm⟩
   have GS15 : Hid (GetS x15 w.heap.size wb.heap.size 88 R) := Lib.hid hgs
   have HS15 : Hid (x15.heap[wa.heap.size]? = some (.cells #[.int .u64 (tx : Int), .int .i64 (mn : Int), .int .i64 (dn : Int), .int .u32 (p0 : Int), .int .u32 (p1 : Int), .int .u32 (p2 : Int), .int .u32 (p3 : Int), .int .u32 (p4 : Int), .int .u32 (p5 : Int), .int .u32 (tp : Int), .int .u32 (bs : Int), .int .u32 (sg : Int), .int .i64 (cn : Int), .int .u64 0, .int .u64 0, .int .u64 0, .int .u64 0, .int .u64 0, .bool false] 72 (0, 0))) := Lib.hid ((hmm.block _ (Array.getElem?_eq_some_iff.1 HS14.out).1 HNE.out.2.2).trans HS14.out)
   have HM15 : Hid (Mods [wa.heap.size, wb.heap.size] wc x15) := Lib.hid (HM14.out.trans hmm (fun i hi => .inl (List.mem_cons_of_mem _ hi)))
   clear CG hgs hmm
   have CG := get_next (k := 8) (x := bl) GS15.out HNE.out.1 HRL.out (by omega) (by omega) HG2.out.2.2.2.2.2.2.2.1
   go_wp2_with fail
   refine CG.mono ?_
   rintro e x16 ⟨rfl, hgs, hmm⟩
   have GS16 : Hid (GetS x16 w.heap.size wb.heap.size 96 R) := Lib.hid hgs
   have HS16 : Hid (x16.heap[wa.heap.size]? = some (.cells #[.int .u64 (tx : Int), .int .i64 (mn : Int), .int .i64 (dn : Int), .int .u32 (p0 : Int), .int .u32 (p1 : Int), .int .u32 (p2 : Int), .int .u32 (p3 : Int), .int .u32 (p4 : Int), .int .u32 (p5 : Int), .int .u32 (tp : Int), .int .u32 (bs : Int), .int .u32 (sg : Int), .int .i64 (cn : Int), .int .u64 0, .int .u64 0, .int .u64 0, .int .u64 0, .int .u64 0, .bool false] 72 (0, 0))) := Lib.hid ((hmm.block _ (Array.getElem?_eq_some_iff.1 HS15.out).1 HNE.out.2.2).trans HS15.out)
   have HM16 : Hid (Mods [wa.heap.size, wb.heap.size] wc x16) := Lib.hid (HM15.out.trans hmm (fun i hi => .inl (List.mem_cons_of_mem _ hi)))
   clear CG hgs hmm
   have CG := get_next (k := 8) (x := bq) GS16.out HNE.out.1 HRL.out (by omega) (by omega) HG2.out.2.2.2.2.2.2.2.2.1
   go_wp2_with fail
   refine CG.mono ?_
   rintro e x17 ⟨rfl, hgs, hmm⟩
   have GS17 : Hid (GetS x17 w.heap.size wb.heap.size 104 R) := Lib.hid hgs
   have HS17 : Hid (x17.heap[wa.heap.size]? = some (.cells #[.int .u64 (tx : Int), .int .i64 (mn : Int), .int .i64 (dn : Int), .int .u32 (p0 : Int), .int .u32 (p1 : Int), .int .u32 (p2 : Int), .int .u32 (p3 : Int), .int .u32 (p4 : Int), .int .u32 (p5 : Int), .int .u32 (tp : Int), .int .u32 (bs : Int), .int .u32 (sg : Int), .int .i64 (cn : Int), .int .u64 0, .int .u64 0, .int .u64 0, .int .u64 0, .int .u64 0, .bool false] 72 (0, 0))) := Lib.hid ((hmm.block _ (Array.getElem?_eq_some_iff.1 HS16.out).1 HNE.out.2.2).trans HS16.out)
   have HM17 : Hid (Mods [wa.heap.size, wb.heap.size] wc x17) := Lib.hid (HM16.out.trans hmm (fun i hi => .inl (List.mem_cons_of_mem _ hi)))
   clear CG hgs hmm
   have CG := get_next (k := 1) (x := mb) GS17.out HNE.out.1 HRL.out (by omega) (by omega) HG2.out.2.2.2.2.2.2.2.2.2
   go_wp2_with fail
   refine CG.mono ?_
   rintro e x18 ⟨rfl, hgs, hmm⟩
   have GS18 : Hid (GetS x18 w.heap.size wb.heap.size 105 R) := Lib.hid hgs
   have HS18 : Hid (x18.heap[wa.heap.size]? = some (.cells #[.int .u64 (tx : Int), .int .i64 (mn : Int), .int .i64 (dn : Int), .int .u32 (p0 : Int), .int .u32 (p1 : Int), .int .u32 (p2 : Int), .int .u32 (p3 : Int), .int .u32 (p4 : Int), .int .u32 (p5 : Int), .int .u32 (tp : Int), .int .u32 (bs : Int), .int .u32 (sg : Int), .int .i64 (cn : Int), .int .u64 0, .int .u64 0, .int .u64 0, .int .u64 0, .int .u64 0, .bool false] 72 (0, 0))) := Lib.hid ((hmm.block _ (Array.getElem?_eq_some_iff.1 HS17.out).1 HNE.out.2.2).trans HS17.out)
   have HM18 : Hid (Mods [wa.heap.size, wb.heap.size] wc x18) := Lib.hid (HM17.out.trans hmm (fun i hi => .inl (List.mem_cons_of_mem _ hi)))
   clear CG hgs hmm
   have hsx := HS18.out
   have s13 := cellOf hsx 13 (v := .int .u64 0) rfl
   have f13 := frozenOf hsx 13
   have s14 := cellOf hsx 14 (v := .int .u64 0) rfl
   have f14 := frozenOf hsx 14
   have s15 := cellOf hsx 15 (v := .int .u64 0) rfl
   have f15 := frozenOf hsx 15
   have s16 := cellOf hsx 16 (v := .int .u64 0) rfl
   have f16 := frozenOf hsx 16
   have s17 := cellOf hsx 17 (v := .int .u64 0) rfl
   have f17 := frozenOf hsx 17
   have s18 := cellOf hsx 18 (v := .bool false) rfl
   have f18 := frozenOf hsx 18
   clear hsx
   go_upto_region 11 with fail
   obtain ⟨y18, hy⟩ : ∃ W, ((((((x18.setCell ⟨wa.heap.size, 13, none⟩ (.int .u64 (ep : Int))).setCell ⟨wa.heap.size, 14, none⟩ (.int .u64 (la : Int))).setCell ⟨wa.heap.size, 15, none⟩ (.int .u64 (sq : Int))).setCell ⟨wa.heap.size, 16, none⟩ (.int .u64 (bl : Int))).setCell ⟨wa.heap.size, 17, none⟩ (.int .u64 (bq : Int))).setCell ⟨wa.heap.size, 18, none⟩ (.bool mk)) = W := ⟨_, rfl⟩
   have hmy : Mods [wa.heap.size] x18 y18 := by rw [← hy]; exact (((((((Mods.refl _ _).setCell (p := ⟨wa.heap.size, 13, none⟩) (List.mem_singleton.2 rfl) _).setCell (p := ⟨wa.heap.size, 14, none⟩) (List.mem_singleton.2 rfl) _).setCell (p := ⟨wa.heap.size, 15, none⟩) (List.mem_singleton.2 rfl) _).setCell (p := ⟨wa.heap.size, 16, none⟩) (List.mem_singleton.2 rfl) _).setCell (p := ⟨wa.heap.size, 17, none⟩) (List.mem_singleton.2 rfl) _).setCell (p := ⟨wa.heap.size, 18, none⟩) (List.mem_singleton.2 rfl) _)
   have hsy : y18.heap[wa.heap.size]? = some (.cells (suC tx (mn : Int) (dn : Int) p0 p1 p2 p3 p4 p5 tp bs sg (cn : Int) ep la sq bl bq mk) 72 (0, 0)) := by rw [← hy]; exact (setOf (setOf (setOf (setOf (setOf (setOf HS18.out 13 _) 14 _) 15 _) 16 _) 17 _) 18 _)
   have hxy := GS18.out.keep hmy HQN.out.2 HQN.out.1
   have HMY8 : Hid (Mods [wa.heap.size, wb.heap.size] wc y18) := Lib.hid (HM18.out.trans hmy (fun i hi => .inl (by rw [List.mem_singleton.1 hi]; exact List.mem_cons_self ..)))
   have HRY : Hid (BoxB y18 w.heap.size R) := Lib.hid hxy.1
   obtain ⟨SL, hSL, hSn, hS1⟩ := suV_list (⟨tx, (mn : Int), (dn : Int), [p0, p1, p2, p3, p4, p5], tp, bs, sg, (cn : Int), ep, la, sq, bl, bq, mk⟩ : Su)
   have hse : suC tx (mn : Int) (dn : Int) p0 p1 p2 p3 p4 p5 tp bs sg (cn : Int) ep la sq bl bq mk = SL.toArray := Value.agg.inj hSL
   rw [hse] at hsy
   have HSV := Lib.hid hSL
   have CB := CBK.out y18
   rw [hSL] at CB
   have HSY8 := Lib.hid hsy
   have HIS : Hid ((Tryz.prog.info? 72).map (·.size) = some SL.length) := Lib.hid (by rw [hSn]; exact infoSup)
   have hss : SL.toArray.size = 19 := by rw [List.size_toArray, hSn]
   have HS1 := Lib.hid hS1
   rw [hy]
   clear hy hmy hxy hsy hse hSL hS1 hSn s13 s14 s15 s16 s17 s18 f13 f14 f15 f16 f17 f18 hmbe
   apply wp_region_lit
   repeat (first
    | (refine wpList_load_mid rfl 72 _ rfl wa.heap.size 0 rfl SL _ (rangeOf HSY8.out) Tryz.underlying72 rfl HIS.out ?_)
    | go_step)
   refine CB.mono ?_
   rintro e x19 ⟨rfl, hb19⟩
   dsimp only
   have HB19 := Lib.hid hb19
   have HSU19 : Hid (x19.heap[wa.heap.size]? = some (.cells SL.toArray 72 (0, 0))) := Lib.hid ((hb19.block _ (Array.getElem?_eq_some_iff.1 HSY8.out).1).trans HSY8.out)
   have hrb : (bV RZ).toArray.size = 256 := by rw [List.size_toArray, bV_len, HZL.out]
   have hst := run_storeNew (P := Tryz.prog) x19 78 Tryz.zeroCells78 (bV RZ).toArray (by rw [hrb]; kernel_rfl) (fun u hu => bV_one RZ u (by simpa using hu))
   have hb20 : Below x19.heap.size x19 (x19.alloc (.cells (bV RZ).toArray 78)) := balloc (Below.refl _ _) _
   have HS20 : Hid ((x19.alloc (.cells (bV RZ).toArray 78)).heap[wa.heap.size]? = some (.cells SL.toArray 72 (0, 0))) := Lib.hid ((hb20.block _ (Array.getElem?_eq_some_iff.1 HSU19.out).1).trans HSU19.out)
   have HB20 := Lib.hid hb20
   rw [show bA RZ = .agg (bV RZ).toArray from rfl]
   clear CB hb19 hb20 hmf
   go_upto_region 13 with fail
   apply wp_region_lit
   refine wpL_build0 (by kernel_rfl) 72 rfl suZ.toArray (by kernel_rfl) ?_
   refine wpList_store_mid rfl 72 _ _ rfl wa.heap.size 0 suZ.toArray rfl rfl ?_ ?_ ?_ ?_
   ·exact thereOf HS20.out (by rw [hss]; decide)
   ·exact infoSup
   ·kernel_rfl
   repeat go_step
   refine bodyPost_ret (v := .tuple #[.agg suZ.toArray, .int .i64 4]) (res_sup rfl _ _ wa.heap.size suZ _ rfl rfl (World.rangeAt_setCells_same _ _ _ _ (thereOf HS20.out (by rw [hss]; decide))) infoSup) rfl ⟨rfl, ?_⟩
   have hq1 : w.heap.size ≤ wa.heap.size ∧ w.heap.size ≤ wb.heap.size := HQG.out
   have hbf : Below w.heap.size w y18 := HBC.out.trans (HMY8.out.below (fun k hk => by
    rcases List.mem_cons.1 hk with rfl | hk
    ·exact hq1.1
    ·rw [List.mem_singleton.1 hk]; exact hq1.2) HBC.out.size)
   exact belowSets hq1.1 _ _ _ (bthn hbf (bthn HB19.out HB20.out))
end Go.Proofs.YtgmahhdnjikdjaaGreat
/- super: Save, walked. -/
namespace Go.Proofs.YtgmahhdnjikdjaaGreat
open Go.RowKit Wire
set_option linter.unusedVariables false
set_option linter.unusedSimpArgs false
/-- A disk behind a superblock's save. -/
def Dk.saved (d : Dk) (s : Su) : Dk := { d.wrK (s.tx % 2) s.bytes with jr := [] }
set_option maxRecDepth 100000 in
set_option maxHeartbeats 12800000 in
theorem ssave_at (n0 : Nat) (w : World) (B : Nat) (iv jv : Value) (d : Dk) (h : DkAt n0 w B iv jv d) (hn0 : n0 ≤ w.heap.size) (hl : d.left < 0) (hd : d.dead = false) (s : Su) (hw : s.Wf) (hm : s.May) (hk : 8 ≤ d.img.length) (hn : d.img.length ≤ 1000000) (hj : d.jr.length ≤ 900000) (ZL : List Value) (er : Int) (ho : OfC (rdB d.img (s.tx % 2)) ZL er) :
  Calls Tryz.prog 28 #[.pointer (some ⟨B, 0, none⟩), suV s] w fun e w' => e = .returned (.int .i64 0) ∧ DkAt n0 w' B iv (.slice none 0 0) (d.saved s) ∧ Chg (dF B iv jv) w w' (dF B iv (.slice none 0 0)) := by
 have CBK : Hid (∀ X, Calls Tryz.prog 65 #[suV s] X fun e w' => e = .returned (.tuple #[bA s.bytes, .int .i64 0]) ∧ Below X.heap.size X w') := Lib.hid (fun X => sblock_at X s hw hm)
 have hbl : s.bytes.length = 256 := Su.bytes_len hw.2.1
 have CWI : Hid (∀ X, DkAt n0 X B iv jv d → Calls Tryz.prog 67 #[.pointer (some ⟨B, 0, none⟩), .int .i64 ((s.tx % 2 : Nat) : Int)] X fun e w' => e = .returned (.int .i64 0) ∧ Below X.heap.size X w') := Lib.hid (fun X hX => swipe_at n0 X B iv jv d hX (s.tx % 2) (by omega) hn ZL er ho)
 have CWR : Hid (∀ X, DkAt n0 X B iv jv d → n0 ≤ X.heap.size → Calls Tryz.prog 29 #[.pointer (some ⟨B, 0, none⟩), .int .i64 ((s.tx % 2 : Nat) : Int), .agg (bV s.bytes).toArray] X fun e w' => e = .returned (.int .i64 0) ∧ ∃ jv', DkAt n0 w' B iv jv' (d.wrK (s.tx % 2) s.bytes) ∧ Chg (dF B iv jv) X w' (dF B iv jv')) := Lib.hid (fun X hX hXn => swrite_at n0 X B iv jv d hX hXn hl hd (s.tx % 2) s.bytes hbl (by omega) hn hj)
 have HFL : Hid (∀ X jv', DkAt n0 X B iv jv' (d.wrK (s.tx % 2) s.bytes) → Calls Tryz.prog 60 #[.pointer (some ⟨B, 0, none⟩)] X fun e w' => e = .returned (.int .i64 0) ∧ DkAt n0 w' B iv (.slice none 0 0) (d.saved s) ∧ Mods [B] X w') := Lib.hid (fun X jv' hX => by
  obtain ⟨e1, e2, e3, e4⟩ := d.wrN_at (s.tx % 2) s.bytes 4
  exact dflush_at n0 X B iv jv' (d.wrK (s.tx % 2) s.bytes) hX (by show (d.wrN _ _ 4).left < 0; rw [e2]; exact hl) (by show (d.wrN _ _ 4).dead = false; rw [e3]; exact hd) (by show 0 < (d.wrN _ _ 4).img.length; rw [e1, wrBn_len]; omega))
 have CSC : Hid (∀ X, DkAt n0 X B iv jv d → Calls Tryz.prog 66 #[.pointer (some ⟨B, 0, none⟩)] X fun e w' => e = .returned (.int .i64 (d.img.length : Int)) ∧ X = w') := Lib.hid (fun X hX => dsec_at n0 X B iv jv d hX)
 obtain ⟨n, hnn⟩ : ∃ n, d.img.length = n := ⟨_, rfl⟩
 rw [hnn] at CSC hk
 obtain ⟨b, hb⟩ : ∃ b, s.bytes = b := ⟨_, rfl⟩
 rw [hb] at CBK CWR HFL hbl
 obtain ⟨D', hD'⟩ : ∃ x, d.saved s = x := ⟨_, rfl⟩
 rw [hD'] at HFL ⊢
 have htx := hw.1
 obtain ⟨SL, hSL, hSn, hS1⟩ := suV_list s
 have hs0 : SL[0]? = some (.int .u64 (s.tx : Int)) := by
  have e := congrArg (fun v : Value => v.cells[0]?) hSL
  have e2 : (Value.agg SL.toArray).cells[0]? = SL[0]? := by simp [Value.cells]
  rw [← e2, ← e]
  rfl
 rw [hSL] at CBK ⊢
 obtain ⟨tx, htx2⟩ : ∃ x, s.tx = x := ⟨_, rfl⟩
 rw [htx2] at CWI CWR HFL hs0 htx
 rw [show ((tx % 2 : Nat) : Int) = (tx : Int) % 2 by omega] at CWI CWR
 have HDK := Lib.hid h
 have HN0 := Lib.hid hn0
 have HBL := Lib.hid hbl
 clear hSL hnn hb hD' ho h hw hm hl hd hj hn0 htx2 hbl
 obtain ⟨w1, hw1⟩ : ∃ W, w.alloc (.cells SL.toArray 72) = W := ⟨_, rfl⟩
 have hb1 : Below w.heap.size w w1 := by rw [← hw1]; exact balloc (Below.refl _ _) _
 have hx1 : w1.heap[w.heap.size]? = some (.cells SL.toArray 72 (0, 0)) := by rw [← hw1]; exact heap_alloc_new _ _
 have HB1 := Lib.hid hb1
 have HX1 := Lib.hid hx1
 have HIS : Hid ((Tryz.prog.info? 72).map (·.size) = some SL.length) := Lib.hid (by rw [hSn]; exact infoSup)
 have hrb : (bV b).toArray.size = 256 := by rw [List.size_toArray, bV_len, HBL.out]
 have hw64 : IntKind.i64.wrap ((tx % 2 : Nat) : Int) = ((tx % 2 : Nat) : Int) := IntWalk.i64_in _ ⟨by omega, by omega⟩
 clear hb1 hx1
 go_enter Tryz.func28, Tryz.ntmps28
 go_upto_region 1 with fail
 (try rw [hw1])
 clear hw1
 apply wp_region_lit
 repeat (first
  | (refine wpList_load_mid rfl 72 _ rfl w.heap.size 0 rfl SL _ (rangeOf HX1.out) Tryz.underlying72 rfl HIS.out ?_)
  | go_step)
 refine (CBK.out w1).mono ?_
 rintro e x1 ⟨rfl, hb2⟩
 dsimp only
 have hst := run_storeNew (P := Tryz.prog) x1 78 Tryz.zeroCells78 (bV b).toArray (by rw [hrb]; kernel_rfl) (fun u hu => bV_one b u (by simpa using hu))
 obtain ⟨x2, hx2⟩ : ∃ W, x1.alloc (.cells (bV b).toArray 78) = W := ⟨_, rfl⟩
 have hb3 : Below x1.heap.size x1 x2 := by rw [← hx2]; exact balloc (Below.refl _ _) _
 have HXB : Hid (BoxB x2 x1.heap.size b) := Lib.hid (by unfold BoxB; rw [← hx2]; exact heap_alloc_new _ _)
 have HB2 := Lib.hid (bthn HB1.out (bthn hb2 hb3))
 have HXS : Hid (x2.heap[w.heap.size]? = some (.cells SL.toArray 72 (0, 0))) := Lib.hid (((bthn hb2 hb3).block _ (Array.getElem?_eq_some_iff.1 HX1.out).1).trans HX1.out)
 have t0 := cellOf HXS.out 0 (v := .int .u64 (tx : Int)) (by simpa using hs0)
 have HD2 := Lib.hid (HDK.out.below HB2.out)
 have CS := CSC.out x2 HD2.out
 have CW := CWI.out x2 HD2.out
 rw [show bA b = .agg (bV b).toArray from rfl]
 rw [hx2] at hst
 clear hb2 hb3 hx2
 go_wp2_with fail
 refine CS.mono ?_
 rintro e x3 ⟨rfl, rfl⟩
 clear CS
 go_wp2_with fail
 refine CW.mono ?_
 rintro e x4 ⟨rfl, hb4⟩
 have HB4 := Lib.hid (bthn HB2.out hb4)
 have HX4 : Hid (BoxB x4 x1.heap.size b) := Lib.hid ((hb4.block _ (Array.getElem?_eq_some_iff.1 HXB.out).1).trans HXB.out)
 have HIB : Hid ((Tryz.prog.info? 78).map (·.size) = some (bV b).length) := Lib.hid (by rw [bV_len, HBL.out]; exact infoBlk)
 have CR := CWR.out x4 (HDK.out.below HB4.out) (Nat.le_trans HN0.out HB4.out.size)
 clear CW hb4 hst t0
 go_wp2_with (refine wpList_load_mid rfl 78 _ rfl x1.heap.size 0 rfl (bV b) _ (rangeOf HX4.out) Tryz.underlying78 rfl HIB.out ?_)
 refine CR.mono ?_
 rintro e x5 ⟨rfl, jv', hd5, hc5⟩
 dsimp only
 have HC5 := Lib.hid hc5
 have CF := HFL.out x5 jv' hd5
 clear CR hd5 hc5
 go_wp2_with fail
 refine CF.mono ?_
 rintro e x6 ⟨rfl, hd6, hm6⟩
 have HD6 := Lib.hid hd6
 have HM6 := Lib.hid hm6
 clear CF hd6 hm6
 go_wp2_with fail
 go_ret
 refine ⟨rfl, HD6.out, ?_⟩
 have hc := Chg.pre HB4.out HC5.out
 refine ⟨hc.1.trans HM6.out (fun k hk => ?_), fun k hk => ?_⟩
 ·rw [List.mem_singleton.1 hk]; exact .inl (List.mem_cons_self ..)
 ·rcases List.mem_cons.1 hk with rfl | hk
  ·exact .inl (List.mem_cons_self ..)
  ·rcases List.mem_append.1 hk with hk | hk
   ·exact .inl (List.mem_cons_of_mem _ (List.mem_append_left _ hk))
   ·cases hk
end Go.Proofs.YtgmahhdnjikdjaaGreat
/- What Of answers of a superblock's block, and of noughts. -/
namespace Go.Proofs.YtgmahhdnjikdjaaGreat
open Go.RowKit Wire
set_option linter.unusedVariables false
set_option linter.unusedSimpArgs false
theorem ofr_su (s : Su) (hw : s.Wf) (hm : s.May) : OfR s.bytes s 0 := ⟨.inl rfl, fun X => sof_at X s hw hm⟩
theorem gets_zero : getNs suKs ((zeros 256).drop 8) = [0, 0, 0, 0, 0, 0, 0, 0, 0, 0, 0, 0, 0, 0, 0, 0, 0, 0, 0] := by kernel_rfl
theorem ofr_zero : OfR (zeros 256) suO 4 := ⟨.inr rfl, fun X => sof_bad X (zeros 256) List.length_replicate 0 0 0 0 0 0 0 0 0 0 0 0 0 0 0 0 0 0 0 gets_zero (by omega) (by omega) (by omega) (by omega) (by omega) (by omega) (by omega) (by omega) (by omega) (by omega) (by omega) (by omega) (by omega)⟩
theorem ofr_ofc {b : List UInt8} {S : Su} {er : Int} (h : OfR b S er) (hz : er = 0 ∨ er = 4 ∧ b = zeros 256) : OfC b (suL S) er := ⟨rfl, suL_one S, hz, h.2⟩
end Go.Proofs.YtgmahhdnjikdjaaGreat
