import Derived.Test.YtgmahhdnjikdjaaGreatVG7
import Derived.Test.YtgmahhdnjikdjaaGreatVG11
set_option linter.unusedVariables false
set_option linter.unusedSimpArgs false
/- store: writePages, walked. -/
namespace Go.Proofs.YtgmahhdnjikdjaaGreat
open Go.RowKit Wire
set_option linter.unusedVariables false
set_option linter.unusedSimpArgs false
/-- A page's index, whose counts it has, its bytes. -/
def wpIdx (f i : Nat) : Nat := if f ≤ i then i - f else i
def wpCs (f : Nat) (mcs dcs : List Nat) (i : Nat) : List Nat := if f ≤ i then dcs else mcs
def wpB (pg mcs dcs : List Nat) (i : Nat) : List UInt8 := pageB (pg.getD i 0) (wpIdx (pagesN mcs.length) i) (partC (wpCs (pagesN mcs.length) mcs dcs i) (wpIdx (pagesN mcs.length) i))
theorem wpB_len (pg mcs dcs : List Nat) (i : Nat) : (wpB pg mcs dcs i).length = 256 := pageB_len (by rw [partC_len]; omega)
/-- A disk behind so many pages. -/
def Dk.wpN (d : Dk) (pg mcs dcs : List Nat) : Nat → Dk
 | 0 => d
 | i + 1 => (d.wpN pg mcs dcs i).wrK (2 + pg.getD i 0) (wpB pg mcs dcs i)
theorem Dk.wpN_at (d : Dk) (pg mcs dcs : List Nat) : ∀ i, (d.wpN pg mcs dcs i).img.length = d.img.length ∧ (d.wpN pg mcs dcs i).left = d.left ∧ (d.wpN pg mcs dcs i).dead = d.dead ∧ (d.wpN pg mcs dcs i).jr.length = d.jr.length + 4 * i
 | 0 => ⟨rfl, rfl, rfl, rfl⟩
 | i + 1 => by
  obtain ⟨h1, h2, h3, h4⟩ := Dk.wpN_at d pg mcs dcs i
  obtain ⟨e1, e2, e3, e4⟩ := Dk.wrN_at (d.wpN pg mcs dcs i) (2 + pg.getD i 0) (wpB pg mcs dcs i) 4
  refine ⟨?_, e2.trans h2, e3.trans h3, ?_⟩
  ·show (Dk.wrN _ _ _ 4).img.length = _
   rw [e1, wrBn_len, h1]
  ·show (Dk.wrN _ _ _ 4).jr.length = _
   rw [e4, h4]
   omega
theorem suL_pg (s : Su) {i : Nat} (hi : i < 6) : (suL s)[3 + i]? = some (.int .u32 ((s.pages.getD i 0 : Nat) : Int)) := by
 rcases (show i = 0 ∨ i = 1 ∨ i = 2 ∨ i = 3 ∨ i = 4 ∨ i = 5 by omega) with rfl | rfl | rfl | rfl | rfl | rfl <;> rfl
theorem pagesN_idx {n i : Nat} (h : i < pagesN n) : i * 120 < n := by
 unfold pagesN at h
 split at h <;> omega
theorem own_chg {n0 b : Nat} {w w' : World} {B n : Nat} {iv jv v : Value} {d : Dk} {F' : List Nat} {xs : List Value} (h : DkAt n0 w B iv jv d) (ho : w.ownsRow b 172 1 v n xs) (hc : Chg (dF B iv jv) w w' F') : w'.ownsRow b 172 1 v n xs :=
 ownsRow_at ho (fun k hk => by
  obtain ⟨cs, f, hh⟩ := own_tagS ho k hk
  exact hc.1.block k (ownsRow_lt ho k hk) (h.apart hh (by decide) (by decide) (by decide)))
set_option maxRecDepth 100000 in
set_option maxHeartbeats 12800000 in
theorem swp_at (n0 : Nat) (w : World) (B : Nat) (iv jv : Value) (d : Dk) (h : DkAt n0 w B iv jv d) (hn0 : n0 ≤ w.heap.size) (hl : d.left < 0) (hd : d.dead = false) (s : Su) (hpg : ∀ i, s.pages.getD i 0 < 4294967296) (mv dv : Value) (b1 b2 : Nat) (mcs dcs : List Nat) (hm : w.ownsRow b1 172 1 mv mcs.length (cV mcs)) (hdv : w.ownsRow b2 172 1 dv dcs.length (cV dcs)) (hm1 : 1 ≤ mcs.length ∧ mcs.length ≤ 1000) (hd1 : 1 ≤ dcs.length ∧ dcs.length ≤ 1000) (hmc : ∀ c ∈ mcs, c < 65536) (hdc : ∀ c ∈ dcs, c < 65536) (P : Nat) (hP : pagesN mcs.length + pagesN dcs.length = P) (hP6 : P ≤ 6) (hfit : ∀ i, i < P → (2 + s.pages.getD i 0) * 4 + 4 ≤ d.img.length) (hn : d.img.length ≤ 1000000) (hj : d.jr.length ≤ 800000) :
  Calls Tryz.prog 92 #[.pointer (some ⟨B, 0, none⟩), suV s, mv, dv] w fun e w' => e = .returned (.int .i64 0) ∧ ∃ jv', DkAt n0 w' B iv jv' (d.wpN s.pages mcs dcs P) ∧ Chg (dF B iv jv) w w' (dF B iv jv') := by
 obtain ⟨am, cm, rfl⟩ := rowSl hm
 obtain ⟨ad, cd, rfl⟩ := rowSl hdv
 have CP1 := pages_any w mcs.length (by omega)
 obtain ⟨w1, hw1⟩ : ∃ W, w.alloc (.cells (suL s).toArray 72) = W := ⟨_, rfl⟩
 have hb1 : Below w.heap.size w w1 := by rw [← hw1]; exact balloc (Below.refl _ _) _
 have hx1 : w1.heap[w.heap.size]? = some (.cells (suL s).toArray 72 (0, 0)) := by rw [← hw1]; exact heap_alloc_new _ _
 have CPM := pages_any w1 mcs.length (by omega)
 have CPD := pages_any w1 dcs.length (by omega)
 have HD1 := Lib.hid (h.below hb1)
 have HM1 := Lib.hid (ownsRow_below hm hb1)
 have HDV1 := Lib.hid (ownsRow_below hdv hb1)
 have HB1 := Lib.hid hb1
 have HX1 := Lib.hid hx1
 have HNB := Lib.hid hn0
 have HLD := Lib.hid (And.intro hl hd)
 have HMC := Lib.hid (And.intro hmc hdc)
 have HPG := Lib.hid hpg
 have HFT := Lib.hid hfit
 have HNJ := Lib.hid (And.intro hn hj)
 have HML := Lib.hid hm1
 have HDL := Lib.hid hd1
 obtain ⟨f, hf⟩ : ∃ f, pagesN mcs.length = f := ⟨_, rfl⟩
 obtain ⟨f2, hf2⟩ : ∃ f, pagesN dcs.length = f := ⟨_, rfl⟩
 obtain ⟨ml, hml⟩ : ∃ x, mcs.length = x := ⟨_, rfl⟩
 obtain ⟨dl, hdl⟩ : ∃ x, dcs.length = x := ⟨_, rfl⟩
 have HFF := Lib.hid (And.intro hf hf2)
 have HLE := Lib.hid (And.intro hml hdl)
 rw [hf, hml] at CPM
 rw [hf2, hdl] at CPD
 rw [hf, hf2] at hP
 rw [suL_v, hml, hdl]
 clear h hm hdv hb1 hx1 hn0 hl hd hmc hdc hpg hfit hn hj hf hf2 hml hdl hm1 hd1 CP1
 subst hP
 go_enter Tryz.func92, Tryz.ntmps92
 go_wp2_with fail
 (try rw [hw1])
 clear hw1
 refine CPM.mono ?_
 rintro e w2 ⟨rfl, rfl⟩
 clear CPM
 go_wp2_with fail
 refine CPD.mono ?_
 rintro e w2 ⟨rfl, rfl⟩
 clear CPD
 go_wp2_with fail
 go_loopw [24] (fun v wr => ∃ (i : Nat) (jv' : Value), i ≤ f + f2 ∧ v = .int .i64 (i : Int) ∧ DkAt n0 wr B iv jv' (d.wpN s.pages mcs dcs i) ∧ Chg (dF B iv jv) w1 wr (dF B iv jv') ∧ wr.heap[w.heap.size]? = some (.cells (suL s).toArray 72 (0, 0))) (fun v _ => f + f2 - (Go.RowKit.intOf v).toNat)
 case atStart => exact ⟨0, jv, by omega, rfl, HD1.out, Chg.refl _ _, HX1.out⟩
 case round =>
  obtain ⟨i, jv', hi, rfl, hdk, hch, hx⟩ := hrel
  have HDK := Lib.hid hdk
  have HCH := Lib.hid hch
  have HX := Lib.hid hx
  by_cases hlt : i < f + f2
  ·have HMV : Hid (wr.ownsRow b1 172 1 (.slice am ml cm) mcs.length (cV mcs)) := Lib.hid (by have h1 := own_chg HD1.out HM1.out hch; rw [← HLE.out.1]; exact h1)
   have HDW : Hid (wr.ownsRow b2 172 1 (.slice ad dl cd) dcs.length (cV dcs)) := Lib.hid (by have h1 := own_chg HD1.out HDV1.out hch; rw [← HLE.out.2]; exact h1)
   have hi6 : i < 6 := by omega
   have hi6' : (i : Int) < 6 := by omega
   have HPC : Hid (wr.cell? ⟨w.heap.size, 3 + i, none⟩ = some (.int .u32 ((s.pages.getD i 0 : Nat) : Int))) := Lib.hid (cellOf hx (3 + i) (by rw [List.getElem?_toArray]; exact suL_pg s hi6))
   have HPC1 : Hid (w.heap.size < wr.heap.size) := Lib.hid (Array.getElem?_eq_some_iff.1 hx).1
   have HFI := Lib.hid (HFT.out i hlt)
   have hpl := HPG.out i
   obtain ⟨b, hb⟩ : ∃ b, wpB s.pages mcs dcs i = b := ⟨_, rfl⟩
   have HBL : Hid (b.length = 256) := Lib.hid (by rw [← hb]; exact wpB_len _ _ _ _)
   have HWB : Hid (wpB s.pages mcs dcs i = b) := Lib.hid hb
   obtain ⟨L, hL⟩ : ∃ L, bV b = L := ⟨_, rfl⟩
   have HBV := Lib.hid hL
   have HLL : Hid (L.length = 256) := Lib.hid (by rw [← hL, bV_len, HBL.out])
   have HL1 : Hid (∀ u ∈ L, u.oneCell' = true) := Lib.hid (by rw [← hL]; exact bV_one b)
   obtain ⟨pn, hpn⟩ : ∃ x, s.pages.getD i 0 = x := ⟨_, rfl⟩
   rw [hpn] at HPC HFI hpl
   have HPN := Lib.hid hpn
   have HPB : Hid ((d.wpN s.pages mcs dcs i).wrK (2 + pn) b = d.wpN s.pages mcs dcs (i + 1)) := Lib.hid (by rw [← hpn, ← hb]; rfl)
   have hwr1 : IntKind.i64.wrap (pn : Int) = (pn : Int) := IntWalk.i64_in _ ⟨by omega, by omega⟩
   have hwr2 : IntKind.i64.wrap (2 + (pn : Int)) = 2 + (pn : Int) := IntWalk.i64_in _ ⟨by omega, by omega⟩
   clear hdk hch hx hb hL hpn
   by_cases hfi : f ≤ i
   ·obtain ⟨x, hx⟩ : ∃ x, i = f + x := ⟨i - f, by omega⟩
    have hxe : (i : Int) - (f : Int) = (x : Int) := by omega
    have CP : Hid (∀ X, Below wr.heap.size wr X → Calls Tryz.prog 136 #[.slice ad dl cd, .int .i64 (x : Int)] X fun e w' => ∃ g, e = .returned (.slice (some ⟨g, 0, none⟩) 120 120) ∧ BoxC w' g (partC dcs x) ∧ X.heap.size ≤ g ∧ Below X.heap.size X w') := Lib.hid (fun X hX => ppart_at X x _ dcs.length dcs (Rd.of_own (ownsRow_below HDW.out hX)) HDL.out.2 (pagesN_idx (by rw [HFF.out.2]; omega)))
    have CB : Hid (∀ X g, BoxC X g (partC dcs x) → Calls Tryz.prog 135 #[.int .u32 (pn : Int), .int .i64 (x : Int), .slice (some ⟨g, 0, none⟩) 120 120] X fun e w' => e = .returned (.tuple #[.agg L.toArray, .int .i64 0]) ∧ Below X.heap.size X w') := Lib.hid (fun X g hX => by
     have h1 := pblock_at X pn x hpl (by omega) _ 120 (partC dcs x) (hX.rd (partC_len _ _) (by omega)) (by omega) (partC_lt HMC.out.2 x)
     have e : pageB pn x (partC dcs x) = b := by
      rw [← HWB.out]
      unfold wpB wpIdx wpCs
      rw [HFF.out.1, if_pos hfi, if_pos hfi, HPN.out, show i - f = x by omega]
     rw [e, show bA b = .agg (bV b).toArray from rfl, HBV.out] at h1
     exact h1)
    clear hx
    go_upto_region 8 with fail
    (try rw [hxe])
    clear hxe
    have CW : Hid (∀ X, Chg (dF B iv jv') wr X (dF B iv jv') → DkAt n0 X B iv jv' (d.wpN s.pages mcs dcs i) → Calls Tryz.prog 29 #[.pointer (some ⟨B, 0, none⟩), .int .i64 (2 + (pn : Int)), .agg L.toArray] X fun e w' => e = .returned (.int .i64 0) ∧ ∃ jv'', DkAt n0 w' B iv jv'' (d.wpN s.pages mcs dcs (i + 1)) ∧ Chg (dF B iv jv') X w' (dF B iv jv'')) := Lib.hid (fun X hX hD => by
     obtain ⟨e1, e2, e3, e4⟩ := d.wpN_at s.pages mcs dcs i
     have h1 := swrite_at n0 X B iv jv' (d.wpN s.pages mcs dcs i) hD (Nat.le_trans HNB.out (Nat.le_trans HB1.out.size (Nat.le_trans HCH.out.size hX.size))) (by rw [e2]; exact HLD.out.1) (by rw [e3]; exact HLD.out.2) (2 + pn) b HBL.out (by rw [e1]; exact HFI.out) (by rw [e1]; exact HNJ.out.1) (by rw [e4]; have := HNJ.out.2; omega)
     rw [show ((2 + pn : Nat) : Int) = 2 + (pn : Int) by omega] at h1
     rw [show bV b = L from HBV.out] at h1
     rw [HPB.out] at h1
     exact h1)
    have HSS : Hid (∀ X, Below wr.heap.size wr X → (X.cell? ⟨w.heap.size, 3 + i, none⟩ = some (.int .u32 (pn : Int))) ∧ Below wr.heap.size wr X) := Lib.hid (fun X hb => ⟨(World.cell?_of_block (hb.block _ (HPC1.out))).trans (HPC.out), hb⟩)
    refine wp_region_held_drew (S := fun X => (X.cell? ⟨w.heap.size, 3 + i, none⟩ = some (.int .u32 (pn : Int))) ∧ Below wr.heap.size wr X) (by kernel_rfl) (HSS.out _ (Below.refl _ _).drew) (fun hHeld => ?_)
    have hbe : Below wr.heap.size wr wr.drew := (Below.refl _ _).drew
    obtain ⟨wd, hwd⟩ : ∃ y, wr.drew = y := ⟨_, rfl⟩
    rw [hwd] at hHeld hbe ⊢
    have HBE := Lib.hid hbe
    have HS0 : Hid (wr.heap.size ≤ wd.heap.size) := Lib.hid HBE.out.size
    clear hwd hbe
    refine wpAnyH_take (i := 0) (v := ?_) rfl (by kernel_rfl) (by kernel_rfl) (by kernel_rfl) (fun _ _ _ h => h) (Or.inl ⟨by rfl, ?_⟩) (by assumption) ?_
    rotate_left
    ·(intro w hSw; (try dsimp only at hSw); simp only [List.getElem_toArray, List.getElem_cons_zero, List.getElem_cons_succ]; go_simp; first | done | with_reducible rfl)
    simp only [List.getElem_toArray, List.getElem_cons_zero, List.getElem_cons_succ, Act.put, List.setIfInBounds_toArray, List.set_cons_zero, List.set_cons_succ]
    refine wpAnyH_take (i := 1) (v := ?_) rfl (by kernel_rfl) (by kernel_rfl) (by kernel_rfl) (fun _ _ _ h => h) (Or.inl ⟨by rfl, ?_⟩) (by assumption) ?_
    rotate_left
    ·(intro w hSw; (try dsimp only at hSw); simp only [List.getElem_toArray, List.getElem_cons_zero, List.getElem_cons_succ]; go_simp; first | done | with_reducible rfl)
    simp only [List.getElem_toArray, List.getElem_cons_zero, List.getElem_cons_succ, Act.put, List.setIfInBounds_toArray, List.set_cons_zero, List.set_cons_succ]
    refine wpAnyH_take (i := 4) (v := ?_) rfl (by kernel_rfl) (by kernel_rfl) (by kernel_rfl) (fun _ _ _ h => h) (Or.inl ⟨by rfl, ?_⟩) (by assumption) ?_
    rotate_left
    ·(intro w hSw; (try dsimp only at hSw); simp only [List.getElem_toArray, List.getElem_cons_zero, List.getElem_cons_succ]; go_simp; first | done | with_reducible rfl)
    simp only [List.getElem_toArray, List.getElem_cons_zero, List.getElem_cons_succ, Act.put, List.setIfInBounds_toArray, List.set_cons_zero, List.set_cons_succ]
    refine wpAnyH_take (i := 5) (v := ?_) rfl (by kernel_rfl) (by kernel_rfl) (by kernel_rfl) (fun _ _ _ h => h) (Or.inl ⟨by rfl, ?_⟩) (by assumption) ?_
    rotate_left
    ·(intro w hSw; (try dsimp only at hSw); simp only [List.getElem_toArray, List.getElem_cons_zero, List.getElem_cons_succ]; go_simp; first | done | with_reducible rfl)
    simp only [List.getElem_toArray, List.getElem_cons_zero, List.getElem_cons_succ, Act.put, List.setIfInBounds_toArray, List.set_cons_zero, List.set_cons_succ]
    refine wpAnyH_take (i := 6) (v := ?_) rfl (by kernel_rfl) (by kernel_rfl) (by kernel_rfl) (fun _ _ _ h => h) (Or.inl ⟨by rfl, ?_⟩) (by assumption) ?_
    rotate_left
    ·(intro w hSw; (try dsimp only at hSw); simp only [List.getElem_toArray, List.getElem_cons_zero, List.getElem_cons_succ]; go_simp; first | done | with_reducible rfl)
    simp only [List.getElem_toArray, List.getElem_cons_zero, List.getElem_cons_succ, Act.put, List.setIfInBounds_toArray, List.set_cons_zero, List.set_cons_succ]
    refine wpAnyH_take (i := 2) (v := ?_) rfl (by kernel_rfl) (by kernel_rfl) (by kernel_rfl) (fun _ _ _ h => h) (Or.inl ⟨by rfl, ?_⟩) (by assumption) ?_
    rotate_left
    ·(intro w hSw; (try dsimp only at hSw); simp only [List.getElem_toArray, List.getElem_cons_zero, List.getElem_cons_succ]; go_simp; first | done | with_reducible rfl)
    simp only [List.getElem_toArray, List.getElem_cons_zero, List.getElem_cons_succ, Act.put, List.setIfInBounds_toArray, List.set_cons_zero, List.set_cons_succ]
    refine wpAnyH_take (i := 3) (v := ?_) rfl (by kernel_rfl) (by kernel_rfl) (by kernel_rfl) (fun _ _ _ h => h) (Or.inl ⟨by rfl, ?_⟩) (by assumption) ?_
    rotate_left
    ·(intro w hSw; (try dsimp only at hSw); simp only [List.getElem_toArray, List.getElem_cons_zero, List.getElem_cons_succ]; go_simp; first | done | with_reducible rfl)
    simp only [List.getElem_toArray, List.getElem_cons_zero, List.getElem_cons_succ, Act.put, List.setIfInBounds_toArray, List.set_cons_zero, List.set_cons_succ]
    refine wpAnyH_ready (rs := [7, 12]) (by kernel_rfl) (by simp) ?_
    refine AllReadyH.cons rfl (fun K hK => ?_) (AllReadyH.cons rfl (fun K hK => ?_) (AllReadyH.nil))
    ·skip
     simp only [List.getElem_toArray, List.getElem_cons_zero, List.getElem_cons_succ]
     go_simp
     refine (CP.out _ HBE.out).mono ?_
     rintro e w7 ⟨g7, rfl, hbx7, hge7, hb7⟩
     dsimp only
     have HBE := Lib.hid (bthen HBE.out hb7)
     have hSp := HSS.out _ HBE.out
     clear hHeld
     refine hK.out _ _ hSp (fun hHeld => ?_)
     clear hSp hK K
     try simp only [Act.put, List.setIfInBounds_toArray, List.set_cons_zero, List.set_cons_succ]
     have HBX := Lib.hid hbx7
     clear hbx7 hge7
     have HC7 := Lib.hid hb7
     clear hb7
     refine wpAnyH_ready (rs := [8, 12]) (by kernel_rfl) (by simp) ?_
     refine AllReadyH.cons rfl (fun K hK => ?_) (AllReadyH.cons rfl (fun K hK => ?_) (AllReadyH.nil))
     ·skip
      simp only [List.getElem_toArray, List.getElem_cons_zero, List.getElem_cons_succ]
      go_simp
      refine (CB.out _ _ HBX.out).mono ?_
      rintro e w8 ⟨rfl, hb8⟩
      dsimp only
      have HBE := Lib.hid (bthen HBE.out hb8)
      have hSp := HSS.out _ HBE.out
      clear hHeld
      refine hK.out _ _ hSp (fun hHeld => ?_)
      clear hSp hK K
      try simp only [Act.put, List.setIfInBounds_toArray, List.set_cons_zero, List.set_cons_succ]
      have HBX := Lib.hid ((hb8.block g7 (Array.getElem?_eq_some_iff.1 HBX.out).1).trans HBX.out)
      have HC8 := Lib.hid hb8
      clear hb8
      refine wpAnyH_take (i := 9) (v := ?_) rfl (by kernel_rfl) (by kernel_rfl) (by kernel_rfl) (fun _ _ _ h => h) (Or.inl ⟨by rfl, ?_⟩) (by assumption) ?_
      rotate_left
      ·(intro w hSw; (try dsimp only at hSw); simp only [List.getElem_toArray, List.getElem_cons_zero, List.getElem_cons_succ]; go_simp; first | done | with_reducible rfl)
      simp only [List.getElem_toArray, List.getElem_cons_zero, List.getElem_cons_succ, Act.put, List.setIfInBounds_toArray, List.set_cons_zero, List.set_cons_succ]
      refine wpAnyH_take (i := 10) (v := ?_) rfl (by kernel_rfl) (by kernel_rfl) (by kernel_rfl) (fun _ _ _ h => h) (Or.inl ⟨by rfl, ?_⟩) (by assumption) ?_
      rotate_left
      ·(intro w hSw; (try dsimp only at hSw); simp only [List.getElem_toArray, List.getElem_cons_zero, List.getElem_cons_succ]; go_simp; first | done | with_reducible rfl)
      simp only [List.getElem_toArray, List.getElem_cons_zero, List.getElem_cons_succ, Act.put, List.setIfInBounds_toArray, List.set_cons_zero, List.set_cons_succ]
      refine wpAnyH_take (i := 11) (v := ?_) rfl (by kernel_rfl) (by kernel_rfl) (by kernel_rfl) (fun _ _ _ h => h) (Or.inl ⟨by rfl, ?_⟩) (by assumption) ?_
      rotate_left
      ·(intro w hSw; (try dsimp only at hSw); simp only [List.getElem_toArray, List.getElem_cons_zero, List.getElem_cons_succ]; go_simp; first | done | with_reducible rfl)
      simp only [List.getElem_toArray, List.getElem_cons_zero, List.getElem_cons_succ, Act.put, List.setIfInBounds_toArray, List.set_cons_zero, List.set_cons_succ]
      refine wpAnyH_ready (rs := [12]) (by kernel_rfl) (by simp) ?_
      refine AllReadyH.cons rfl (fun K hK => ?_) (AllReadyH.nil)
      simp only [List.getElem_toArray, List.getElem_cons_zero, List.getElem_cons_succ]
      go_simp
      obtain ⟨b12, hw12⟩ : ∃ b, w8.heap.size = b := ⟨_, rfl⟩
      obtain ⟨y12, hy12⟩ : ∃ y, w8.alloc (.cells Tryz.zeroCells78 78) = y := ⟨_, rfl⟩
      rw [hy12, hw12]
      have hx12 : Below w8.heap.size w8 y12 := by rw [← hy12]; exact balloc (Below.refl _ _) _
      have HN12 : Hid (y12.heap[b12]? = some (.cells Tryz.zeroCells78 78 (0, 0))) := Lib.hid (by rw [← hy12, ← hw12]; exact heap_alloc_new _ _)
      have HG12 : Hid (wr.heap.size ≤ b12) := Lib.hid (by have := HBE.out.size; omega)
      clear hy12 hw12
      have HBE := Lib.hid (bthen HBE.out hx12)
      have hSp := HSS.out _ HBE.out
      clear hHeld
      refine hK.out _ _ hSp (fun hHeld => ?_)
      clear hSp hK K
      try simp only [Act.put, List.setIfInBounds_toArray, List.set_cons_zero, List.set_cons_succ]
      have HBX := Lib.hid ((hx12.block g7 (Array.getElem?_eq_some_iff.1 HBX.out).1).trans HBX.out)
      clear hx12
      refine wpAnyH_ready (rs := [13]) (by kernel_rfl) (by simp) ?_
      refine AllReadyH.cons rfl (fun K hK => ?_) (AllReadyH.nil)
      obtain ⟨w13, hst13, hg13, hm13⟩ := store_at (P := Tryz.prog) y12 b12 78 _ L.toArray HN12.out (by rw [zszM, List.size_toArray, HLL.out]) (fun u hu => HL1.out u (by simpa using hu))
      have hst13' := hst13
      rw [List.toList_toArray] at hst13'
      have hll := HLL.out
      have HBE : Hid (Below wr.heap.size wr w13) := Lib.hid (HBE.out.trans (hm13.below (fun k hk => by have := HG12.out; have e := List.mem_singleton.1 hk; omega) HBE.out.size))
      simp only [List.getElem_toArray, List.getElem_cons_zero, List.getElem_cons_succ]
      go_simp
      refine hK.out _ _ ?_ (fun hHeld => ?_)
      ·exact HSS.out _ HBE.out
      clear hK K
      try simp only [Act.put, List.setIfInBounds_toArray, List.set_cons_zero, List.set_cons_succ]
      have HN12 := Lib.hid hg13
      clear hg13 hm13 hst13 hst13' hll
      refine wpAnyH_take (i := 14) (v := ?_) rfl (by kernel_rfl) (by kernel_rfl) (by kernel_rfl) (fun _ _ _ h => h) (Or.inl ⟨by rfl, ?_⟩) (by assumption) ?_
      rotate_left
      ·(intro w hSw; (try dsimp only at hSw); simp only [List.getElem_toArray, List.getElem_cons_zero, List.getElem_cons_succ]; go_simp; first | done | with_reducible rfl)
      simp only [List.getElem_toArray, List.getElem_cons_zero, List.getElem_cons_succ, Act.put, List.setIfInBounds_toArray, List.set_cons_zero, List.set_cons_succ]
      refine wpAnyH_done (by kernel_rfl) ?_ _
      have HEND := Lib.hid hHeld.2
      have HSE := Lib.hid hHeld.1
      clear hHeld
      clear HSS HEND
      have HPD : Hid (w13.cell? ⟨w.heap.size, 3 + i, none⟩ = some (.int .u32 (pn : Int))) := Lib.hid HSE.out
      have HDK2 := Lib.hid (HDK.out.below HBE.out)
      have HRL : Hid (w13.rangeAt b12 0 L) := Lib.hid (rangeOf HN12.out)
      have HX13 : Hid (w13.heap[w.heap.size]? = some (.cells (suL s).toArray 72 (0, 0))) := Lib.hid ((HBE.out.block _ HPC1.out).trans HX.out)
      have HBG : Hid (w.heap.size < w13.heap.size ∧ w.heap.size ∉ dF B iv jv') := Lib.hid ⟨(Array.getElem?_eq_some_iff.1 HX13.out).1, HDK2.out.apart HX13.out (by decide) (by decide) (by decide)⟩
      have HBG2 : Hid (b12 < w13.heap.size ∧ b12 ∉ dF B iv jv') := Lib.hid ⟨(Array.getElem?_eq_some_iff.1 HN12.out).1, HDK2.out.apart HN12.out (by decide) (by decide) (by decide)⟩
      have HBW := Lib.hid HBE.out
      have HIB : Hid ((Tryz.prog.info? 78).map (·.size) = some L.length) := Lib.hid (by rw [HLL.out]; exact infoBlk)
      clear HSE
      go_wp2_with fail
      have HSS : Hid (∀ X, Mods (dF B iv jv') w13 X → (X.cell? ⟨w.heap.size, 3 + i, none⟩ = some (.int .u32 (pn : Int)) ∧ X.rangeAt b12 0 L) ∧ Mods (dF B iv jv') w13 X) := Lib.hid (fun X hb => ⟨⟨(World.cell?_of_block (hb.block _ (HBG.out.1) (HBG.out.2))).trans (HPD.out), (fun j u hj => (World.cell?_of_block (a := ⟨b12, 0 + j, none⟩) (hb.block b12 HBG2.out.1 HBG2.out.2)).trans (HRL.out j u hj))⟩, hb⟩)
      refine wp_region_held_drew (S := fun X => (X.cell? ⟨w.heap.size, 3 + i, none⟩ = some (.int .u32 (pn : Int)) ∧ X.rangeAt b12 0 L) ∧ Mods (dF B iv jv') w13 X) (by kernel_rfl) (HSS.out _ (Mods.of_below (Below.refl _ _).drew)) (fun hHeld => ?_)
      have hbe : Below w13.heap.size w13 w13.drew := (Below.refl _ _).drew
      obtain ⟨wd, hwd⟩ : ∃ y, w13.drew = y := ⟨_, rfl⟩
      rw [hwd] at hHeld hbe ⊢
      have HBE := Lib.hid hbe
      have HS0 : Hid (w13.heap.size ≤ wd.heap.size) := Lib.hid HBE.out.size
      clear hwd hbe
      refine wpAnyH_take (i := 0) (v := ?_) rfl (by kernel_rfl) (by kernel_rfl) (by kernel_rfl) (fun _ _ _ h => h) (Or.inl ⟨by rfl, ?_⟩) (by assumption) ?_
      rotate_left
      ·(intro w hSw; (try dsimp only at hSw); simp only [List.getElem_toArray, List.getElem_cons_zero, List.getElem_cons_succ]; go_simp; first | done | with_reducible rfl)
      simp only [List.getElem_toArray, List.getElem_cons_zero, List.getElem_cons_succ, Act.put, List.setIfInBounds_toArray, List.set_cons_zero, List.set_cons_succ]
      refine wpAnyH_take (i := 1) (v := ?_) rfl (by kernel_rfl) (by kernel_rfl) (by kernel_rfl) (fun _ _ _ h => h) (Or.inl ⟨by rfl, ?_⟩) (by assumption) ?_
      rotate_left
      ·(intro w hSw; (try dsimp only at hSw); simp only [List.getElem_toArray, List.getElem_cons_zero, List.getElem_cons_succ]; go_simp; first | done | with_reducible rfl)
      simp only [List.getElem_toArray, List.getElem_cons_zero, List.getElem_cons_succ, Act.put, List.setIfInBounds_toArray, List.set_cons_zero, List.set_cons_succ]
      refine wpAnyH_take (i := 2) (v := ?_) rfl (by kernel_rfl) (by kernel_rfl) (by kernel_rfl) (fun _ _ _ h => h) (Or.inl ⟨by rfl, ?_⟩) (by assumption) ?_
      rotate_left
      ·(intro w hSw; (try dsimp only at hSw); simp only [List.getElem_toArray, List.getElem_cons_zero, List.getElem_cons_succ]; go_simp; first | done | with_reducible rfl)
      simp only [List.getElem_toArray, List.getElem_cons_zero, List.getElem_cons_succ, Act.put, List.setIfInBounds_toArray, List.set_cons_zero, List.set_cons_succ]
      refine wpAnyH_take (i := 7) (v := _) rfl (by kernel_rfl) (by kernel_rfl) (by kernel_rfl) (fun _ _ _ h => h) (yieldsIf_load_mid (by rfl) 78 _ rfl (b12) (0) rfl (L) _ (fun w hSw => hSw.1.2) (Tryz.underlying78) rfl (HIB.out)) (by assumption) ?_
      simp only [List.getElem_toArray, List.getElem_cons_zero, List.getElem_cons_succ, Act.put, List.setIfInBounds_toArray, List.set_cons_zero, List.set_cons_succ]
      refine wpAnyH_take (i := 3) (v := ?_) rfl (by kernel_rfl) (by kernel_rfl) (by kernel_rfl) (fun _ _ _ h => h) (Or.inl ⟨by rfl, ?_⟩) (by assumption) ?_
      rotate_left
      ·(intro w hSw; (try dsimp only at hSw); simp only [List.getElem_toArray, List.getElem_cons_zero, List.getElem_cons_succ]; go_simp; first | done | with_reducible rfl)
      simp only [List.getElem_toArray, List.getElem_cons_zero, List.getElem_cons_succ, Act.put, List.setIfInBounds_toArray, List.set_cons_zero, List.set_cons_succ]
      refine wpAnyH_take (i := 4) (v := ?_) rfl (by kernel_rfl) (by kernel_rfl) (by kernel_rfl) (fun _ _ _ h => h) (Or.inl ⟨by rfl, ?_⟩) (by assumption) ?_
      rotate_left
      ·(intro w hSw; (try dsimp only at hSw); simp only [List.getElem_toArray, List.getElem_cons_zero, List.getElem_cons_succ]; go_simp; first | done | with_reducible rfl)
      simp only [List.getElem_toArray, List.getElem_cons_zero, List.getElem_cons_succ, Act.put, List.setIfInBounds_toArray, List.set_cons_zero, List.set_cons_succ]
      refine wpAnyH_take (i := 5) (v := ?_) rfl (by kernel_rfl) (by kernel_rfl) (by kernel_rfl) (fun _ _ _ h => h) (Or.inl ⟨by rfl, ?_⟩) (by assumption) ?_
      rotate_left
      ·(intro w hSw; (try dsimp only at hSw); simp only [List.getElem_toArray, List.getElem_cons_zero, List.getElem_cons_succ]; go_simp; first | done | with_reducible rfl)
      simp only [List.getElem_toArray, List.getElem_cons_zero, List.getElem_cons_succ, Act.put, List.setIfInBounds_toArray, List.set_cons_zero, List.set_cons_succ]
      refine wpAnyH_take (i := 6) (v := ?_) rfl (by kernel_rfl) (by kernel_rfl) (by kernel_rfl) (fun _ _ _ h => h) (Or.inl ⟨by rfl, ?_⟩) (by assumption) ?_
      rotate_left
      ·(intro w hSw; (try dsimp only at hSw); simp only [List.getElem_toArray, List.getElem_cons_zero, List.getElem_cons_succ]; go_simp; first | done | with_reducible rfl)
      simp only [List.getElem_toArray, List.getElem_cons_zero, List.getElem_cons_succ, Act.put, List.setIfInBounds_toArray, List.set_cons_zero, List.set_cons_succ]
      refine wpAnyH_ready (rs := [8]) (by kernel_rfl) (by simp) ?_
      refine AllReadyH.cons rfl (fun K hK => ?_) (AllReadyH.nil)
      simp only [List.getElem_toArray, List.getElem_cons_zero, List.getElem_cons_succ]
      go_simp
      refine (CW.out _ (Chg.of_below (bthn HBW.out HBE.out)) (HDK2.out.below HBE.out)).mono ?_
      rintro e w9 ⟨rfl, jv2, hd2, hc2⟩
      dsimp only
      refine hK.out _ _ ?_ (fun hHeld => ?_)
      ·exact HSS.out _ ((Mods.of_below HBE.out).trans hc2.1 (fun k hk => .inl hk))
      clear hK K
      try simp only [Act.put, List.setIfInBounds_toArray, List.set_cons_zero, List.set_cons_succ]
      have HD9 := Lib.hid hd2
      have HC9 : Hid (Chg (dF B iv jv') wr w9 (dF B iv jv2)) := Lib.hid (Chg.pre (bthn HBW.out HBE.out) hc2)
      clear hd2 hc2
      refine wpAnyH_take (i := 9) (v := ?_) rfl (by kernel_rfl) (by kernel_rfl) (by kernel_rfl) (fun _ _ _ h => h) (Or.inl ⟨by rfl, ?_⟩) (by assumption) ?_
      rotate_left
      ·(intro w hSw; (try dsimp only at hSw); simp only [List.getElem_toArray, List.getElem_cons_zero, List.getElem_cons_succ]; go_simp; first | done | with_reducible rfl)
      simp only [List.getElem_toArray, List.getElem_cons_zero, List.getElem_cons_succ, Act.put, List.setIfInBounds_toArray, List.set_cons_zero, List.set_cons_succ]
      refine wpAnyH_done (by kernel_rfl) ?_ _
      have HEND := Lib.hid hHeld.2
      have HSE := Lib.hid hHeld.1
      clear hHeld
      clear HSS HSE HEND
      have HX9 : Hid (w9.heap[w.heap.size]? = some (.cells (suL s).toArray 72 (0, 0))) := Lib.hid ((HC9.out.1.block _ HPC1.out HBG.out.2).trans HX.out)
      go_wp2_with fail
      go_roundw
      case rel => exact ⟨i + 1, jv2, by omega, by go_num, HD9.out, HCH.out.trans HC9.out, HX9.out⟩
      case measure => simp [Go.RowKit.intOf]; omega
     ·skip
      simp only [List.getElem_toArray, List.getElem_cons_zero, List.getElem_cons_succ]
      go_simp
      obtain ⟨b12, hw12⟩ : ∃ b, w7.heap.size = b := ⟨_, rfl⟩
      obtain ⟨y12, hy12⟩ : ∃ y, w7.alloc (.cells Tryz.zeroCells78 78) = y := ⟨_, rfl⟩
      rw [hy12, hw12]
      have hx12 : Below w7.heap.size w7 y12 := by rw [← hy12]; exact balloc (Below.refl _ _) _
      have HN12 : Hid (y12.heap[b12]? = some (.cells Tryz.zeroCells78 78 (0, 0))) := Lib.hid (by rw [← hy12, ← hw12]; exact heap_alloc_new _ _)
      have HG12 : Hid (wr.heap.size ≤ b12) := Lib.hid (by have := HBE.out.size; omega)
      clear hy12 hw12
      have HBE := Lib.hid (bthen HBE.out hx12)
      have hSp := HSS.out _ HBE.out
      clear hHeld
      refine hK.out _ _ hSp (fun hHeld => ?_)
      clear hSp hK K
      try simp only [Act.put, List.setIfInBounds_toArray, List.set_cons_zero, List.set_cons_succ]
      have HBX := Lib.hid ((hx12.block g7 (Array.getElem?_eq_some_iff.1 HBX.out).1).trans HBX.out)
      clear hx12
      refine wpAnyH_ready (rs := [8]) (by kernel_rfl) (by simp) ?_
      refine AllReadyH.cons rfl (fun K hK => ?_) (AllReadyH.nil)
      simp only [List.getElem_toArray, List.getElem_cons_zero, List.getElem_cons_succ]
      go_simp
      refine (CB.out _ _ HBX.out).mono ?_
      rintro e w8 ⟨rfl, hb8⟩
      dsimp only
      have HBE := Lib.hid (bthen HBE.out hb8)
      have hSp := HSS.out _ HBE.out
      clear hHeld
      refine hK.out _ _ hSp (fun hHeld => ?_)
      clear hSp hK K
      try simp only [Act.put, List.setIfInBounds_toArray, List.set_cons_zero, List.set_cons_succ]
      have HN12 := Lib.hid ((hb8.block b12 (Array.getElem?_eq_some_iff.1 HN12.out).1).trans HN12.out)
      have HBX := Lib.hid ((hb8.block g7 (Array.getElem?_eq_some_iff.1 HBX.out).1).trans HBX.out)
      have HC8 := Lib.hid hb8
      clear hb8
      refine wpAnyH_take (i := 9) (v := ?_) rfl (by kernel_rfl) (by kernel_rfl) (by kernel_rfl) (fun _ _ _ h => h) (Or.inl ⟨by rfl, ?_⟩) (by assumption) ?_
      rotate_left
      ·(intro w hSw; (try dsimp only at hSw); simp only [List.getElem_toArray, List.getElem_cons_zero, List.getElem_cons_succ]; go_simp; first | done | with_reducible rfl)
      simp only [List.getElem_toArray, List.getElem_cons_zero, List.getElem_cons_succ, Act.put, List.setIfInBounds_toArray, List.set_cons_zero, List.set_cons_succ]
      refine wpAnyH_take (i := 10) (v := ?_) rfl (by kernel_rfl) (by kernel_rfl) (by kernel_rfl) (fun _ _ _ h => h) (Or.inl ⟨by rfl, ?_⟩) (by assumption) ?_
      rotate_left
      ·(intro w hSw; (try dsimp only at hSw); simp only [List.getElem_toArray, List.getElem_cons_zero, List.getElem_cons_succ]; go_simp; first | done | with_reducible rfl)
      simp only [List.getElem_toArray, List.getElem_cons_zero, List.getElem_cons_succ, Act.put, List.setIfInBounds_toArray, List.set_cons_zero, List.set_cons_succ]
      refine wpAnyH_take (i := 11) (v := ?_) rfl (by kernel_rfl) (by kernel_rfl) (by kernel_rfl) (fun _ _ _ h => h) (Or.inl ⟨by rfl, ?_⟩) (by assumption) ?_
      rotate_left
      ·(intro w hSw; (try dsimp only at hSw); simp only [List.getElem_toArray, List.getElem_cons_zero, List.getElem_cons_succ]; go_simp; first | done | with_reducible rfl)
      simp only [List.getElem_toArray, List.getElem_cons_zero, List.getElem_cons_succ, Act.put, List.setIfInBounds_toArray, List.set_cons_zero, List.set_cons_succ]
      refine wpAnyH_ready (rs := [13]) (by kernel_rfl) (by simp) ?_
      refine AllReadyH.cons rfl (fun K hK => ?_) (AllReadyH.nil)
      obtain ⟨w13, hst13, hg13, hm13⟩ := store_at (P := Tryz.prog) w8 b12 78 _ L.toArray HN12.out (by rw [zszM, List.size_toArray, HLL.out]) (fun u hu => HL1.out u (by simpa using hu))
      have hst13' := hst13
      rw [List.toList_toArray] at hst13'
      have hll := HLL.out
      have HBE : Hid (Below wr.heap.size wr w13) := Lib.hid (HBE.out.trans (hm13.below (fun k hk => by have := HG12.out; have e := List.mem_singleton.1 hk; omega) HBE.out.size))
      simp only [List.getElem_toArray, List.getElem_cons_zero, List.getElem_cons_succ]
      go_simp
      refine hK.out _ _ ?_ (fun hHeld => ?_)
      ·exact HSS.out _ HBE.out
      clear hK K
      try simp only [Act.put, List.setIfInBounds_toArray, List.set_cons_zero, List.set_cons_succ]
      have HN12 := Lib.hid hg13
      clear hg13 hm13 hst13 hst13' hll
      refine wpAnyH_take (i := 14) (v := ?_) rfl (by kernel_rfl) (by kernel_rfl) (by kernel_rfl) (fun _ _ _ h => h) (Or.inl ⟨by rfl, ?_⟩) (by assumption) ?_
      rotate_left
      ·(intro w hSw; (try dsimp only at hSw); simp only [List.getElem_toArray, List.getElem_cons_zero, List.getElem_cons_succ]; go_simp; first | done | with_reducible rfl)
      simp only [List.getElem_toArray, List.getElem_cons_zero, List.getElem_cons_succ, Act.put, List.setIfInBounds_toArray, List.set_cons_zero, List.set_cons_succ]
      refine wpAnyH_done (by kernel_rfl) ?_ _
      have HEND := Lib.hid hHeld.2
      have HSE := Lib.hid hHeld.1
      clear hHeld
      clear HSS HEND
      have HPD : Hid (w13.cell? ⟨w.heap.size, 3 + i, none⟩ = some (.int .u32 (pn : Int))) := Lib.hid HSE.out
      have HDK2 := Lib.hid (HDK.out.below HBE.out)
      have HRL : Hid (w13.rangeAt b12 0 L) := Lib.hid (rangeOf HN12.out)
      have HX13 : Hid (w13.heap[w.heap.size]? = some (.cells (suL s).toArray 72 (0, 0))) := Lib.hid ((HBE.out.block _ HPC1.out).trans HX.out)
      have HBG : Hid (w.heap.size < w13.heap.size ∧ w.heap.size ∉ dF B iv jv') := Lib.hid ⟨(Array.getElem?_eq_some_iff.1 HX13.out).1, HDK2.out.apart HX13.out (by decide) (by decide) (by decide)⟩
      have HBG2 : Hid (b12 < w13.heap.size ∧ b12 ∉ dF B iv jv') := Lib.hid ⟨(Array.getElem?_eq_some_iff.1 HN12.out).1, HDK2.out.apart HN12.out (by decide) (by decide) (by decide)⟩
      have HBW := Lib.hid HBE.out
      have HIB : Hid ((Tryz.prog.info? 78).map (·.size) = some L.length) := Lib.hid (by rw [HLL.out]; exact infoBlk)
      clear HSE
      go_wp2_with fail
      have HSS : Hid (∀ X, Mods (dF B iv jv') w13 X → (X.cell? ⟨w.heap.size, 3 + i, none⟩ = some (.int .u32 (pn : Int)) ∧ X.rangeAt b12 0 L) ∧ Mods (dF B iv jv') w13 X) := Lib.hid (fun X hb => ⟨⟨(World.cell?_of_block (hb.block _ (HBG.out.1) (HBG.out.2))).trans (HPD.out), (fun j u hj => (World.cell?_of_block (a := ⟨b12, 0 + j, none⟩) (hb.block b12 HBG2.out.1 HBG2.out.2)).trans (HRL.out j u hj))⟩, hb⟩)
      refine wp_region_held_drew (S := fun X => (X.cell? ⟨w.heap.size, 3 + i, none⟩ = some (.int .u32 (pn : Int)) ∧ X.rangeAt b12 0 L) ∧ Mods (dF B iv jv') w13 X) (by kernel_rfl) (HSS.out _ (Mods.of_below (Below.refl _ _).drew)) (fun hHeld => ?_)
      have hbe : Below w13.heap.size w13 w13.drew := (Below.refl _ _).drew
      obtain ⟨wd, hwd⟩ : ∃ y, w13.drew = y := ⟨_, rfl⟩
      rw [hwd] at hHeld hbe ⊢
      have HBE := Lib.hid hbe
      have HS0 : Hid (w13.heap.size ≤ wd.heap.size) := Lib.hid HBE.out.size
      clear hwd hbe
      refine wpAnyH_take (i := 0) (v := ?_) rfl (by kernel_rfl) (by kernel_rfl) (by kernel_rfl) (fun _ _ _ h => h) (Or.inl ⟨by rfl, ?_⟩) (by assumption) ?_
      rotate_left
      ·(intro w hSw; (try dsimp only at hSw); simp only [List.getElem_toArray, List.getElem_cons_zero, List.getElem_cons_succ]; go_simp; first | done | with_reducible rfl)
      simp only [List.getElem_toArray, List.getElem_cons_zero, List.getElem_cons_succ, Act.put, List.setIfInBounds_toArray, List.set_cons_zero, List.set_cons_succ]
      refine wpAnyH_take (i := 1) (v := ?_) rfl (by kernel_rfl) (by kernel_rfl) (by kernel_rfl) (fun _ _ _ h => h) (Or.inl ⟨by rfl, ?_⟩) (by assumption) ?_
      rotate_left
      ·(intro w hSw; (try dsimp only at hSw); simp only [List.getElem_toArray, List.getElem_cons_zero, List.getElem_cons_succ]; go_simp; first | done | with_reducible rfl)
      simp only [List.getElem_toArray, List.getElem_cons_zero, List.getElem_cons_succ, Act.put, List.setIfInBounds_toArray, List.set_cons_zero, List.set_cons_succ]
      refine wpAnyH_take (i := 2) (v := ?_) rfl (by kernel_rfl) (by kernel_rfl) (by kernel_rfl) (fun _ _ _ h => h) (Or.inl ⟨by rfl, ?_⟩) (by assumption) ?_
      rotate_left
      ·(intro w hSw; (try dsimp only at hSw); simp only [List.getElem_toArray, List.getElem_cons_zero, List.getElem_cons_succ]; go_simp; first | done | with_reducible rfl)
      simp only [List.getElem_toArray, List.getElem_cons_zero, List.getElem_cons_succ, Act.put, List.setIfInBounds_toArray, List.set_cons_zero, List.set_cons_succ]
      refine wpAnyH_take (i := 7) (v := _) rfl (by kernel_rfl) (by kernel_rfl) (by kernel_rfl) (fun _ _ _ h => h) (yieldsIf_load_mid (by rfl) 78 _ rfl (b12) (0) rfl (L) _ (fun w hSw => hSw.1.2) (Tryz.underlying78) rfl (HIB.out)) (by assumption) ?_
      simp only [List.getElem_toArray, List.getElem_cons_zero, List.getElem_cons_succ, Act.put, List.setIfInBounds_toArray, List.set_cons_zero, List.set_cons_succ]
      refine wpAnyH_take (i := 3) (v := ?_) rfl (by kernel_rfl) (by kernel_rfl) (by kernel_rfl) (fun _ _ _ h => h) (Or.inl ⟨by rfl, ?_⟩) (by assumption) ?_
      rotate_left
      ·(intro w hSw; (try dsimp only at hSw); simp only [List.getElem_toArray, List.getElem_cons_zero, List.getElem_cons_succ]; go_simp; first | done | with_reducible rfl)
      simp only [List.getElem_toArray, List.getElem_cons_zero, List.getElem_cons_succ, Act.put, List.setIfInBounds_toArray, List.set_cons_zero, List.set_cons_succ]
      refine wpAnyH_take (i := 4) (v := ?_) rfl (by kernel_rfl) (by kernel_rfl) (by kernel_rfl) (fun _ _ _ h => h) (Or.inl ⟨by rfl, ?_⟩) (by assumption) ?_
      rotate_left
      ·(intro w hSw; (try dsimp only at hSw); simp only [List.getElem_toArray, List.getElem_cons_zero, List.getElem_cons_succ]; go_simp; first | done | with_reducible rfl)
      simp only [List.getElem_toArray, List.getElem_cons_zero, List.getElem_cons_succ, Act.put, List.setIfInBounds_toArray, List.set_cons_zero, List.set_cons_succ]
      refine wpAnyH_take (i := 5) (v := ?_) rfl (by kernel_rfl) (by kernel_rfl) (by kernel_rfl) (fun _ _ _ h => h) (Or.inl ⟨by rfl, ?_⟩) (by assumption) ?_
      rotate_left
      ·(intro w hSw; (try dsimp only at hSw); simp only [List.getElem_toArray, List.getElem_cons_zero, List.getElem_cons_succ]; go_simp; first | done | with_reducible rfl)
      simp only [List.getElem_toArray, List.getElem_cons_zero, List.getElem_cons_succ, Act.put, List.setIfInBounds_toArray, List.set_cons_zero, List.set_cons_succ]
      refine wpAnyH_take (i := 6) (v := ?_) rfl (by kernel_rfl) (by kernel_rfl) (by kernel_rfl) (fun _ _ _ h => h) (Or.inl ⟨by rfl, ?_⟩) (by assumption) ?_
      rotate_left
      ·(intro w hSw; (try dsimp only at hSw); simp only [List.getElem_toArray, List.getElem_cons_zero, List.getElem_cons_succ]; go_simp; first | done | with_reducible rfl)
      simp only [List.getElem_toArray, List.getElem_cons_zero, List.getElem_cons_succ, Act.put, List.setIfInBounds_toArray, List.set_cons_zero, List.set_cons_succ]
      refine wpAnyH_ready (rs := [8]) (by kernel_rfl) (by simp) ?_
      refine AllReadyH.cons rfl (fun K hK => ?_) (AllReadyH.nil)
      simp only [List.getElem_toArray, List.getElem_cons_zero, List.getElem_cons_succ]
      go_simp
      refine (CW.out _ (Chg.of_below (bthn HBW.out HBE.out)) (HDK2.out.below HBE.out)).mono ?_
      rintro e w9 ⟨rfl, jv2, hd2, hc2⟩
      dsimp only
      refine hK.out _ _ ?_ (fun hHeld => ?_)
      ·exact HSS.out _ ((Mods.of_below HBE.out).trans hc2.1 (fun k hk => .inl hk))
      clear hK K
      try simp only [Act.put, List.setIfInBounds_toArray, List.set_cons_zero, List.set_cons_succ]
      have HD9 := Lib.hid hd2
      have HC9 : Hid (Chg (dF B iv jv') wr w9 (dF B iv jv2)) := Lib.hid (Chg.pre (bthn HBW.out HBE.out) hc2)
      clear hd2 hc2
      refine wpAnyH_take (i := 9) (v := ?_) rfl (by kernel_rfl) (by kernel_rfl) (by kernel_rfl) (fun _ _ _ h => h) (Or.inl ⟨by rfl, ?_⟩) (by assumption) ?_
      rotate_left
      ·(intro w hSw; (try dsimp only at hSw); simp only [List.getElem_toArray, List.getElem_cons_zero, List.getElem_cons_succ]; go_simp; first | done | with_reducible rfl)
      simp only [List.getElem_toArray, List.getElem_cons_zero, List.getElem_cons_succ, Act.put, List.setIfInBounds_toArray, List.set_cons_zero, List.set_cons_succ]
      refine wpAnyH_done (by kernel_rfl) ?_ _
      have HEND := Lib.hid hHeld.2
      have HSE := Lib.hid hHeld.1
      clear hHeld
      clear HSS HSE HEND
      have HX9 : Hid (w9.heap[w.heap.size]? = some (.cells (suL s).toArray 72 (0, 0))) := Lib.hid ((HC9.out.1.block _ HPC1.out HBG.out.2).trans HX.out)
      go_wp2_with fail
      go_roundw
      case rel => exact ⟨i + 1, jv2, by omega, by go_num, HD9.out, HCH.out.trans HC9.out, HX9.out⟩
      case measure => simp [Go.RowKit.intOf]; omega
    ·skip
     simp only [List.getElem_toArray, List.getElem_cons_zero, List.getElem_cons_succ]
     go_simp
     obtain ⟨b12, hw12⟩ : ∃ b, wd.heap.size = b := ⟨_, rfl⟩
     obtain ⟨y12, hy12⟩ : ∃ y, wd.alloc (.cells Tryz.zeroCells78 78) = y := ⟨_, rfl⟩
     rw [hy12, hw12]
     have hx12 : Below wd.heap.size wd y12 := by rw [← hy12]; exact balloc (Below.refl _ _) _
     have HN12 : Hid (y12.heap[b12]? = some (.cells Tryz.zeroCells78 78 (0, 0))) := Lib.hid (by rw [← hy12, ← hw12]; exact heap_alloc_new _ _)
     have HG12 : Hid (wr.heap.size ≤ b12) := Lib.hid (by have := HBE.out.size; omega)
     clear hy12 hw12
     have HBE := Lib.hid (bthen HBE.out hx12)
     have hSp := HSS.out _ HBE.out
     clear hHeld
     refine hK.out _ _ hSp (fun hHeld => ?_)
     clear hSp hK K
     try simp only [Act.put, List.setIfInBounds_toArray, List.set_cons_zero, List.set_cons_succ]
     clear hx12
     refine wpAnyH_ready (rs := [7]) (by kernel_rfl) (by simp) ?_
     refine AllReadyH.cons rfl (fun K hK => ?_) (AllReadyH.nil)
     simp only [List.getElem_toArray, List.getElem_cons_zero, List.getElem_cons_succ]
     go_simp
     refine (CP.out _ HBE.out).mono ?_
     rintro e w7 ⟨g7, rfl, hbx7, hge7, hb7⟩
     dsimp only
     have HBE := Lib.hid (bthen HBE.out hb7)
     have hSp := HSS.out _ HBE.out
     clear hHeld
     refine hK.out _ _ hSp (fun hHeld => ?_)
     clear hSp hK K
     try simp only [Act.put, List.setIfInBounds_toArray, List.set_cons_zero, List.set_cons_succ]
     have HN12 := Lib.hid ((hb7.block b12 (Array.getElem?_eq_some_iff.1 HN12.out).1).trans HN12.out)
     have HBX := Lib.hid hbx7
     clear hbx7 hge7
     have HC7 := Lib.hid hb7
     clear hb7
     refine wpAnyH_ready (rs := [8]) (by kernel_rfl) (by simp) ?_
     refine AllReadyH.cons rfl (fun K hK => ?_) (AllReadyH.nil)
     simp only [List.getElem_toArray, List.getElem_cons_zero, List.getElem_cons_succ]
     go_simp
     refine (CB.out _ _ HBX.out).mono ?_
     rintro e w8 ⟨rfl, hb8⟩
     dsimp only
     have HBE := Lib.hid (bthen HBE.out hb8)
     have hSp := HSS.out _ HBE.out
     clear hHeld
     refine hK.out _ _ hSp (fun hHeld => ?_)
     clear hSp hK K
     try simp only [Act.put, List.setIfInBounds_toArray, List.set_cons_zero, List.set_cons_succ]
     have HN12 := Lib.hid ((hb8.block b12 (Array.getElem?_eq_some_iff.1 HN12.out).1).trans HN12.out)
     have HBX := Lib.hid ((hb8.block g7 (Array.getElem?_eq_some_iff.1 HBX.out).1).trans HBX.out)
     have HC8 := Lib.hid hb8
     clear hb8
     refine wpAnyH_take (i := 9) (v := ?_) rfl (by kernel_rfl) (by kernel_rfl) (by kernel_rfl) (fun _ _ _ h => h) (Or.inl ⟨by rfl, ?_⟩) (by assumption) ?_
     rotate_left
     ·(intro w hSw; (try dsimp only at hSw); simp only [List.getElem_toArray, List.getElem_cons_zero, List.getElem_cons_succ]; go_simp; first | done | with_reducible rfl)
     simp only [List.getElem_toArray, List.getElem_cons_zero, List.getElem_cons_succ, Act.put, List.setIfInBounds_toArray, List.set_cons_zero, List.set_cons_succ]
     refine wpAnyH_take (i := 10) (v := ?_) rfl (by kernel_rfl) (by kernel_rfl) (by kernel_rfl) (fun _ _ _ h => h) (Or.inl ⟨by rfl, ?_⟩) (by assumption) ?_
     rotate_left
     ·(intro w hSw; (try dsimp only at hSw); simp only [List.getElem_toArray, List.getElem_cons_zero, List.getElem_cons_succ]; go_simp; first | done | with_reducible rfl)
     simp only [List.getElem_toArray, List.getElem_cons_zero, List.getElem_cons_succ, Act.put, List.setIfInBounds_toArray, List.set_cons_zero, List.set_cons_succ]
     refine wpAnyH_take (i := 11) (v := ?_) rfl (by kernel_rfl) (by kernel_rfl) (by kernel_rfl) (fun _ _ _ h => h) (Or.inl ⟨by rfl, ?_⟩) (by assumption) ?_
     rotate_left
     ·(intro w hSw; (try dsimp only at hSw); simp only [List.getElem_toArray, List.getElem_cons_zero, List.getElem_cons_succ]; go_simp; first | done | with_reducible rfl)
     simp only [List.getElem_toArray, List.getElem_cons_zero, List.getElem_cons_succ, Act.put, List.setIfInBounds_toArray, List.set_cons_zero, List.set_cons_succ]
     refine wpAnyH_ready (rs := [13]) (by kernel_rfl) (by simp) ?_
     refine AllReadyH.cons rfl (fun K hK => ?_) (AllReadyH.nil)
     obtain ⟨w13, hst13, hg13, hm13⟩ := store_at (P := Tryz.prog) w8 b12 78 _ L.toArray HN12.out (by rw [zszM, List.size_toArray, HLL.out]) (fun u hu => HL1.out u (by simpa using hu))
     have hst13' := hst13
     rw [List.toList_toArray] at hst13'
     have hll := HLL.out
     have HBE : Hid (Below wr.heap.size wr w13) := Lib.hid (HBE.out.trans (hm13.below (fun k hk => by have := HG12.out; have e := List.mem_singleton.1 hk; omega) HBE.out.size))
     simp only [List.getElem_toArray, List.getElem_cons_zero, List.getElem_cons_succ]
     go_simp
     refine hK.out _ _ ?_ (fun hHeld => ?_)
     ·exact HSS.out _ HBE.out
     clear hK K
     try simp only [Act.put, List.setIfInBounds_toArray, List.set_cons_zero, List.set_cons_succ]
     have HN12 := Lib.hid hg13
     clear hg13 hm13 hst13 hst13' hll
     refine wpAnyH_take (i := 14) (v := ?_) rfl (by kernel_rfl) (by kernel_rfl) (by kernel_rfl) (fun _ _ _ h => h) (Or.inl ⟨by rfl, ?_⟩) (by assumption) ?_
     rotate_left
     ·(intro w hSw; (try dsimp only at hSw); simp only [List.getElem_toArray, List.getElem_cons_zero, List.getElem_cons_succ]; go_simp; first | done | with_reducible rfl)
     simp only [List.getElem_toArray, List.getElem_cons_zero, List.getElem_cons_succ, Act.put, List.setIfInBounds_toArray, List.set_cons_zero, List.set_cons_succ]
     refine wpAnyH_done (by kernel_rfl) ?_ _
     have HEND := Lib.hid hHeld.2
     have HSE := Lib.hid hHeld.1
     clear hHeld
     clear HSS HEND
     have HPD : Hid (w13.cell? ⟨w.heap.size, 3 + i, none⟩ = some (.int .u32 (pn : Int))) := Lib.hid HSE.out
     have HDK2 := Lib.hid (HDK.out.below HBE.out)
     have HRL : Hid (w13.rangeAt b12 0 L) := Lib.hid (rangeOf HN12.out)
     have HX13 : Hid (w13.heap[w.heap.size]? = some (.cells (suL s).toArray 72 (0, 0))) := Lib.hid ((HBE.out.block _ HPC1.out).trans HX.out)
     have HBG : Hid (w.heap.size < w13.heap.size ∧ w.heap.size ∉ dF B iv jv') := Lib.hid ⟨(Array.getElem?_eq_some_iff.1 HX13.out).1, HDK2.out.apart HX13.out (by decide) (by decide) (by decide)⟩
     have HBG2 : Hid (b12 < w13.heap.size ∧ b12 ∉ dF B iv jv') := Lib.hid ⟨(Array.getElem?_eq_some_iff.1 HN12.out).1, HDK2.out.apart HN12.out (by decide) (by decide) (by decide)⟩
     have HBW := Lib.hid HBE.out
     have HIB : Hid ((Tryz.prog.info? 78).map (·.size) = some L.length) := Lib.hid (by rw [HLL.out]; exact infoBlk)
     clear HSE
     go_wp2_with fail
     have HSS : Hid (∀ X, Mods (dF B iv jv') w13 X → (X.cell? ⟨w.heap.size, 3 + i, none⟩ = some (.int .u32 (pn : Int)) ∧ X.rangeAt b12 0 L) ∧ Mods (dF B iv jv') w13 X) := Lib.hid (fun X hb => ⟨⟨(World.cell?_of_block (hb.block _ (HBG.out.1) (HBG.out.2))).trans (HPD.out), (fun j u hj => (World.cell?_of_block (a := ⟨b12, 0 + j, none⟩) (hb.block b12 HBG2.out.1 HBG2.out.2)).trans (HRL.out j u hj))⟩, hb⟩)
     refine wp_region_held_drew (S := fun X => (X.cell? ⟨w.heap.size, 3 + i, none⟩ = some (.int .u32 (pn : Int)) ∧ X.rangeAt b12 0 L) ∧ Mods (dF B iv jv') w13 X) (by kernel_rfl) (HSS.out _ (Mods.of_below (Below.refl _ _).drew)) (fun hHeld => ?_)
     have hbe : Below w13.heap.size w13 w13.drew := (Below.refl _ _).drew
     obtain ⟨wd, hwd⟩ : ∃ y, w13.drew = y := ⟨_, rfl⟩
     rw [hwd] at hHeld hbe ⊢
     have HBE := Lib.hid hbe
     have HS0 : Hid (w13.heap.size ≤ wd.heap.size) := Lib.hid HBE.out.size
     clear hwd hbe
     refine wpAnyH_take (i := 0) (v := ?_) rfl (by kernel_rfl) (by kernel_rfl) (by kernel_rfl) (fun _ _ _ h => h) (Or.inl ⟨by rfl, ?_⟩) (by assumption) ?_
     rotate_left
     ·(intro w hSw; (try dsimp only at hSw); simp only [List.getElem_toArray, List.getElem_cons_zero, List.getElem_cons_succ]; go_simp; first | done | with_reducible rfl)
     simp only [List.getElem_toArray, List.getElem_cons_zero, List.getElem_cons_succ, Act.put, List.setIfInBounds_toArray, List.set_cons_zero, List.set_cons_succ]
     refine wpAnyH_take (i := 1) (v := ?_) rfl (by kernel_rfl) (by kernel_rfl) (by kernel_rfl) (fun _ _ _ h => h) (Or.inl ⟨by rfl, ?_⟩) (by assumption) ?_
     rotate_left
     ·(intro w hSw; (try dsimp only at hSw); simp only [List.getElem_toArray, List.getElem_cons_zero, List.getElem_cons_succ]; go_simp; first | done | with_reducible rfl)
     simp only [List.getElem_toArray, List.getElem_cons_zero, List.getElem_cons_succ, Act.put, List.setIfInBounds_toArray, List.set_cons_zero, List.set_cons_succ]
     refine wpAnyH_take (i := 2) (v := ?_) rfl (by kernel_rfl) (by kernel_rfl) (by kernel_rfl) (fun _ _ _ h => h) (Or.inl ⟨by rfl, ?_⟩) (by assumption) ?_
     rotate_left
     ·(intro w hSw; (try dsimp only at hSw); simp only [List.getElem_toArray, List.getElem_cons_zero, List.getElem_cons_succ]; go_simp; first | done | with_reducible rfl)
     simp only [List.getElem_toArray, List.getElem_cons_zero, List.getElem_cons_succ, Act.put, List.setIfInBounds_toArray, List.set_cons_zero, List.set_cons_succ]
     refine wpAnyH_take (i := 7) (v := _) rfl (by kernel_rfl) (by kernel_rfl) (by kernel_rfl) (fun _ _ _ h => h) (yieldsIf_load_mid (by rfl) 78 _ rfl (b12) (0) rfl (L) _ (fun w hSw => hSw.1.2) (Tryz.underlying78) rfl (HIB.out)) (by assumption) ?_
     simp only [List.getElem_toArray, List.getElem_cons_zero, List.getElem_cons_succ, Act.put, List.setIfInBounds_toArray, List.set_cons_zero, List.set_cons_succ]
     refine wpAnyH_take (i := 3) (v := ?_) rfl (by kernel_rfl) (by kernel_rfl) (by kernel_rfl) (fun _ _ _ h => h) (Or.inl ⟨by rfl, ?_⟩) (by assumption) ?_
     rotate_left
     ·(intro w hSw; (try dsimp only at hSw); simp only [List.getElem_toArray, List.getElem_cons_zero, List.getElem_cons_succ]; go_simp; first | done | with_reducible rfl)
     simp only [List.getElem_toArray, List.getElem_cons_zero, List.getElem_cons_succ, Act.put, List.setIfInBounds_toArray, List.set_cons_zero, List.set_cons_succ]
     refine wpAnyH_take (i := 4) (v := ?_) rfl (by kernel_rfl) (by kernel_rfl) (by kernel_rfl) (fun _ _ _ h => h) (Or.inl ⟨by rfl, ?_⟩) (by assumption) ?_
     rotate_left
     ·(intro w hSw; (try dsimp only at hSw); simp only [List.getElem_toArray, List.getElem_cons_zero, List.getElem_cons_succ]; go_simp; first | done | with_reducible rfl)
     simp only [List.getElem_toArray, List.getElem_cons_zero, List.getElem_cons_succ, Act.put, List.setIfInBounds_toArray, List.set_cons_zero, List.set_cons_succ]
     refine wpAnyH_take (i := 5) (v := ?_) rfl (by kernel_rfl) (by kernel_rfl) (by kernel_rfl) (fun _ _ _ h => h) (Or.inl ⟨by rfl, ?_⟩) (by assumption) ?_
     rotate_left
     ·(intro w hSw; (try dsimp only at hSw); simp only [List.getElem_toArray, List.getElem_cons_zero, List.getElem_cons_succ]; go_simp; first | done | with_reducible rfl)
     simp only [List.getElem_toArray, List.getElem_cons_zero, List.getElem_cons_succ, Act.put, List.setIfInBounds_toArray, List.set_cons_zero, List.set_cons_succ]
     refine wpAnyH_take (i := 6) (v := ?_) rfl (by kernel_rfl) (by kernel_rfl) (by kernel_rfl) (fun _ _ _ h => h) (Or.inl ⟨by rfl, ?_⟩) (by assumption) ?_
     rotate_left
     ·(intro w hSw; (try dsimp only at hSw); simp only [List.getElem_toArray, List.getElem_cons_zero, List.getElem_cons_succ]; go_simp; first | done | with_reducible rfl)
     simp only [List.getElem_toArray, List.getElem_cons_zero, List.getElem_cons_succ, Act.put, List.setIfInBounds_toArray, List.set_cons_zero, List.set_cons_succ]
     refine wpAnyH_ready (rs := [8]) (by kernel_rfl) (by simp) ?_
     refine AllReadyH.cons rfl (fun K hK => ?_) (AllReadyH.nil)
     simp only [List.getElem_toArray, List.getElem_cons_zero, List.getElem_cons_succ]
     go_simp
     refine (CW.out _ (Chg.of_below (bthn HBW.out HBE.out)) (HDK2.out.below HBE.out)).mono ?_
     rintro e w9 ⟨rfl, jv2, hd2, hc2⟩
     dsimp only
     refine hK.out _ _ ?_ (fun hHeld => ?_)
     ·exact HSS.out _ ((Mods.of_below HBE.out).trans hc2.1 (fun k hk => .inl hk))
     clear hK K
     try simp only [Act.put, List.setIfInBounds_toArray, List.set_cons_zero, List.set_cons_succ]
     have HD9 := Lib.hid hd2
     have HC9 : Hid (Chg (dF B iv jv') wr w9 (dF B iv jv2)) := Lib.hid (Chg.pre (bthn HBW.out HBE.out) hc2)
     clear hd2 hc2
     refine wpAnyH_take (i := 9) (v := ?_) rfl (by kernel_rfl) (by kernel_rfl) (by kernel_rfl) (fun _ _ _ h => h) (Or.inl ⟨by rfl, ?_⟩) (by assumption) ?_
     rotate_left
     ·(intro w hSw; (try dsimp only at hSw); simp only [List.getElem_toArray, List.getElem_cons_zero, List.getElem_cons_succ]; go_simp; first | done | with_reducible rfl)
     simp only [List.getElem_toArray, List.getElem_cons_zero, List.getElem_cons_succ, Act.put, List.setIfInBounds_toArray, List.set_cons_zero, List.set_cons_succ]
     refine wpAnyH_done (by kernel_rfl) ?_ _
     have HEND := Lib.hid hHeld.2
     have HSE := Lib.hid hHeld.1
     clear hHeld
     clear HSS HSE HEND
     have HX9 : Hid (w9.heap[w.heap.size]? = some (.cells (suL s).toArray 72 (0, 0))) := Lib.hid ((HC9.out.1.block _ HPC1.out HBG.out.2).trans HX.out)
     go_wp2_with fail
     go_roundw
     case rel => exact ⟨i + 1, jv2, by omega, by go_num, HD9.out, HCH.out.trans HC9.out, HX9.out⟩
     case measure => simp [Go.RowKit.intOf]; omega
   ·have CP : Hid (∀ X, Below wr.heap.size wr X → Calls Tryz.prog 136 #[.slice am ml cm, .int .i64 (i : Int)] X fun e w' => ∃ g, e = .returned (.slice (some ⟨g, 0, none⟩) 120 120) ∧ BoxC w' g (partC mcs i) ∧ X.heap.size ≤ g ∧ Below X.heap.size X w') := Lib.hid (fun X hX => ppart_at X i _ mcs.length mcs (Rd.of_own (ownsRow_below HMV.out hX)) HML.out.2 (pagesN_idx (by rw [HFF.out.1]; omega)))
    have CB : Hid (∀ X g, BoxC X g (partC mcs i) → Calls Tryz.prog 135 #[.int .u32 (pn : Int), .int .i64 (i : Int), .slice (some ⟨g, 0, none⟩) 120 120] X fun e w' => e = .returned (.tuple #[.agg L.toArray, .int .i64 0]) ∧ Below X.heap.size X w') := Lib.hid (fun X g hX => by
     have h1 := pblock_at X pn i hpl (by omega) _ 120 (partC mcs i) (hX.rd (partC_len _ _) (by omega)) (by omega) (partC_lt HMC.out.1 i)
     have e : pageB pn i (partC mcs i) = b := by
      rw [← HWB.out]
      unfold wpB wpIdx wpCs
      rw [HFF.out.1, if_neg hfi, if_neg hfi, HPN.out]
     rw [e, show bA b = .agg (bV b).toArray from rfl, HBV.out] at h1
     exact h1)
    go_upto_region 8 with fail
    have CW : Hid (∀ X, Chg (dF B iv jv') wr X (dF B iv jv') → DkAt n0 X B iv jv' (d.wpN s.pages mcs dcs i) → Calls Tryz.prog 29 #[.pointer (some ⟨B, 0, none⟩), .int .i64 (2 + (pn : Int)), .agg L.toArray] X fun e w' => e = .returned (.int .i64 0) ∧ ∃ jv'', DkAt n0 w' B iv jv'' (d.wpN s.pages mcs dcs (i + 1)) ∧ Chg (dF B iv jv') X w' (dF B iv jv'')) := Lib.hid (fun X hX hD => by
     obtain ⟨e1, e2, e3, e4⟩ := d.wpN_at s.pages mcs dcs i
     have h1 := swrite_at n0 X B iv jv' (d.wpN s.pages mcs dcs i) hD (Nat.le_trans HNB.out (Nat.le_trans HB1.out.size (Nat.le_trans HCH.out.size hX.size))) (by rw [e2]; exact HLD.out.1) (by rw [e3]; exact HLD.out.2) (2 + pn) b HBL.out (by rw [e1]; exact HFI.out) (by rw [e1]; exact HNJ.out.1) (by rw [e4]; have := HNJ.out.2; omega)
     rw [show ((2 + pn : Nat) : Int) = 2 + (pn : Int) by omega] at h1
     rw [show bV b = L from HBV.out] at h1
     rw [HPB.out] at h1
     exact h1)
    have HSS : Hid (∀ X, Below wr.heap.size wr X → (X.cell? ⟨w.heap.size, 3 + i, none⟩ = some (.int .u32 (pn : Int))) ∧ Below wr.heap.size wr X) := Lib.hid (fun X hb => ⟨(World.cell?_of_block (hb.block _ (HPC1.out))).trans (HPC.out), hb⟩)
    refine wp_region_held_drew (S := fun X => (X.cell? ⟨w.heap.size, 3 + i, none⟩ = some (.int .u32 (pn : Int))) ∧ Below wr.heap.size wr X) (by kernel_rfl) (HSS.out _ (Below.refl _ _).drew) (fun hHeld => ?_)
    have hbe : Below wr.heap.size wr wr.drew := (Below.refl _ _).drew
    obtain ⟨wd, hwd⟩ : ∃ y, wr.drew = y := ⟨_, rfl⟩
    rw [hwd] at hHeld hbe ⊢
    have HBE := Lib.hid hbe
    have HS0 : Hid (wr.heap.size ≤ wd.heap.size) := Lib.hid HBE.out.size
    clear hwd hbe
    refine wpAnyH_take (i := 0) (v := ?_) rfl (by kernel_rfl) (by kernel_rfl) (by kernel_rfl) (fun _ _ _ h => h) (Or.inl ⟨by rfl, ?_⟩) (by assumption) ?_
    rotate_left
    ·(intro w hSw; (try dsimp only at hSw); simp only [List.getElem_toArray, List.getElem_cons_zero, List.getElem_cons_succ]; go_simp; first | done | with_reducible rfl)
    simp only [List.getElem_toArray, List.getElem_cons_zero, List.getElem_cons_succ, Act.put, List.setIfInBounds_toArray, List.set_cons_zero, List.set_cons_succ]
    refine wpAnyH_take (i := 1) (v := ?_) rfl (by kernel_rfl) (by kernel_rfl) (by kernel_rfl) (fun _ _ _ h => h) (Or.inl ⟨by rfl, ?_⟩) (by assumption) ?_
    rotate_left
    ·(intro w hSw; (try dsimp only at hSw); simp only [List.getElem_toArray, List.getElem_cons_zero, List.getElem_cons_succ]; go_simp; first | done | with_reducible rfl)
    simp only [List.getElem_toArray, List.getElem_cons_zero, List.getElem_cons_succ, Act.put, List.setIfInBounds_toArray, List.set_cons_zero, List.set_cons_succ]
    refine wpAnyH_take (i := 4) (v := ?_) rfl (by kernel_rfl) (by kernel_rfl) (by kernel_rfl) (fun _ _ _ h => h) (Or.inl ⟨by rfl, ?_⟩) (by assumption) ?_
    rotate_left
    ·(intro w hSw; (try dsimp only at hSw); simp only [List.getElem_toArray, List.getElem_cons_zero, List.getElem_cons_succ]; go_simp; first | done | with_reducible rfl)
    simp only [List.getElem_toArray, List.getElem_cons_zero, List.getElem_cons_succ, Act.put, List.setIfInBounds_toArray, List.set_cons_zero, List.set_cons_succ]
    refine wpAnyH_take (i := 5) (v := ?_) rfl (by kernel_rfl) (by kernel_rfl) (by kernel_rfl) (fun _ _ _ h => h) (Or.inl ⟨by rfl, ?_⟩) (by assumption) ?_
    rotate_left
    ·(intro w hSw; (try dsimp only at hSw); simp only [List.getElem_toArray, List.getElem_cons_zero, List.getElem_cons_succ]; go_simp; first | done | with_reducible rfl)
    simp only [List.getElem_toArray, List.getElem_cons_zero, List.getElem_cons_succ, Act.put, List.setIfInBounds_toArray, List.set_cons_zero, List.set_cons_succ]
    refine wpAnyH_take (i := 6) (v := ?_) rfl (by kernel_rfl) (by kernel_rfl) (by kernel_rfl) (fun _ _ _ h => h) (Or.inl ⟨by rfl, ?_⟩) (by assumption) ?_
    rotate_left
    ·(intro w hSw; (try dsimp only at hSw); simp only [List.getElem_toArray, List.getElem_cons_zero, List.getElem_cons_succ]; go_simp; first | done | with_reducible rfl)
    simp only [List.getElem_toArray, List.getElem_cons_zero, List.getElem_cons_succ, Act.put, List.setIfInBounds_toArray, List.set_cons_zero, List.set_cons_succ]
    refine wpAnyH_take (i := 2) (v := ?_) rfl (by kernel_rfl) (by kernel_rfl) (by kernel_rfl) (fun _ _ _ h => h) (Or.inl ⟨by rfl, ?_⟩) (by assumption) ?_
    rotate_left
    ·(intro w hSw; (try dsimp only at hSw); simp only [List.getElem_toArray, List.getElem_cons_zero, List.getElem_cons_succ]; go_simp; first | done | with_reducible rfl)
    simp only [List.getElem_toArray, List.getElem_cons_zero, List.getElem_cons_succ, Act.put, List.setIfInBounds_toArray, List.set_cons_zero, List.set_cons_succ]
    refine wpAnyH_take (i := 3) (v := ?_) rfl (by kernel_rfl) (by kernel_rfl) (by kernel_rfl) (fun _ _ _ h => h) (Or.inl ⟨by rfl, ?_⟩) (by assumption) ?_
    rotate_left
    ·(intro w hSw; (try dsimp only at hSw); simp only [List.getElem_toArray, List.getElem_cons_zero, List.getElem_cons_succ]; go_simp; first | done | with_reducible rfl)
    simp only [List.getElem_toArray, List.getElem_cons_zero, List.getElem_cons_succ, Act.put, List.setIfInBounds_toArray, List.set_cons_zero, List.set_cons_succ]
    refine wpAnyH_ready (rs := [7, 12]) (by kernel_rfl) (by simp) ?_
    refine AllReadyH.cons rfl (fun K hK => ?_) (AllReadyH.cons rfl (fun K hK => ?_) (AllReadyH.nil))
    ·skip
     simp only [List.getElem_toArray, List.getElem_cons_zero, List.getElem_cons_succ]
     go_simp
     refine (CP.out _ HBE.out).mono ?_
     rintro e w7 ⟨g7, rfl, hbx7, hge7, hb7⟩
     dsimp only
     have HBE := Lib.hid (bthen HBE.out hb7)
     have hSp := HSS.out _ HBE.out
     clear hHeld
     refine hK.out _ _ hSp (fun hHeld => ?_)
     clear hSp hK K
     try simp only [Act.put, List.setIfInBounds_toArray, List.set_cons_zero, List.set_cons_succ]
     have HBX := Lib.hid hbx7
     clear hbx7 hge7
     have HC7 := Lib.hid hb7
     clear hb7
     refine wpAnyH_ready (rs := [8, 12]) (by kernel_rfl) (by simp) ?_
     refine AllReadyH.cons rfl (fun K hK => ?_) (AllReadyH.cons rfl (fun K hK => ?_) (AllReadyH.nil))
     ·skip
      simp only [List.getElem_toArray, List.getElem_cons_zero, List.getElem_cons_succ]
      go_simp
      refine (CB.out _ _ HBX.out).mono ?_
      rintro e w8 ⟨rfl, hb8⟩
      dsimp only
      have HBE := Lib.hid (bthen HBE.out hb8)
      have hSp := HSS.out _ HBE.out
      clear hHeld
      refine hK.out _ _ hSp (fun hHeld => ?_)
      clear hSp hK K
      try simp only [Act.put, List.setIfInBounds_toArray, List.set_cons_zero, List.set_cons_succ]
      have HBX := Lib.hid ((hb8.block g7 (Array.getElem?_eq_some_iff.1 HBX.out).1).trans HBX.out)
      have HC8 := Lib.hid hb8
      clear hb8
      refine wpAnyH_take (i := 9) (v := ?_) rfl (by kernel_rfl) (by kernel_rfl) (by kernel_rfl) (fun _ _ _ h => h) (Or.inl ⟨by rfl, ?_⟩) (by assumption) ?_
      rotate_left
      ·(intro w hSw; (try dsimp only at hSw); simp only [List.getElem_toArray, List.getElem_cons_zero, List.getElem_cons_succ]; go_simp; first | done | with_reducible rfl)
      simp only [List.getElem_toArray, List.getElem_cons_zero, List.getElem_cons_succ, Act.put, List.setIfInBounds_toArray, List.set_cons_zero, List.set_cons_succ]
      refine wpAnyH_take (i := 10) (v := ?_) rfl (by kernel_rfl) (by kernel_rfl) (by kernel_rfl) (fun _ _ _ h => h) (Or.inl ⟨by rfl, ?_⟩) (by assumption) ?_
      rotate_left
      ·(intro w hSw; (try dsimp only at hSw); simp only [List.getElem_toArray, List.getElem_cons_zero, List.getElem_cons_succ]; go_simp; first | done | with_reducible rfl)
      simp only [List.getElem_toArray, List.getElem_cons_zero, List.getElem_cons_succ, Act.put, List.setIfInBounds_toArray, List.set_cons_zero, List.set_cons_succ]
      refine wpAnyH_take (i := 11) (v := ?_) rfl (by kernel_rfl) (by kernel_rfl) (by kernel_rfl) (fun _ _ _ h => h) (Or.inl ⟨by rfl, ?_⟩) (by assumption) ?_
      rotate_left
      ·(intro w hSw; (try dsimp only at hSw); simp only [List.getElem_toArray, List.getElem_cons_zero, List.getElem_cons_succ]; go_simp; first | done | with_reducible rfl)
      simp only [List.getElem_toArray, List.getElem_cons_zero, List.getElem_cons_succ, Act.put, List.setIfInBounds_toArray, List.set_cons_zero, List.set_cons_succ]
      refine wpAnyH_ready (rs := [12]) (by kernel_rfl) (by simp) ?_
      refine AllReadyH.cons rfl (fun K hK => ?_) (AllReadyH.nil)
      simp only [List.getElem_toArray, List.getElem_cons_zero, List.getElem_cons_succ]
      go_simp
      obtain ⟨b12, hw12⟩ : ∃ b, w8.heap.size = b := ⟨_, rfl⟩
      obtain ⟨y12, hy12⟩ : ∃ y, w8.alloc (.cells Tryz.zeroCells78 78) = y := ⟨_, rfl⟩
      rw [hy12, hw12]
      have hx12 : Below w8.heap.size w8 y12 := by rw [← hy12]; exact balloc (Below.refl _ _) _
      have HN12 : Hid (y12.heap[b12]? = some (.cells Tryz.zeroCells78 78 (0, 0))) := Lib.hid (by rw [← hy12, ← hw12]; exact heap_alloc_new _ _)
      have HG12 : Hid (wr.heap.size ≤ b12) := Lib.hid (by have := HBE.out.size; omega)
      clear hy12 hw12
      have HBE := Lib.hid (bthen HBE.out hx12)
      have hSp := HSS.out _ HBE.out
      clear hHeld
      refine hK.out _ _ hSp (fun hHeld => ?_)
      clear hSp hK K
      try simp only [Act.put, List.setIfInBounds_toArray, List.set_cons_zero, List.set_cons_succ]
      have HBX := Lib.hid ((hx12.block g7 (Array.getElem?_eq_some_iff.1 HBX.out).1).trans HBX.out)
      clear hx12
      refine wpAnyH_ready (rs := [13]) (by kernel_rfl) (by simp) ?_
      refine AllReadyH.cons rfl (fun K hK => ?_) (AllReadyH.nil)
      obtain ⟨w13, hst13, hg13, hm13⟩ := store_at (P := Tryz.prog) y12 b12 78 _ L.toArray HN12.out (by rw [zszM, List.size_toArray, HLL.out]) (fun u hu => HL1.out u (by simpa using hu))
      have hst13' := hst13
      rw [List.toList_toArray] at hst13'
      have hll := HLL.out
      have HBE : Hid (Below wr.heap.size wr w13) := Lib.hid (HBE.out.trans (hm13.below (fun k hk => by have := HG12.out; have e := List.mem_singleton.1 hk; omega) HBE.out.size))
      simp only [List.getElem_toArray, List.getElem_cons_zero, List.getElem_cons_succ]
      go_simp
      refine hK.out _ _ ?_ (fun hHeld => ?_)
      ·exact HSS.out _ HBE.out
      clear hK K
      try simp only [Act.put, List.setIfInBounds_toArray, List.set_cons_zero, List.set_cons_succ]
      have HN12 := Lib.hid hg13
      clear hg13 hm13 hst13 hst13' hll
      refine wpAnyH_take (i := 14) (v := ?_) rfl (by kernel_rfl) (by kernel_rfl) (by kernel_rfl) (fun _ _ _ h => h) (Or.inl ⟨by rfl, ?_⟩) (by assumption) ?_
      rotate_left
      ·(intro w hSw; (try dsimp only at hSw); simp only [List.getElem_toArray, List.getElem_cons_zero, List.getElem_cons_succ]; go_simp; first | done | with_reducible rfl)
      simp only [List.getElem_toArray, List.getElem_cons_zero, List.getElem_cons_succ, Act.put, List.setIfInBounds_toArray, List.set_cons_zero, List.set_cons_succ]
      refine wpAnyH_done (by kernel_rfl) ?_ _
      have HEND := Lib.hid hHeld.2
      have HSE := Lib.hid hHeld.1
      clear hHeld
      clear HSS HEND
      have HPD : Hid (w13.cell? ⟨w.heap.size, 3 + i, none⟩ = some (.int .u32 (pn : Int))) := Lib.hid HSE.out
      have HDK2 := Lib.hid (HDK.out.below HBE.out)
      have HRL : Hid (w13.rangeAt b12 0 L) := Lib.hid (rangeOf HN12.out)
      have HX13 : Hid (w13.heap[w.heap.size]? = some (.cells (suL s).toArray 72 (0, 0))) := Lib.hid ((HBE.out.block _ HPC1.out).trans HX.out)
      have HBG : Hid (w.heap.size < w13.heap.size ∧ w.heap.size ∉ dF B iv jv') := Lib.hid ⟨(Array.getElem?_eq_some_iff.1 HX13.out).1, HDK2.out.apart HX13.out (by decide) (by decide) (by decide)⟩
      have HBG2 : Hid (b12 < w13.heap.size ∧ b12 ∉ dF B iv jv') := Lib.hid ⟨(Array.getElem?_eq_some_iff.1 HN12.out).1, HDK2.out.apart HN12.out (by decide) (by decide) (by decide)⟩
      have HBW := Lib.hid HBE.out
      have HIB : Hid ((Tryz.prog.info? 78).map (·.size) = some L.length) := Lib.hid (by rw [HLL.out]; exact infoBlk)
      clear HSE
      go_wp2_with fail
      have HSS : Hid (∀ X, Mods (dF B iv jv') w13 X → (X.cell? ⟨w.heap.size, 3 + i, none⟩ = some (.int .u32 (pn : Int)) ∧ X.rangeAt b12 0 L) ∧ Mods (dF B iv jv') w13 X) := Lib.hid (fun X hb => ⟨⟨(World.cell?_of_block (hb.block _ (HBG.out.1) (HBG.out.2))).trans (HPD.out), (fun j u hj => (World.cell?_of_block (a := ⟨b12, 0 + j, none⟩) (hb.block b12 HBG2.out.1 HBG2.out.2)).trans (HRL.out j u hj))⟩, hb⟩)
      refine wp_region_held_drew (S := fun X => (X.cell? ⟨w.heap.size, 3 + i, none⟩ = some (.int .u32 (pn : Int)) ∧ X.rangeAt b12 0 L) ∧ Mods (dF B iv jv') w13 X) (by kernel_rfl) (HSS.out _ (Mods.of_below (Below.refl _ _).drew)) (fun hHeld => ?_)
      have hbe : Below w13.heap.size w13 w13.drew := (Below.refl _ _).drew
      obtain ⟨wd, hwd⟩ : ∃ y, w13.drew = y := ⟨_, rfl⟩
      rw [hwd] at hHeld hbe ⊢
      have HBE := Lib.hid hbe
      have HS0 : Hid (w13.heap.size ≤ wd.heap.size) := Lib.hid HBE.out.size
      clear hwd hbe
      refine wpAnyH_take (i := 0) (v := ?_) rfl (by kernel_rfl) (by kernel_rfl) (by kernel_rfl) (fun _ _ _ h => h) (Or.inl ⟨by rfl, ?_⟩) (by assumption) ?_
      rotate_left
      ·(intro w hSw; (try dsimp only at hSw); simp only [List.getElem_toArray, List.getElem_cons_zero, List.getElem_cons_succ]; go_simp; first | done | with_reducible rfl)
      simp only [List.getElem_toArray, List.getElem_cons_zero, List.getElem_cons_succ, Act.put, List.setIfInBounds_toArray, List.set_cons_zero, List.set_cons_succ]
      refine wpAnyH_take (i := 1) (v := ?_) rfl (by kernel_rfl) (by kernel_rfl) (by kernel_rfl) (fun _ _ _ h => h) (Or.inl ⟨by rfl, ?_⟩) (by assumption) ?_
      rotate_left
      ·(intro w hSw; (try dsimp only at hSw); simp only [List.getElem_toArray, List.getElem_cons_zero, List.getElem_cons_succ]; go_simp; first | done | with_reducible rfl)
      simp only [List.getElem_toArray, List.getElem_cons_zero, List.getElem_cons_succ, Act.put, List.setIfInBounds_toArray, List.set_cons_zero, List.set_cons_succ]
      refine wpAnyH_take (i := 2) (v := ?_) rfl (by kernel_rfl) (by kernel_rfl) (by kernel_rfl) (fun _ _ _ h => h) (Or.inl ⟨by rfl, ?_⟩) (by assumption) ?_
      rotate_left
      ·(intro w hSw; (try dsimp only at hSw); simp only [List.getElem_toArray, List.getElem_cons_zero, List.getElem_cons_succ]; go_simp; first | done | with_reducible rfl)
      simp only [List.getElem_toArray, List.getElem_cons_zero, List.getElem_cons_succ, Act.put, List.setIfInBounds_toArray, List.set_cons_zero, List.set_cons_succ]
      refine wpAnyH_take (i := 7) (v := _) rfl (by kernel_rfl) (by kernel_rfl) (by kernel_rfl) (fun _ _ _ h => h) (yieldsIf_load_mid (by rfl) 78 _ rfl (b12) (0) rfl (L) _ (fun w hSw => hSw.1.2) (Tryz.underlying78) rfl (HIB.out)) (by assumption) ?_
      simp only [List.getElem_toArray, List.getElem_cons_zero, List.getElem_cons_succ, Act.put, List.setIfInBounds_toArray, List.set_cons_zero, List.set_cons_succ]
      refine wpAnyH_take (i := 3) (v := ?_) rfl (by kernel_rfl) (by kernel_rfl) (by kernel_rfl) (fun _ _ _ h => h) (Or.inl ⟨by rfl, ?_⟩) (by assumption) ?_
      rotate_left
      ·(intro w hSw; (try dsimp only at hSw); simp only [List.getElem_toArray, List.getElem_cons_zero, List.getElem_cons_succ]; go_simp; first | done | with_reducible rfl)
      simp only [List.getElem_toArray, List.getElem_cons_zero, List.getElem_cons_succ, Act.put, List.setIfInBounds_toArray, List.set_cons_zero, List.set_cons_succ]
      refine wpAnyH_take (i := 4) (v := ?_) rfl (by kernel_rfl) (by kernel_rfl) (by kernel_rfl) (fun _ _ _ h => h) (Or.inl ⟨by rfl, ?_⟩) (by assumption) ?_
      rotate_left
      ·(intro w hSw; (try dsimp only at hSw); simp only [List.getElem_toArray, List.getElem_cons_zero, List.getElem_cons_succ]; go_simp; first | done | with_reducible rfl)
      simp only [List.getElem_toArray, List.getElem_cons_zero, List.getElem_cons_succ, Act.put, List.setIfInBounds_toArray, List.set_cons_zero, List.set_cons_succ]
      refine wpAnyH_take (i := 5) (v := ?_) rfl (by kernel_rfl) (by kernel_rfl) (by kernel_rfl) (fun _ _ _ h => h) (Or.inl ⟨by rfl, ?_⟩) (by assumption) ?_
      rotate_left
      ·(intro w hSw; (try dsimp only at hSw); simp only [List.getElem_toArray, List.getElem_cons_zero, List.getElem_cons_succ]; go_simp; first | done | with_reducible rfl)
      simp only [List.getElem_toArray, List.getElem_cons_zero, List.getElem_cons_succ, Act.put, List.setIfInBounds_toArray, List.set_cons_zero, List.set_cons_succ]
      refine wpAnyH_take (i := 6) (v := ?_) rfl (by kernel_rfl) (by kernel_rfl) (by kernel_rfl) (fun _ _ _ h => h) (Or.inl ⟨by rfl, ?_⟩) (by assumption) ?_
      rotate_left
      ·(intro w hSw; (try dsimp only at hSw); simp only [List.getElem_toArray, List.getElem_cons_zero, List.getElem_cons_succ]; go_simp; first | done | with_reducible rfl)
      simp only [List.getElem_toArray, List.getElem_cons_zero, List.getElem_cons_succ, Act.put, List.setIfInBounds_toArray, List.set_cons_zero, List.set_cons_succ]
      refine wpAnyH_ready (rs := [8]) (by kernel_rfl) (by simp) ?_
      refine AllReadyH.cons rfl (fun K hK => ?_) (AllReadyH.nil)
      simp only [List.getElem_toArray, List.getElem_cons_zero, List.getElem_cons_succ]
      go_simp
      refine (CW.out _ (Chg.of_below (bthn HBW.out HBE.out)) (HDK2.out.below HBE.out)).mono ?_
      rintro e w9 ⟨rfl, jv2, hd2, hc2⟩
      dsimp only
      refine hK.out _ _ ?_ (fun hHeld => ?_)
      ·exact HSS.out _ ((Mods.of_below HBE.out).trans hc2.1 (fun k hk => .inl hk))
      clear hK K
      try simp only [Act.put, List.setIfInBounds_toArray, List.set_cons_zero, List.set_cons_succ]
      have HD9 := Lib.hid hd2
      have HC9 : Hid (Chg (dF B iv jv') wr w9 (dF B iv jv2)) := Lib.hid (Chg.pre (bthn HBW.out HBE.out) hc2)
      clear hd2 hc2
      refine wpAnyH_take (i := 9) (v := ?_) rfl (by kernel_rfl) (by kernel_rfl) (by kernel_rfl) (fun _ _ _ h => h) (Or.inl ⟨by rfl, ?_⟩) (by assumption) ?_
      rotate_left
      ·(intro w hSw; (try dsimp only at hSw); simp only [List.getElem_toArray, List.getElem_cons_zero, List.getElem_cons_succ]; go_simp; first | done | with_reducible rfl)
      simp only [List.getElem_toArray, List.getElem_cons_zero, List.getElem_cons_succ, Act.put, List.setIfInBounds_toArray, List.set_cons_zero, List.set_cons_succ]
      refine wpAnyH_done (by kernel_rfl) ?_ _
      have HEND := Lib.hid hHeld.2
      have HSE := Lib.hid hHeld.1
      clear hHeld
      clear HSS HSE HEND
      have HX9 : Hid (w9.heap[w.heap.size]? = some (.cells (suL s).toArray 72 (0, 0))) := Lib.hid ((HC9.out.1.block _ HPC1.out HBG.out.2).trans HX.out)
      go_wp2_with fail
      go_roundw
      case rel => exact ⟨i + 1, jv2, by omega, by go_num, HD9.out, HCH.out.trans HC9.out, HX9.out⟩
      case measure => simp [Go.RowKit.intOf]; omega
     ·skip
      simp only [List.getElem_toArray, List.getElem_cons_zero, List.getElem_cons_succ]
      go_simp
      obtain ⟨b12, hw12⟩ : ∃ b, w7.heap.size = b := ⟨_, rfl⟩
      obtain ⟨y12, hy12⟩ : ∃ y, w7.alloc (.cells Tryz.zeroCells78 78) = y := ⟨_, rfl⟩
      rw [hy12, hw12]
      have hx12 : Below w7.heap.size w7 y12 := by rw [← hy12]; exact balloc (Below.refl _ _) _
      have HN12 : Hid (y12.heap[b12]? = some (.cells Tryz.zeroCells78 78 (0, 0))) := Lib.hid (by rw [← hy12, ← hw12]; exact heap_alloc_new _ _)
      have HG12 : Hid (wr.heap.size ≤ b12) := Lib.hid (by have := HBE.out.size; omega)
      clear hy12 hw12
      have HBE := Lib.hid (bthen HBE.out hx12)
      have hSp := HSS.out _ HBE.out
      clear hHeld
      refine hK.out _ _ hSp (fun hHeld => ?_)
      clear hSp hK K
      try simp only [Act.put, List.setIfInBounds_toArray, List.set_cons_zero, List.set_cons_succ]
      have HBX := Lib.hid ((hx12.block g7 (Array.getElem?_eq_some_iff.1 HBX.out).1).trans HBX.out)
      clear hx12
      refine wpAnyH_ready (rs := [8]) (by kernel_rfl) (by simp) ?_
      refine AllReadyH.cons rfl (fun K hK => ?_) (AllReadyH.nil)
      simp only [List.getElem_toArray, List.getElem_cons_zero, List.getElem_cons_succ]
      go_simp
      refine (CB.out _ _ HBX.out).mono ?_
      rintro e w8 ⟨rfl, hb8⟩
      dsimp only
      have HBE := Lib.hid (bthen HBE.out hb8)
      have hSp := HSS.out _ HBE.out
      clear hHeld
      refine hK.out _ _ hSp (fun hHeld => ?_)
      clear hSp hK K
      try simp only [Act.put, List.setIfInBounds_toArray, List.set_cons_zero, List.set_cons_succ]
      have HN12 := Lib.hid ((hb8.block b12 (Array.getElem?_eq_some_iff.1 HN12.out).1).trans HN12.out)
      have HBX := Lib.hid ((hb8.block g7 (Array.getElem?_eq_some_iff.1 HBX.out).1).trans HBX.out)
      have HC8 := Lib.hid hb8
      clear hb8
      refine wpAnyH_take (i := 9) (v := ?_) rfl (by kernel_rfl) (by kernel_rfl) (by kernel_rfl) (fun _ _ _ h => h) (Or.inl ⟨by rfl, ?_⟩) (by assumption) ?_
      rotate_left
      ·(intro w hSw; (try dsimp only at hSw); simp only [List.getElem_toArray, List.getElem_cons_zero, List.getElem_cons_succ]; go_simp; first | done | with_reducible rfl)
      simp only [List.getElem_toArray, List.getElem_cons_zero, List.getElem_cons_succ, Act.put, List.setIfInBounds_toArray, List.set_cons_zero, List.set_cons_succ]
      refine wpAnyH_take (i := 10) (v := ?_) rfl (by kernel_rfl) (by kernel_rfl) (by kernel_rfl) (fun _ _ _ h => h) (Or.inl ⟨by rfl, ?_⟩) (by assumption) ?_
      rotate_left
      ·(intro w hSw; (try dsimp only at hSw); simp only [List.getElem_toArray, List.getElem_cons_zero, List.getElem_cons_succ]; go_simp; first | done | with_reducible rfl)
      simp only [List.getElem_toArray, List.getElem_cons_zero, List.getElem_cons_succ, Act.put, List.setIfInBounds_toArray, List.set_cons_zero, List.set_cons_succ]
      refine wpAnyH_take (i := 11) (v := ?_) rfl (by kernel_rfl) (by kernel_rfl) (by kernel_rfl) (fun _ _ _ h => h) (Or.inl ⟨by rfl, ?_⟩) (by assumption) ?_
      rotate_left
      ·(intro w hSw; (try dsimp only at hSw); simp only [List.getElem_toArray, List.getElem_cons_zero, List.getElem_cons_succ]; go_simp; first | done | with_reducible rfl)
      simp only [List.getElem_toArray, List.getElem_cons_zero, List.getElem_cons_succ, Act.put, List.setIfInBounds_toArray, List.set_cons_zero, List.set_cons_succ]
      refine wpAnyH_ready (rs := [13]) (by kernel_rfl) (by simp) ?_
      refine AllReadyH.cons rfl (fun K hK => ?_) (AllReadyH.nil)
      obtain ⟨w13, hst13, hg13, hm13⟩ := store_at (P := Tryz.prog) w8 b12 78 _ L.toArray HN12.out (by rw [zszM, List.size_toArray, HLL.out]) (fun u hu => HL1.out u (by simpa using hu))
      have hst13' := hst13
      rw [List.toList_toArray] at hst13'
      have hll := HLL.out
      have HBE : Hid (Below wr.heap.size wr w13) := Lib.hid (HBE.out.trans (hm13.below (fun k hk => by have := HG12.out; have e := List.mem_singleton.1 hk; omega) HBE.out.size))
      simp only [List.getElem_toArray, List.getElem_cons_zero, List.getElem_cons_succ]
      go_simp
      refine hK.out _ _ ?_ (fun hHeld => ?_)
      ·exact HSS.out _ HBE.out
      clear hK K
      try simp only [Act.put, List.setIfInBounds_toArray, List.set_cons_zero, List.set_cons_succ]
      have HN12 := Lib.hid hg13
      clear hg13 hm13 hst13 hst13' hll
      refine wpAnyH_take (i := 14) (v := ?_) rfl (by kernel_rfl) (by kernel_rfl) (by kernel_rfl) (fun _ _ _ h => h) (Or.inl ⟨by rfl, ?_⟩) (by assumption) ?_
      rotate_left
      ·(intro w hSw; (try dsimp only at hSw); simp only [List.getElem_toArray, List.getElem_cons_zero, List.getElem_cons_succ]; go_simp; first | done | with_reducible rfl)
      simp only [List.getElem_toArray, List.getElem_cons_zero, List.getElem_cons_succ, Act.put, List.setIfInBounds_toArray, List.set_cons_zero, List.set_cons_succ]
      refine wpAnyH_done (by kernel_rfl) ?_ _
      have HEND := Lib.hid hHeld.2
      have HSE := Lib.hid hHeld.1
      clear hHeld
      clear HSS HEND
      have HPD : Hid (w13.cell? ⟨w.heap.size, 3 + i, none⟩ = some (.int .u32 (pn : Int))) := Lib.hid HSE.out
      have HDK2 := Lib.hid (HDK.out.below HBE.out)
      have HRL : Hid (w13.rangeAt b12 0 L) := Lib.hid (rangeOf HN12.out)
      have HX13 : Hid (w13.heap[w.heap.size]? = some (.cells (suL s).toArray 72 (0, 0))) := Lib.hid ((HBE.out.block _ HPC1.out).trans HX.out)
      have HBG : Hid (w.heap.size < w13.heap.size ∧ w.heap.size ∉ dF B iv jv') := Lib.hid ⟨(Array.getElem?_eq_some_iff.1 HX13.out).1, HDK2.out.apart HX13.out (by decide) (by decide) (by decide)⟩
      have HBG2 : Hid (b12 < w13.heap.size ∧ b12 ∉ dF B iv jv') := Lib.hid ⟨(Array.getElem?_eq_some_iff.1 HN12.out).1, HDK2.out.apart HN12.out (by decide) (by decide) (by decide)⟩
      have HBW := Lib.hid HBE.out
      have HIB : Hid ((Tryz.prog.info? 78).map (·.size) = some L.length) := Lib.hid (by rw [HLL.out]; exact infoBlk)
      clear HSE
      go_wp2_with fail
      have HSS : Hid (∀ X, Mods (dF B iv jv') w13 X → (X.cell? ⟨w.heap.size, 3 + i, none⟩ = some (.int .u32 (pn : Int)) ∧ X.rangeAt b12 0 L) ∧ Mods (dF B iv jv') w13 X) := Lib.hid (fun X hb => ⟨⟨(World.cell?_of_block (hb.block _ (HBG.out.1) (HBG.out.2))).trans (HPD.out), (fun j u hj => (World.cell?_of_block (a := ⟨b12, 0 + j, none⟩) (hb.block b12 HBG2.out.1 HBG2.out.2)).trans (HRL.out j u hj))⟩, hb⟩)
      refine wp_region_held_drew (S := fun X => (X.cell? ⟨w.heap.size, 3 + i, none⟩ = some (.int .u32 (pn : Int)) ∧ X.rangeAt b12 0 L) ∧ Mods (dF B iv jv') w13 X) (by kernel_rfl) (HSS.out _ (Mods.of_below (Below.refl _ _).drew)) (fun hHeld => ?_)
      have hbe : Below w13.heap.size w13 w13.drew := (Below.refl _ _).drew
      obtain ⟨wd, hwd⟩ : ∃ y, w13.drew = y := ⟨_, rfl⟩
      rw [hwd] at hHeld hbe ⊢
      have HBE := Lib.hid hbe
      have HS0 : Hid (w13.heap.size ≤ wd.heap.size) := Lib.hid HBE.out.size
      clear hwd hbe
      refine wpAnyH_take (i := 0) (v := ?_) rfl (by kernel_rfl) (by kernel_rfl) (by kernel_rfl) (fun _ _ _ h => h) (Or.inl ⟨by rfl, ?_⟩) (by assumption) ?_
      rotate_left
      ·(intro w hSw; (try dsimp only at hSw); simp only [List.getElem_toArray, List.getElem_cons_zero, List.getElem_cons_succ]; go_simp; first | done | with_reducible rfl)
      simp only [List.getElem_toArray, List.getElem_cons_zero, List.getElem_cons_succ, Act.put, List.setIfInBounds_toArray, List.set_cons_zero, List.set_cons_succ]
      refine wpAnyH_take (i := 1) (v := ?_) rfl (by kernel_rfl) (by kernel_rfl) (by kernel_rfl) (fun _ _ _ h => h) (Or.inl ⟨by rfl, ?_⟩) (by assumption) ?_
      rotate_left
      ·(intro w hSw; (try dsimp only at hSw); simp only [List.getElem_toArray, List.getElem_cons_zero, List.getElem_cons_succ]; go_simp; first | done | with_reducible rfl)
      simp only [List.getElem_toArray, List.getElem_cons_zero, List.getElem_cons_succ, Act.put, List.setIfInBounds_toArray, List.set_cons_zero, List.set_cons_succ]
      refine wpAnyH_take (i := 2) (v := ?_) rfl (by kernel_rfl) (by kernel_rfl) (by kernel_rfl) (fun _ _ _ h => h) (Or.inl ⟨by rfl, ?_⟩) (by assumption) ?_
      rotate_left
      ·(intro w hSw; (try dsimp only at hSw); simp only [List.getElem_toArray, List.getElem_cons_zero, List.getElem_cons_succ]; go_simp; first | done | with_reducible rfl)
      simp only [List.getElem_toArray, List.getElem_cons_zero, List.getElem_cons_succ, Act.put, List.setIfInBounds_toArray, List.set_cons_zero, List.set_cons_succ]
      refine wpAnyH_take (i := 7) (v := _) rfl (by kernel_rfl) (by kernel_rfl) (by kernel_rfl) (fun _ _ _ h => h) (yieldsIf_load_mid (by rfl) 78 _ rfl (b12) (0) rfl (L) _ (fun w hSw => hSw.1.2) (Tryz.underlying78) rfl (HIB.out)) (by assumption) ?_
      simp only [List.getElem_toArray, List.getElem_cons_zero, List.getElem_cons_succ, Act.put, List.setIfInBounds_toArray, List.set_cons_zero, List.set_cons_succ]
      refine wpAnyH_take (i := 3) (v := ?_) rfl (by kernel_rfl) (by kernel_rfl) (by kernel_rfl) (fun _ _ _ h => h) (Or.inl ⟨by rfl, ?_⟩) (by assumption) ?_
      rotate_left
      ·(intro w hSw; (try dsimp only at hSw); simp only [List.getElem_toArray, List.getElem_cons_zero, List.getElem_cons_succ]; go_simp; first | done | with_reducible rfl)
      simp only [List.getElem_toArray, List.getElem_cons_zero, List.getElem_cons_succ, Act.put, List.setIfInBounds_toArray, List.set_cons_zero, List.set_cons_succ]
      refine wpAnyH_take (i := 4) (v := ?_) rfl (by kernel_rfl) (by kernel_rfl) (by kernel_rfl) (fun _ _ _ h => h) (Or.inl ⟨by rfl, ?_⟩) (by assumption) ?_
      rotate_left
      ·(intro w hSw; (try dsimp only at hSw); simp only [List.getElem_toArray, List.getElem_cons_zero, List.getElem_cons_succ]; go_simp; first | done | with_reducible rfl)
      simp only [List.getElem_toArray, List.getElem_cons_zero, List.getElem_cons_succ, Act.put, List.setIfInBounds_toArray, List.set_cons_zero, List.set_cons_succ]
      refine wpAnyH_take (i := 5) (v := ?_) rfl (by kernel_rfl) (by kernel_rfl) (by kernel_rfl) (fun _ _ _ h => h) (Or.inl ⟨by rfl, ?_⟩) (by assumption) ?_
      rotate_left
      ·(intro w hSw; (try dsimp only at hSw); simp only [List.getElem_toArray, List.getElem_cons_zero, List.getElem_cons_succ]; go_simp; first | done | with_reducible rfl)
      simp only [List.getElem_toArray, List.getElem_cons_zero, List.getElem_cons_succ, Act.put, List.setIfInBounds_toArray, List.set_cons_zero, List.set_cons_succ]
      refine wpAnyH_take (i := 6) (v := ?_) rfl (by kernel_rfl) (by kernel_rfl) (by kernel_rfl) (fun _ _ _ h => h) (Or.inl ⟨by rfl, ?_⟩) (by assumption) ?_
      rotate_left
      ·(intro w hSw; (try dsimp only at hSw); simp only [List.getElem_toArray, List.getElem_cons_zero, List.getElem_cons_succ]; go_simp; first | done | with_reducible rfl)
      simp only [List.getElem_toArray, List.getElem_cons_zero, List.getElem_cons_succ, Act.put, List.setIfInBounds_toArray, List.set_cons_zero, List.set_cons_succ]
      refine wpAnyH_ready (rs := [8]) (by kernel_rfl) (by simp) ?_
      refine AllReadyH.cons rfl (fun K hK => ?_) (AllReadyH.nil)
      simp only [List.getElem_toArray, List.getElem_cons_zero, List.getElem_cons_succ]
      go_simp
      refine (CW.out _ (Chg.of_below (bthn HBW.out HBE.out)) (HDK2.out.below HBE.out)).mono ?_
      rintro e w9 ⟨rfl, jv2, hd2, hc2⟩
      dsimp only
      refine hK.out _ _ ?_ (fun hHeld => ?_)
      ·exact HSS.out _ ((Mods.of_below HBE.out).trans hc2.1 (fun k hk => .inl hk))
      clear hK K
      try simp only [Act.put, List.setIfInBounds_toArray, List.set_cons_zero, List.set_cons_succ]
      have HD9 := Lib.hid hd2
      have HC9 : Hid (Chg (dF B iv jv') wr w9 (dF B iv jv2)) := Lib.hid (Chg.pre (bthn HBW.out HBE.out) hc2)
      clear hd2 hc2
      refine wpAnyH_take (i := 9) (v := ?_) rfl (by kernel_rfl) (by kernel_rfl) (by kernel_rfl) (fun _ _ _ h => h) (Or.inl ⟨by rfl, ?_⟩) (by assumption) ?_
      rotate_left
      ·(intro w hSw; (try dsimp only at hSw); simp only [List.getElem_toArray, List.getElem_cons_zero, List.getElem_cons_succ]; go_simp; first | done | with_reducible rfl)
      simp only [List.getElem_toArray, List.getElem_cons_zero, List.getElem_cons_succ, Act.put, List.setIfInBounds_toArray, List.set_cons_zero, List.set_cons_succ]
      refine wpAnyH_done (by kernel_rfl) ?_ _
      have HEND := Lib.hid hHeld.2
      have HSE := Lib.hid hHeld.1
      clear hHeld
      clear HSS HSE HEND
      have HX9 : Hid (w9.heap[w.heap.size]? = some (.cells (suL s).toArray 72 (0, 0))) := Lib.hid ((HC9.out.1.block _ HPC1.out HBG.out.2).trans HX.out)
      go_wp2_with fail
      go_roundw
      case rel => exact ⟨i + 1, jv2, by omega, by go_num, HD9.out, HCH.out.trans HC9.out, HX9.out⟩
      case measure => simp [Go.RowKit.intOf]; omega
    ·skip
     simp only [List.getElem_toArray, List.getElem_cons_zero, List.getElem_cons_succ]
     go_simp
     obtain ⟨b12, hw12⟩ : ∃ b, wd.heap.size = b := ⟨_, rfl⟩
     obtain ⟨y12, hy12⟩ : ∃ y, wd.alloc (.cells Tryz.zeroCells78 78) = y := ⟨_, rfl⟩
     rw [hy12, hw12]
     have hx12 : Below wd.heap.size wd y12 := by rw [← hy12]; exact balloc (Below.refl _ _) _
     have HN12 : Hid (y12.heap[b12]? = some (.cells Tryz.zeroCells78 78 (0, 0))) := Lib.hid (by rw [← hy12, ← hw12]; exact heap_alloc_new _ _)
     have HG12 : Hid (wr.heap.size ≤ b12) := Lib.hid (by have := HBE.out.size; omega)
     clear hy12 hw12
     have HBE := Lib.hid (bthen HBE.out hx12)
     have hSp := HSS.out _ HBE.out
     clear hHeld
     refine hK.out _ _ hSp (fun hHeld => ?_)
     clear hSp hK K
     try simp only [Act.put, List.setIfInBounds_toArray, List.set_cons_zero, List.set_cons_succ]
     clear hx12
     refine wpAnyH_ready (rs := [7]) (by kernel_rfl) (by simp) ?_
     refine AllReadyH.cons rfl (fun K hK => ?_) (AllReadyH.nil)
     simp only [List.getElem_toArray, List.getElem_cons_zero, List.getElem_cons_succ]
     go_simp
     refine (CP.out _ HBE.out).mono ?_
     rintro e w7 ⟨g7, rfl, hbx7, hge7, hb7⟩
     dsimp only
     have HBE := Lib.hid (bthen HBE.out hb7)
     have hSp := HSS.out _ HBE.out
     clear hHeld
     refine hK.out _ _ hSp (fun hHeld => ?_)
     clear hSp hK K
     try simp only [Act.put, List.setIfInBounds_toArray, List.set_cons_zero, List.set_cons_succ]
     have HN12 := Lib.hid ((hb7.block b12 (Array.getElem?_eq_some_iff.1 HN12.out).1).trans HN12.out)
     have HBX := Lib.hid hbx7
     clear hbx7 hge7
     have HC7 := Lib.hid hb7
     clear hb7
     refine wpAnyH_ready (rs := [8]) (by kernel_rfl) (by simp) ?_
     refine AllReadyH.cons rfl (fun K hK => ?_) (AllReadyH.nil)
     simp only [List.getElem_toArray, List.getElem_cons_zero, List.getElem_cons_succ]
     go_simp
     refine (CB.out _ _ HBX.out).mono ?_
     rintro e w8 ⟨rfl, hb8⟩
     dsimp only
     have HBE := Lib.hid (bthen HBE.out hb8)
     have hSp := HSS.out _ HBE.out
     clear hHeld
     refine hK.out _ _ hSp (fun hHeld => ?_)
     clear hSp hK K
     try simp only [Act.put, List.setIfInBounds_toArray, List.set_cons_zero, List.set_cons_succ]
     have HN12 := Lib.hid ((hb8.block b12 (Array.getElem?_eq_some_iff.1 HN12.out).1).trans HN12.out)
     have HBX := Lib.hid ((hb8.block g7 (Array.getElem?_eq_some_iff.1 HBX.out).1).trans HBX.out)
     have HC8 := Lib.hid hb8
     clear hb8
     refine wpAnyH_take (i := 9) (v := ?_) rfl (by kernel_rfl) (by kernel_rfl) (by kernel_rfl) (fun _ _ _ h => h) (Or.inl ⟨by rfl, ?_⟩) (by assumption) ?_
     rotate_left
     ·(intro w hSw; (try dsimp only at hSw); simp only [List.getElem_toArray, List.getElem_cons_zero, List.getElem_cons_succ]; go_simp; first | done | with_reducible rfl)
     simp only [List.getElem_toArray, List.getElem_cons_zero, List.getElem_cons_succ, Act.put, List.setIfInBounds_toArray, List.set_cons_zero, List.set_cons_succ]
     refine wpAnyH_take (i := 10) (v := ?_) rfl (by kernel_rfl) (by kernel_rfl) (by kernel_rfl) (fun _ _ _ h => h) (Or.inl ⟨by rfl, ?_⟩) (by assumption) ?_
     rotate_left
     ·(intro w hSw; (try dsimp only at hSw); simp only [List.getElem_toArray, List.getElem_cons_zero, List.getElem_cons_succ]; go_simp; first | done | with_reducible rfl)
     simp only [List.getElem_toArray, List.getElem_cons_zero, List.getElem_cons_succ, Act.put, List.setIfInBounds_toArray, List.set_cons_zero, List.set_cons_succ]
     refine wpAnyH_take (i := 11) (v := ?_) rfl (by kernel_rfl) (by kernel_rfl) (by kernel_rfl) (fun _ _ _ h => h) (Or.inl ⟨by rfl, ?_⟩) (by assumption) ?_
     rotate_left
     ·(intro w hSw; (try dsimp only at hSw); simp only [List.getElem_toArray, List.getElem_cons_zero, List.getElem_cons_succ]; go_simp; first | done | with_reducible rfl)
     simp only [List.getElem_toArray, List.getElem_cons_zero, List.getElem_cons_succ, Act.put, List.setIfInBounds_toArray, List.set_cons_zero, List.set_cons_succ]
     refine wpAnyH_ready (rs := [13]) (by kernel_rfl) (by simp) ?_
     refine AllReadyH.cons rfl (fun K hK => ?_) (AllReadyH.nil)
     obtain ⟨w13, hst13, hg13, hm13⟩ := store_at (P := Tryz.prog) w8 b12 78 _ L.toArray HN12.out (by rw [zszM, List.size_toArray, HLL.out]) (fun u hu => HL1.out u (by simpa using hu))
     have hst13' := hst13
     rw [List.toList_toArray] at hst13'
     have hll := HLL.out
     have HBE : Hid (Below wr.heap.size wr w13) := Lib.hid (HBE.out.trans (hm13.below (fun k hk => by have := HG12.out; have e := List.mem_singleton.1 hk; omega) HBE.out.size))
     simp only [List.getElem_toArray, List.getElem_cons_zero, List.getElem_cons_succ]
     go_simp
     refine hK.out _ _ ?_ (fun hHeld => ?_)
     ·exact HSS.out _ HBE.out
     clear hK K
     try simp only [Act.put, List.setIfInBounds_toArray, List.set_cons_zero, List.set_cons_succ]
     have HN12 := Lib.hid hg13
     clear hg13 hm13 hst13 hst13' hll
     refine wpAnyH_take (i := 14) (v := ?_) rfl (by kernel_rfl) (by kernel_rfl) (by kernel_rfl) (fun _ _ _ h => h) (Or.inl ⟨by rfl, ?_⟩) (by assumption) ?_
     rotate_left
     ·(intro w hSw; (try dsimp only at hSw); simp only [List.getElem_toArray, List.getElem_cons_zero, List.getElem_cons_succ]; go_simp; first | done | with_reducible rfl)
     simp only [List.getElem_toArray, List.getElem_cons_zero, List.getElem_cons_succ, Act.put, List.setIfInBounds_toArray, List.set_cons_zero, List.set_cons_succ]
     refine wpAnyH_done (by kernel_rfl) ?_ _
     have HEND := Lib.hid hHeld.2
     have HSE := Lib.hid hHeld.1
     clear hHeld
     clear HSS HEND
     have HPD : Hid (w13.cell? ⟨w.heap.size, 3 + i, none⟩ = some (.int .u32 (pn : Int))) := Lib.hid HSE.out
     have HDK2 := Lib.hid (HDK.out.below HBE.out)
     have HRL : Hid (w13.rangeAt b12 0 L) := Lib.hid (rangeOf HN12.out)
     have HX13 : Hid (w13.heap[w.heap.size]? = some (.cells (suL s).toArray 72 (0, 0))) := Lib.hid ((HBE.out.block _ HPC1.out).trans HX.out)
     have HBG : Hid (w.heap.size < w13.heap.size ∧ w.heap.size ∉ dF B iv jv') := Lib.hid ⟨(Array.getElem?_eq_some_iff.1 HX13.out).1, HDK2.out.apart HX13.out (by decide) (by decide) (by decide)⟩
     have HBG2 : Hid (b12 < w13.heap.size ∧ b12 ∉ dF B iv jv') := Lib.hid ⟨(Array.getElem?_eq_some_iff.1 HN12.out).1, HDK2.out.apart HN12.out (by decide) (by decide) (by decide)⟩
     have HBW := Lib.hid HBE.out
     have HIB : Hid ((Tryz.prog.info? 78).map (·.size) = some L.length) := Lib.hid (by rw [HLL.out]; exact infoBlk)
     clear HSE
     go_wp2_with fail
     have HSS : Hid (∀ X, Mods (dF B iv jv') w13 X → (X.cell? ⟨w.heap.size, 3 + i, none⟩ = some (.int .u32 (pn : Int)) ∧ X.rangeAt b12 0 L) ∧ Mods (dF B iv jv') w13 X) := Lib.hid (fun X hb => ⟨⟨(World.cell?_of_block (hb.block _ (HBG.out.1) (HBG.out.2))).trans (HPD.out), (fun j u hj => (World.cell?_of_block (a := ⟨b12, 0 + j, none⟩) (hb.block b12 HBG2.out.1 HBG2.out.2)).trans (HRL.out j u hj))⟩, hb⟩)
     refine wp_region_held_drew (S := fun X => (X.cell? ⟨w.heap.size, 3 + i, none⟩ = some (.int .u32 (pn : Int)) ∧ X.rangeAt b12 0 L) ∧ Mods (dF B iv jv') w13 X) (by kernel_rfl) (HSS.out _ (Mods.of_below (Below.refl _ _).drew)) (fun hHeld => ?_)
     have hbe : Below w13.heap.size w13 w13.drew := (Below.refl _ _).drew
     obtain ⟨wd, hwd⟩ : ∃ y, w13.drew = y := ⟨_, rfl⟩
     rw [hwd] at hHeld hbe ⊢
     have HBE := Lib.hid hbe
     have HS0 : Hid (w13.heap.size ≤ wd.heap.size) := Lib.hid HBE.out.size
     clear hwd hbe
     refine wpAnyH_take (i := 0) (v := ?_) rfl (by kernel_rfl) (by kernel_rfl) (by kernel_rfl) (fun _ _ _ h => h) (Or.inl ⟨by rfl, ?_⟩) (by assumption) ?_
     rotate_left
     ·(intro w hSw; (try dsimp only at hSw); simp only [List.getElem_toArray, List.getElem_cons_zero, List.getElem_cons_succ]; go_simp; first | done | with_reducible rfl)
     simp only [List.getElem_toArray, List.getElem_cons_zero, List.getElem_cons_succ, Act.put, List.setIfInBounds_toArray, List.set_cons_zero, List.set_cons_succ]
     refine wpAnyH_take (i := 1) (v := ?_) rfl (by kernel_rfl) (by kernel_rfl) (by kernel_rfl) (fun _ _ _ h => h) (Or.inl ⟨by rfl, ?_⟩) (by assumption) ?_
     rotate_left
     ·(intro w hSw; (try dsimp only at hSw); simp only [List.getElem_toArray, List.getElem_cons_zero, List.getElem_cons_succ]; go_simp; first | done | with_reducible rfl)
     simp only [List.getElem_toArray, List.getElem_cons_zero, List.getElem_cons_succ, Act.put, List.setIfInBounds_toArray, List.set_cons_zero, List.set_cons_succ]
     refine wpAnyH_take (i := 2) (v := ?_) rfl (by kernel_rfl) (by kernel_rfl) (by kernel_rfl) (fun _ _ _ h => h) (Or.inl ⟨by rfl, ?_⟩) (by assumption) ?_
     rotate_left
     ·(intro w hSw; (try dsimp only at hSw); simp only [List.getElem_toArray, List.getElem_cons_zero, List.getElem_cons_succ]; go_simp; first | done | with_reducible rfl)
     simp only [List.getElem_toArray, List.getElem_cons_zero, List.getElem_cons_succ, Act.put, List.setIfInBounds_toArray, List.set_cons_zero, List.set_cons_succ]
     refine wpAnyH_take (i := 7) (v := _) rfl (by kernel_rfl) (by kernel_rfl) (by kernel_rfl) (fun _ _ _ h => h) (yieldsIf_load_mid (by rfl) 78 _ rfl (b12) (0) rfl (L) _ (fun w hSw => hSw.1.2) (Tryz.underlying78) rfl (HIB.out)) (by assumption) ?_
     simp only [List.getElem_toArray, List.getElem_cons_zero, List.getElem_cons_succ, Act.put, List.setIfInBounds_toArray, List.set_cons_zero, List.set_cons_succ]
     refine wpAnyH_take (i := 3) (v := ?_) rfl (by kernel_rfl) (by kernel_rfl) (by kernel_rfl) (fun _ _ _ h => h) (Or.inl ⟨by rfl, ?_⟩) (by assumption) ?_
     rotate_left
     ·(intro w hSw; (try dsimp only at hSw); simp only [List.getElem_toArray, List.getElem_cons_zero, List.getElem_cons_succ]; go_simp; first | done | with_reducible rfl)
     simp only [List.getElem_toArray, List.getElem_cons_zero, List.getElem_cons_succ, Act.put, List.setIfInBounds_toArray, List.set_cons_zero, List.set_cons_succ]
     refine wpAnyH_take (i := 4) (v := ?_) rfl (by kernel_rfl) (by kernel_rfl) (by kernel_rfl) (fun _ _ _ h => h) (Or.inl ⟨by rfl, ?_⟩) (by assumption) ?_
     rotate_left
     ·(intro w hSw; (try dsimp only at hSw); simp only [List.getElem_toArray, List.getElem_cons_zero, List.getElem_cons_succ]; go_simp; first | done | with_reducible rfl)
     simp only [List.getElem_toArray, List.getElem_cons_zero, List.getElem_cons_succ, Act.put, List.setIfInBounds_toArray, List.set_cons_zero, List.set_cons_succ]
     refine wpAnyH_take (i := 5) (v := ?_) rfl (by kernel_rfl) (by kernel_rfl) (by kernel_rfl) (fun _ _ _ h => h) (Or.inl ⟨by rfl, ?_⟩) (by assumption) ?_
     rotate_left
     ·(intro w hSw; (try dsimp only at hSw); simp only [List.getElem_toArray, List.getElem_cons_zero, List.getElem_cons_succ]; go_simp; first | done | with_reducible rfl)
     simp only [List.getElem_toArray, List.getElem_cons_zero, List.getElem_cons_succ, Act.put, List.setIfInBounds_toArray, List.set_cons_zero, List.set_cons_succ]
     refine wpAnyH_take (i := 6) (v := ?_) rfl (by kernel_rfl) (by kernel_rfl) (by kernel_rfl) (fun _ _ _ h => h) (Or.inl ⟨by rfl, ?_⟩) (by assumption) ?_
     rotate_left
     ·(intro w hSw; (try dsimp only at hSw); simp only [List.getElem_toArray, List.getElem_cons_zero, List.getElem_cons_succ]; go_simp; first | done | with_reducible rfl)
     simp only [List.getElem_toArray, List.getElem_cons_zero, List.getElem_cons_succ, Act.put, List.setIfInBounds_toArray, List.set_cons_zero, List.set_cons_succ]
     refine wpAnyH_ready (rs := [8]) (by kernel_rfl) (by simp) ?_
     refine AllReadyH.cons rfl (fun K hK => ?_) (AllReadyH.nil)
     simp only [List.getElem_toArray, List.getElem_cons_zero, List.getElem_cons_succ]
     go_simp
     refine (CW.out _ (Chg.of_below (bthn HBW.out HBE.out)) (HDK2.out.below HBE.out)).mono ?_
     rintro e w9 ⟨rfl, jv2, hd2, hc2⟩
     dsimp only
     refine hK.out _ _ ?_ (fun hHeld => ?_)
     ·exact HSS.out _ ((Mods.of_below HBE.out).trans hc2.1 (fun k hk => .inl hk))
     clear hK K
     try simp only [Act.put, List.setIfInBounds_toArray, List.set_cons_zero, List.set_cons_succ]
     have HD9 := Lib.hid hd2
     have HC9 : Hid (Chg (dF B iv jv') wr w9 (dF B iv jv2)) := Lib.hid (Chg.pre (bthn HBW.out HBE.out) hc2)
     clear hd2 hc2
     refine wpAnyH_take (i := 9) (v := ?_) rfl (by kernel_rfl) (by kernel_rfl) (by kernel_rfl) (fun _ _ _ h => h) (Or.inl ⟨by rfl, ?_⟩) (by assumption) ?_
     rotate_left
     ·(intro w hSw; (try dsimp only at hSw); simp only [List.getElem_toArray, List.getElem_cons_zero, List.getElem_cons_succ]; go_simp; first | done | with_reducible rfl)
     simp only [List.getElem_toArray, List.getElem_cons_zero, List.getElem_cons_succ, Act.put, List.setIfInBounds_toArray, List.set_cons_zero, List.set_cons_succ]
     refine wpAnyH_done (by kernel_rfl) ?_ _
     have HEND := Lib.hid hHeld.2
     have HSE := Lib.hid hHeld.1
     clear hHeld
     clear HSS HSE HEND
     have HX9 : Hid (w9.heap[w.heap.size]? = some (.cells (suL s).toArray 72 (0, 0))) := Lib.hid ((HC9.out.1.block _ HPC1.out HBG.out.2).trans HX.out)
     go_wp2_with fail
     go_roundw
     case rel => exact ⟨i + 1, jv2, by omega, by go_num, HD9.out, HCH.out.trans HC9.out, HX9.out⟩
     case measure => simp [Go.RowKit.intOf]; omega
  ·obtain rfl : i = f + f2 := by omega
   have HC := Lib.hid (Chg.pre HB1.out hch)
   clear hdk hch hx
   go_wp2_with fail
   go_ret
   exact ⟨rfl, jv', HDK.out, HC.out⟩
end Go.Proofs.YtgmahhdnjikdjaaGreat
