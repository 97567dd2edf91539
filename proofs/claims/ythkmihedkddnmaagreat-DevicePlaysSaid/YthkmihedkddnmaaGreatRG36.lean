import Derived.Test.YthkmihedkddnmaaGreatRG2
import Derived.Test.YthkmihedkddnmaaGreatRG18
import Derived.Test.YthkmihedkddnmaaGreatRG35
set_option linter.unusedVariables false
set_option linter.unusedSimpArgs false
set_option maxHeartbeats 12800000
set_option maxRecDepth 100000
namespace Go.Proofs.YthkmihedkddnmaaGreat
open Lib (hid)
open Go.RowKit Go.Maps Wire Cmd
theorem devPlays_any (ao : Option Addr) (n cap : Nat) (L : List (Op0 × Value)) (leave : Int) (w : World) (hL : Ops w ao n cap L) :
  Calls Tryz.prog 3 #[.slice ao n cap, .int .i64 leave] w fun e w' => e = .returned (.bool true) ∧ Below w.heap.size w w' := by
 have hnn : n ≤ 9223372036854775807 := by obtain ⟨_, h1, h2, _⟩ := hL; unfold maxLen at h2; omega
 have HLX : Hid (∀ X, Below w.heap.size w X → Ops X ao n cap L) := hid (fun X hX => hL.below hX); have HLL := hid hL.1; have C1 := much14_any ao n cap L w hL; obtain ⟨b1, hb1⟩ : ∃ b, muchD L = b := ⟨_, rfl⟩
 have HMU1 := hid hb1; rw [hb1] at C1; clear hb1 hL
 go_enter Tryz.func3, Tryz.ntmps3
 go_wp2_with fail; refine C1.mono ?_; rintro e w1 ⟨rfl, hb1⟩; have HB1 := hid hb1; clear C1 hb1
 cases b1 with
 | true =>
  have CK := known14_any w1; go_wp2_with fail; refine CK.mono ?_; rintro e w2 ⟨rfl, hb2⟩; have HB2 := hid (bthen HB1.out hb2); clear CK hb2; go_wp2_with fail; go_ret; exact ⟨rfl, HB2.out⟩
 | false =>
 have CN := dnew_any w.heap.size w1 HB1.out.size; go_wp2_with fail; refine CN.mono ?_; rintro e w2 ⟨B, Ba, rfl, hd2, hb2, _, _⟩; dsimp only; have HD2 := hid hd2; have HB2 := hid (bthen HB1.out hb2); clear CN hd2 hb2; obtain ⟨w3, hw3⟩ : ∃ y, w2.alloc (.cells #[.slice none 0 0] 30) = y := ⟨_, rfl⟩
 have hb3 : Below w2.heap.size w2 w3 := by rw [← hw3]; exact balloc (Below.refl _ _) _
 have hx3 : w3.heap[w2.heap.size]? = some (.cells #[.slice none 0 0] 30 (0, 0)) := by rw [← hw3]; exact heap_alloc_new w2 _
 obtain ⟨C, hC⟩ : ∃ C, w2.heap.size = C := ⟨_, rfl⟩
 rw [hC] at hx3; have HU3 : Hid (DuoD w.heap.size w3 B Ba [] C (.slice none 0 0) []) := hid ⟨HD2.out.below hb3, ⟨hx3, World.ownsRow_nil _ _ _ _, fun p hp => (by cases hp), by rw [← hC]; exact HB2.out.size⟩, rfl⟩; have HB3 := hid (bthen HB2.out hb3); have CL := looks_any w.heap.size w.heap.size w3 B Ba [] HU3.out.a C _ [] HU3.out.b rfl (by decide) (by decide) leave; clear hb3 hx3; go_wp2_with fail
 (try rw [hw3])
 (try rw [hC])
 clear hw3 hC; refine CL.mono ?_; rintro e w4 ⟨rfl, hb4⟩; have HU4 := hid (HU3.out.below hb4); have HB4 := hid (bthen HB3.out hb4); clear CL hb4; go_wp2_with fail
 go_loopw [7] (fun i wr => ∃ (k : Nat) (sv : Value) (l : List (Nat × (Vl × Nat))) (lw : List (Nat × (Vl × Value))), k ≤ n ∧ i = .int .i64 (k : Int) ∧ DuoD w.heap.size wr B Ba l C sv lw ∧ l.length ≤ k ∧ Below w.heap.size w wr) (fun i _ => n - (Go.Proofs.intOf i).toNat)
 case atStart => exact ⟨0, _, [], [], Nat.zero_le _, rfl, HU4.out, Nat.le_refl _, HB4.out⟩
 case round =>
  obtain ⟨k, sv, l, lw, hk, rfl, hdu, hlk, hbw⟩ := hrel; have HU := hid hdu; have HBW := hid hbw; have HLK := hid hlk; clear hdu hbw hlk; have hmu := (muchD_no HMU1.out).1; have hn40 : n ≤ 40 := by rw [← HLL.out]; exact hmu
  clear hmu
  by_cases hlt : k < n
  ·have q0 : decide ((k : Int) < (n : Int)) = true := decide_eq_true (by omega)
   obtain ⟨x, hx⟩ : ∃ x, L[k]? = some x := ⟨_, List.getElem?_eq_getElem (by rw [HLL.out]; exact hlt)⟩
   have HX := hid hx; obtain ⟨bo, off, rfl, hbo, ⟨c0, c1, c2, c3, c4, c5, c6⟩, hok, hrd⟩ := (HLX.out _ (Below.refl _ _)).2.2.2.2 k x hx; obtain ⟨ax, cx, ex, _⟩ := id hrd; have HBO := hid hbo; have HCS : Hid (∀ X, Below w.heap.size w X → OpAt X bo (off + k * 7) x.1 x.2) := hid (fun X hX => by
    obtain ⟨b', off', e', _, h', _⟩ := (HLX.out X hX).2.2.2.2 k x HX.out; obtain ⟨rfl, rfl, _⟩ := Addr.mk.inj (Option.some.inj e'); exact h')
   obtain ⟨o, sl⟩ := x; dsimp only at ex hok hrd c0 c1 c2 c3 c4 c5 c6 HCS; have HODL : Hid (o.data.length ≤ 9000) := hid ((muchD_no HMU1.out).2 _ (List.mem_of_getElem? HX.out)); have HOK := hid hok; have HRD : Hid (∀ X, Below w.heap.size w X → Rd X 1 sl o.data.length (bV o.data)) := hid (fun X hX => hrd.below hX); have hex : sl = .slice ax o.data.length cx := ex; subst hex; clear ex hok hrd hx c0 c1 c2 c3 c4 c5 c6 hbo; obtain ⟨dl, hdl⟩ : ∃ d, o.data.length = d := ⟨_, rfl⟩
   have HDL := hid hdl
   have CD : Hid (∀ X, Below w.heap.size w X → DevAt w.heap.size X B Ba l → Calls Tryz.prog 12 #[.pointer (some ⟨B, 0, none⟩), .agg #[.int .i64 o.k, .int .u64 (o.vol : Int), .int .u64 (o.to : Int), .int .i64 o.size, .int .i64 o.pl, .int .i64 o.count, .slice ax dl cx]] X fun e w' => ∃ v l', e = .returned (.agg #[.int .i64 (stepD (strip l) o 1024).1.code, .int .i64 (stepD (strip l) o 1024).1.done, v]) ∧ DevAt w.heap.size w' B Ba l' ∧ strip l' = (stepD (strip l) o 1024).2 ∧ w'.ownsRow X.heap.size 5 1 v (stepD (strip l) o 1024).1.data.length (bV (stepD (strip l) o 1024).1.data) ∧ Chg (dF Ba l) X w' (dF Ba l')) :=
    hid (fun X hX hD => by have h1 := ddo_at w.heap.size X B Ba l hD o HOK.out ax cx (HRD.out X hX); rw [← hdl]; exact h1)
   have CR : Hid (∀ X, Below w.heap.size w X → RDevAt w.heap.size X C sv lw → Calls Tryz.prog 13 #[.pointer (some ⟨C, 0, none⟩), .agg #[.int .i64 o.k, .int .u64 (o.vol : Int), .int .u64 (o.to : Int), .int .i64 o.size, .int .i64 o.pl, .int .i64 o.count, .slice ax dl cx]] X fun e w' => ∃ v sv' l', e = .returned (.agg #[.int .i64 (stepD (strip l) o 1024).1.code, .int .i64 (stepD (strip l) o 1024).1.done, v]) ∧ RDevAt w.heap.size w' C sv' l' ∧ mapA (·.1) l' = (stepD (strip l) o 1024).2 ∧ w'.ownsRow X.heap.size 5 1 v (stepD (strip l) o 1024).1.data.length (bV (stepD (strip l) o 1024).1.data) ∧ Chg (C :: ob sv) X w' (C :: ob sv')) :=
    hid (fun X hX hD => by
     have h0 := both_len HU.out.eq; have h2 := HLK.out; have h1 := rdo_any w.heap.size X C sv lw hD hX.size o HOK.out ax cx (by have := HODL.out; omega) (by rw [HU.out.eq]; exact HU.out.a.ok) (by omega) (HRD.out X hX); rw [HU.out.eq, stepD_big HU.out.a.ok o 1073741824 (by omega)] at h1; rw [← hdl]; exact h1)
   rw [hdl] at HCS; obtain ⟨r, hr⟩ : ∃ r, stepD (strip l) o 1024 = r := ⟨_, rfl⟩
   have HRR := hid hr; rw [hr] at CD CR; clear hr hdl; have HFB : Hid (bo ∉ dF Ba l ++ (C :: ob sv)) := hid (fun h => by
    have h1 : w.heap.size ≤ bo := by
     rcases List.mem_append.1 h with h | h
     ·exact HU.out.a.geF bo h
     ·exact HU.out.b.geF bo h
    have h2 := HBO.out
    omega)
   have HBOL : Hid (bo < wr.heap.size) := hid (Nat.lt_of_lt_of_le HBO.out HBW.out.size); have HGE : Hid (∀ i ∈ dF Ba l ++ (C :: ob sv), w.heap.size ≤ i) := hid (fun i h => by
    rcases List.mem_append.1 h with h | h
    ·exact HU.out.a.geF i h
    ·exact HU.out.b.geF i h)
   have HFL : Hid (∀ i ∈ dF Ba l ++ (C :: ob sv), i < wr.heap.size) := hid (fun i h => by
    rcases List.mem_append.1 h with h | h
    ·obtain ⟨es, c, h1⟩ := HU.out.a.isMap i h
     exact (hLT h1)
    ·obtain ⟨cs, t, h1, _⟩ := HU.out.b.isCells i h
     exact (hLT h1))
   have HTO : Hid (∀ X, Mods (dF Ba l ++ (C :: ob sv)) wr X → Below w.heap.size w X) := hid (fun X h => HBW.out.trans (h.below (fun i hi => HGE.out i hi) HBW.out.size))
   go_upto_region 9 with fail
   go_cut [8, 9] (fun p q wx => ∃ W b12 b13, W = wx ∧ p = .pointer (some ⟨b12, 0, none⟩) ∧ q = .pointer (some ⟨b13, 0, none⟩) ∧ PlMeet w B Ba C (k + 1) r W b12 b13)
   case first =>
    have HSS : Hid (∀ X, Mods (dF Ba l ++ (C :: ob sv)) wr X → (X.cell? ⟨bo, off + k * 7, none⟩ = some (.int .i64 o.k) ∧ X.cell? ⟨bo, off + k * 7 + 1, none⟩ = some (.int .u64 (o.vol : Int)) ∧ X.cell? ⟨bo, off + k * 7 + 2, none⟩ = some (.int .u64 (o.to : Int)) ∧ X.cell? ⟨bo, off + k * 7 + 3, none⟩ = some (.int .i64 o.size) ∧ X.cell? ⟨bo, off + k * 7 + 4, none⟩ = some (.int .i64 o.pl) ∧ X.cell? ⟨bo, off + k * 7 + 5, none⟩ = some (.int .i64 o.count) ∧ X.cell? ⟨bo, off + k * 7 + 6, none⟩ = some (.slice ax dl cx)) ∧ Mods (dF Ba l ++ (C :: ob sv)) wr X) := hid (fun X hb => ⟨⟨(World.cell?_of_block (hb.block _ (HBOL.out) (HFB.out))).trans ((HCS.out _ HBW.out).1), (World.cell?_of_block (hb.block _ (HBOL.out) (HFB.out))).trans ((HCS.out _ HBW.out).2.1), (World.cell?_of_block (hb.block _ (HBOL.out) (HFB.out))).trans ((HCS.out _ HBW.out).2.2.1), (World.cell?_of_block (hb.block _ (HBOL.out) (HFB.out))).trans ((HCS.out _ HBW.out).2.2.2.1), (World.cell?_of_block (hb.block _ (HBOL.out) (HFB.out))).trans ((HCS.out _ HBW.out).2.2.2.2.1), (World.cell?_of_block (hb.block _ (HBOL.out) (HFB.out))).trans ((HCS.out _ HBW.out).2.2.2.2.2.1), (World.cell?_of_block (hb.block _ (HBOL.out) (HFB.out))).trans ((HCS.out _ HBW.out).2.2.2.2.2.2)⟩, hb⟩)
    refine region_normal (S := fun X => (X.cell? ⟨bo, off + k * 7, none⟩ = some (.int .i64 o.k) ∧ X.cell? ⟨bo, off + k * 7 + 1, none⟩ = some (.int .u64 (o.vol : Int)) ∧ X.cell? ⟨bo, off + k * 7 + 2, none⟩ = some (.int .u64 (o.to : Int)) ∧ X.cell? ⟨bo, off + k * 7 + 3, none⟩ = some (.int .i64 o.size) ∧ X.cell? ⟨bo, off + k * 7 + 4, none⟩ = some (.int .i64 o.pl) ∧ X.cell? ⟨bo, off + k * 7 + 5, none⟩ = some (.int .i64 o.count) ∧ X.cell? ⟨bo, off + k * 7 + 6, none⟩ = some (.slice ax dl cx)) ∧ Mods (dF Ba l ++ (C :: ob sv)) wr X) (by kernel_rfl) (HSS.out _ (Mods.of_below (Below.refl _ _).drew)) (fun hHeld => ?_)
    have hbe : Below wr.heap.size wr wr.drew := (Below.refl _ _).drew; obtain ⟨wd, hwd⟩ : ∃ y, wr.drew = y := ⟨_, rfl⟩
    rw [hwd] at hHeld hbe ⊢; have HBE := hid hbe; have HS0 : Hid (wr.heap.size ≤ wd.heap.size) := hid HBE.out.size; clear hwd hbe; have HMD := hid (Mods.of_below (F := (dF Ba l ++ (C :: ob sv))) HBE.out); have HDA := hid (HU.out.a.below HBE.out); have HRA := hid (HU.out.b.below HBE.out); refine tkW 0 rfl ?_; refine tkW 1 rfl ?_; refine tkW 2 rfl ?_; refine tkW 6 rfl ?_; refine tkW 7 rfl ?_; refine tkW 8 rfl ?_; refine tkW 3 rfl ?_; refine tkW 9 rfl ?_; refine tkW 4 rfl ?_; refine tkW 10 rfl ?_; refine wpAnyH_ready (rs := [5, 12, 13]) (by kernel_rfl) (by simp) ?_
    refine AllReadyH.cons rfl (fun K hK => ?_) (AllReadyH.cons rfl (fun K hK => ?_) (AllReadyH.cons rfl (fun K hK => ?_) (AllReadyH.nil)))
    ·skip
     simp only [gE1, gE2, gE3]; go_simp; refine (CD.out _ (HTO.out _ HMD.out) HDA.out).mono ?_; rintro e w5 ⟨v5, l5, rfl, hd5, hs5, ho5, hc5⟩; dsimp only; refine hK.out _ _ ?_ (fun hHeld => ?_)
     ·exact HSS.out _ (pl5 HFL.out HMD.out HDA.out HRA.out hc5).2.1
     clear hK K; try simp only [Act.put, pE1, pE2, pE3]
     obtain ⟨a5, c5, e5⟩ := row_slice ho5; subst e5; have HO5 := hid (row_mono (HTO.out _ HMD.out).size ho5); obtain ⟨hk1, hk2, hk3⟩ := pl5 HFL.out HMD.out HDA.out HRA.out hc5
     try have HN12 := hid ((hk3 b12 HG12.out (hLT HN12.out)).trans HN12.out)
     try have HN13 := hid ((hk3 b13 HG13.out (hLT HN13.out)).trans HN13.out)
     have HRA := hid hk1; have HDA := hid hd5; have HMD := hid hk2; have HS5 := hid hs5; clear hd5 hs5 ho5 hc5 hk1 hk2 hk3; refine wpAnyH_ready (rs := [11, 12, 13]) (by kernel_rfl) (by simp) ?_; refine AllReadyH.cons rfl (fun K hK => ?_) (AllReadyH.cons rfl (fun K hK => ?_) (AllReadyH.cons rfl (fun K hK => ?_) (AllReadyH.nil)))
     ·skip
      simp only [gE1, gE2, gE3]; go_simp; refine (CR.out _ (HTO.out _ HMD.out) HRA.out).mono ?_; rintro e w11 ⟨v11, sv11, l11, rfl, hd11, hs11, ho11, hc11⟩; dsimp only; refine hK.out _ _ ?_ (fun hHeld => ?_)
      ·exact HSS.out _ (pl11 HFL.out HMD.out HDA.out HRA.out hc11).2.1
      clear hK K; try simp only [Act.put, pE1, pE2, pE3]
      obtain ⟨a11, c11, e11⟩ := row_slice ho11; subst e11; have HO11 := hid (row_mono (HTO.out _ HMD.out).size ho11); obtain ⟨hk1, hk2, hk3⟩ := pl11 HFL.out HMD.out HDA.out HRA.out hc11
      try have HN12 := hid ((hk3 b12 HG12.out (hLT HN12.out)).trans HN12.out)
      try have HN13 := hid ((hk3 b13 HG13.out (hLT HN13.out)).trans HN13.out)
      have HO5 := hid (row_cells HO5.out HRA.out hc11.1); have HDA := hid hk1; have HRA := hid hd11; have HMD := hid hk2; have HS11 := hid hs11; clear hd11 hs11 ho11 hc11 hk1 hk2 hk3; refine rd2 12 13 rfl rfl (fun K hK => ?_) fun K hK => ?_
      ·skip
       simp only [gE1, gE2, gE3]; go_simp; obtain ⟨b12, y12, hw12, hy12, hx12, HN12⟩ := al w11 (.cells #[.int .i64 0, .int .i64 0, .slice none 0 0] 35); rw [hy12, hw12]; have HG12 : Hid (wr.heap.size ≤ b12) := hid (by have := HMD.out.size; omega); clear hy12 hw12; have HMD := hid (HMD.out.thenBelow hx12); clear hHeld; refine hK.out _ _ (HSS.out _ HMD.out) fun hHeld => ?_; clear hK K; try simp only [Act.put, pE1, pE2, pE3]
       have HDA := hid (HDA.out.below hx12); have HRA := hid (HRA.out.below hx12)
       try have HO5 := hid (ownsRow_below HO5.out hx12)
       try have HO11 := hid (ownsRow_below HO11.out hx12)
       clear hx12; refine rd1 13 rfl fun K hK => ?_; simp only [gE1, gE2, gE3]; go_simp; obtain ⟨b13, y13, hw13, hy13, hx13, HN13⟩ := al y12 (.cells #[.int .i64 0, .int .i64 0, .slice none 0 0] 35); rw [hy13, hw13]; have HG13 : Hid (wr.heap.size ≤ b13) := hid (by have := HMD.out.size; omega); have HNE12_13 : Hid (b12 ≠ b13) := hid (by have := (hLT HN12.out); omega); clear hy13 hw13; have HMD := hid (HMD.out.thenBelow hx13); clear hHeld; refine hK.out _ _ (HSS.out _ HMD.out) fun hHeld => ?_; clear hK K; try simp only [Act.put, pE1, pE2, pE3]
       have HN12 := hid (nX hx13 HN12.out); have HDA := hid (HDA.out.below hx13); have HRA := hid (HRA.out.below hx13)
       try have HO5 := hid (ownsRow_below HO5.out hx13)
       try have HO11 := hid (ownsRow_below HO11.out hx13)
       clear hx13; refine rd1 14 rfl fun K hK => ?_; obtain ⟨hc14_0, hf14_0, hc14_1, hf14_1, hc14_2, hf14_2⟩ := bx3 HN12.out; simp only [gE1, gE2, gE3]; go_simp; obtain ⟨y14, hy14, hm14, hv14⟩ := st3 HN12.out (.int .i64 r.1.code) (.int .i64 r.1.done) (.slice a5 r.1.data.length c5); rw [hy14]; clear hy14 hc14_0 hf14_0 hc14_1 hf14_1 hc14_2 hf14_2; have HMD := hid (mM HMD.out hm14 HG12.out); clear hHeld; refine hK.out _ _ (HSS.out _ HMD.out) fun hHeld => ?_; clear hK K; try simp only [Act.put, pE1, pE2, pE3]
       have HN13 := hid (nMa hm14 HN13.out HNE12_13.out); have HB14o : Hid (∃ cs, y13.heap[b12]? = some (.cells cs 35 (0, 0))) := hid ⟨_, HN12.out⟩; have HN12 := hid hv14; have HM14 := hid hm14; clear hv14 hm14; refine rd1 15 rfl fun K hK => ?_; obtain ⟨hc15_0, hf15_0, hc15_1, hf15_1, hc15_2, hf15_2⟩ := bx3 HN13.out; simp only [gE1, gE2, gE3]; go_simp; obtain ⟨y15, hy15, hm15, hv15⟩ := st3 HN13.out (.int .i64 r.1.code) (.int .i64 r.1.done) (.slice a11 r.1.data.length c11); rw [hy15]; clear hy15 hc15_0 hf15_0 hc15_1 hf15_1 hc15_2 hf15_2; have HMD := hid (mM HMD.out hm15 HG13.out); clear hHeld
       refine hK.out _ _ (HSS.out _ HMD.out) fun hHeld => ?_; clear hK K; try simp only [Act.put, pE1, pE2, pE3]
       have HN12 := hid (nMb hm15 HN12.out HNE12_13.out); have HB15o : Hid (∃ cs, y14.heap[b13]? = some (.cells cs 35 (0, 0))) := hid ⟨_, HN13.out⟩; have HN13 := hid hv15; have HM15 := hid hm15; clear hv15 hm15; refine wpAnyH_done (by kernel_rfl) ⟨rfl, ?_⟩ _; have HEND := hid hHeld.2; have HSE := hid hHeld.1; clear hHeld; clear HSE HSS HEND; have HPM := hid (pl_end HDA.out HRA.out HO5.out HO11.out HB14o.out HM14.out HB15o.out HM15.out HN12.out HN13.out HRR.out HS5.out HS11.out HLK.out (HTO.out _ HMD.out)); go_wp2_with fail; go_meet; exact ⟨_, _, _, rfl, rfl, rfl, HPM.out⟩
      ·skip
       simp only [gE1, gE2, gE3]; go_simp; obtain ⟨b13, y13, hw13, hy13, hx13, HN13⟩ := al w11 (.cells #[.int .i64 0, .int .i64 0, .slice none 0 0] 35); rw [hy13, hw13]; have HG13 : Hid (wr.heap.size ≤ b13) := hid (by have := HMD.out.size; omega); clear hy13 hw13; have HMD := hid (HMD.out.thenBelow hx13); clear hHeld; refine hK.out _ _ (HSS.out _ HMD.out) fun hHeld => ?_; clear hK K; try simp only [Act.put, pE1, pE2, pE3]
       have HDA := hid (HDA.out.below hx13); have HRA := hid (HRA.out.below hx13)
       try have HO5 := hid (ownsRow_below HO5.out hx13)
       try have HO11 := hid (ownsRow_below HO11.out hx13)
       clear hx13; refine rd1 12 rfl fun K hK => ?_; simp only [gE1, gE2, gE3]; go_simp; obtain ⟨b12, y12, hw12, hy12, hx12, HN12⟩ := al y13 (.cells #[.int .i64 0, .int .i64 0, .slice none 0 0] 35); rw [hy12, hw12]; have HG12 : Hid (wr.heap.size ≤ b12) := hid (by have := HMD.out.size; omega); have HNE12_13 : Hid (b12 ≠ b13) := hid (by have := (hLT HN13.out); omega); clear hy12 hw12; have HMD := hid (HMD.out.thenBelow hx12); clear hHeld; refine hK.out _ _ (HSS.out _ HMD.out) fun hHeld => ?_; clear hK K; try simp only [Act.put, pE1, pE2, pE3]
       have HN13 := hid (nX hx12 HN13.out); have HDA := hid (HDA.out.below hx12); have HRA := hid (HRA.out.below hx12)
       try have HO5 := hid (ownsRow_below HO5.out hx12)
       try have HO11 := hid (ownsRow_below HO11.out hx12)
       clear hx12; refine rd1 14 rfl fun K hK => ?_; obtain ⟨hc14_0, hf14_0, hc14_1, hf14_1, hc14_2, hf14_2⟩ := bx3 HN12.out; simp only [gE1, gE2, gE3]; go_simp; obtain ⟨y14, hy14, hm14, hv14⟩ := st3 HN12.out (.int .i64 r.1.code) (.int .i64 r.1.done) (.slice a5 r.1.data.length c5); rw [hy14]; clear hy14 hc14_0 hf14_0 hc14_1 hf14_1 hc14_2 hf14_2; have HMD := hid (mM HMD.out hm14 HG12.out); clear hHeld; refine hK.out _ _ (HSS.out _ HMD.out) fun hHeld => ?_; clear hK K; try simp only [Act.put, pE1, pE2, pE3]
       have HN13 := hid (nMa hm14 HN13.out HNE12_13.out); have HB14o : Hid (∃ cs, y12.heap[b12]? = some (.cells cs 35 (0, 0))) := hid ⟨_, HN12.out⟩; have HN12 := hid hv14; have HM14 := hid hm14; clear hv14 hm14; refine rd1 15 rfl fun K hK => ?_; obtain ⟨hc15_0, hf15_0, hc15_1, hf15_1, hc15_2, hf15_2⟩ := bx3 HN13.out; simp only [gE1, gE2, gE3]; go_simp; obtain ⟨y15, hy15, hm15, hv15⟩ := st3 HN13.out (.int .i64 r.1.code) (.int .i64 r.1.done) (.slice a11 r.1.data.length c11); rw [hy15]; clear hy15 hc15_0 hf15_0 hc15_1 hf15_1 hc15_2 hf15_2; have HMD := hid (mM HMD.out hm15 HG13.out); clear hHeld
       refine hK.out _ _ (HSS.out _ HMD.out) fun hHeld => ?_; clear hK K; try simp only [Act.put, pE1, pE2, pE3]
       have HN12 := hid (nMb hm15 HN12.out HNE12_13.out); have HB15o : Hid (∃ cs, y14.heap[b13]? = some (.cells cs 35 (0, 0))) := hid ⟨_, HN13.out⟩; have HN13 := hid hv15; have HM15 := hid hm15; clear hv15 hm15; refine wpAnyH_done (by kernel_rfl) ⟨rfl, ?_⟩ _; have HEND := hid hHeld.2; have HSE := hid hHeld.1; clear hHeld; clear HSE HSS HEND; have HPM := hid (pl_end HDA.out HRA.out HO5.out HO11.out HB14o.out HM14.out HB15o.out HM15.out HN12.out HN13.out HRR.out HS5.out HS11.out HLK.out (HTO.out _ HMD.out)); go_wp2_with fail; go_meet; exact ⟨_, _, _, rfl, rfl, rfl, HPM.out⟩
     ·skip
      simp only [gE1, gE2, gE3]; go_simp; obtain ⟨b12, y12, hw12, hy12, hx12, HN12⟩ := al w5 (.cells #[.int .i64 0, .int .i64 0, .slice none 0 0] 35); rw [hy12, hw12]; have HG12 : Hid (wr.heap.size ≤ b12) := hid (by have := HMD.out.size; omega); clear hy12 hw12; have HMD := hid (HMD.out.thenBelow hx12); clear hHeld; refine hK.out _ _ (HSS.out _ HMD.out) fun hHeld => ?_; clear hK K; try simp only [Act.put, pE1, pE2, pE3]
      have HDA := hid (HDA.out.below hx12); have HRA := hid (HRA.out.below hx12)
      try have HO5 := hid (ownsRow_below HO5.out hx12)
      try have HO11 := hid (ownsRow_below HO11.out hx12)
      clear hx12; refine rd2 11 13 rfl rfl (fun K hK => ?_) fun K hK => ?_
      ·skip
       simp only [gE1, gE2, gE3]; go_simp; refine (CR.out _ (HTO.out _ HMD.out) HRA.out).mono ?_; rintro e w11 ⟨v11, sv11, l11, rfl, hd11, hs11, ho11, hc11⟩; dsimp only; refine hK.out _ _ ?_ (fun hHeld => ?_)
       ·exact HSS.out _ (pl11 HFL.out HMD.out HDA.out HRA.out hc11).2.1
       clear hK K; try simp only [Act.put, pE1, pE2, pE3]
       obtain ⟨a11, c11, e11⟩ := row_slice ho11; subst e11; have HO11 := hid (row_mono (HTO.out _ HMD.out).size ho11); obtain ⟨hk1, hk2, hk3⟩ := pl11 HFL.out HMD.out HDA.out HRA.out hc11
       try have HN12 := hid ((hk3 b12 HG12.out (hLT HN12.out)).trans HN12.out)
       try have HN13 := hid ((hk3 b13 HG13.out (hLT HN13.out)).trans HN13.out)
       have HO5 := hid (row_cells HO5.out HRA.out hc11.1); have HDA := hid hk1; have HRA := hid hd11; have HMD := hid hk2; have HS11 := hid hs11; clear hd11 hs11 ho11 hc11 hk1 hk2 hk3; refine rd1 13 rfl fun K hK => ?_; simp only [gE1, gE2, gE3]; go_simp; obtain ⟨b13, y13, hw13, hy13, hx13, HN13⟩ := al w11 (.cells #[.int .i64 0, .int .i64 0, .slice none 0 0] 35); rw [hy13, hw13]; have HG13 : Hid (wr.heap.size ≤ b13) := hid (by have := HMD.out.size; omega); have HNE12_13 : Hid (b12 ≠ b13) := hid (by have := (hLT HN12.out); omega); clear hy13 hw13; have HMD := hid (HMD.out.thenBelow hx13)
       clear hHeld; refine hK.out _ _ (HSS.out _ HMD.out) fun hHeld => ?_; clear hK K; try simp only [Act.put, pE1, pE2, pE3]
       have HN12 := hid (nX hx13 HN12.out); have HDA := hid (HDA.out.below hx13); have HRA := hid (HRA.out.below hx13)
       try have HO5 := hid (ownsRow_below HO5.out hx13)
       try have HO11 := hid (ownsRow_below HO11.out hx13)
       clear hx13; refine rd1 14 rfl fun K hK => ?_; obtain ⟨hc14_0, hf14_0, hc14_1, hf14_1, hc14_2, hf14_2⟩ := bx3 HN12.out; simp only [gE1, gE2, gE3]; go_simp; obtain ⟨y14, hy14, hm14, hv14⟩ := st3 HN12.out (.int .i64 r.1.code) (.int .i64 r.1.done) (.slice a5 r.1.data.length c5); rw [hy14]; clear hy14 hc14_0 hf14_0 hc14_1 hf14_1 hc14_2 hf14_2; have HMD := hid (mM HMD.out hm14 HG12.out); clear hHeld; refine hK.out _ _ (HSS.out _ HMD.out) fun hHeld => ?_; clear hK K; try simp only [Act.put, pE1, pE2, pE3]
       have HN13 := hid (nMa hm14 HN13.out HNE12_13.out); have HB14o : Hid (∃ cs, y13.heap[b12]? = some (.cells cs 35 (0, 0))) := hid ⟨_, HN12.out⟩; have HN12 := hid hv14; have HM14 := hid hm14; clear hv14 hm14; refine rd1 15 rfl fun K hK => ?_; obtain ⟨hc15_0, hf15_0, hc15_1, hf15_1, hc15_2, hf15_2⟩ := bx3 HN13.out; simp only [gE1, gE2, gE3]; go_simp; obtain ⟨y15, hy15, hm15, hv15⟩ := st3 HN13.out (.int .i64 r.1.code) (.int .i64 r.1.done) (.slice a11 r.1.data.length c11); rw [hy15]; clear hy15 hc15_0 hf15_0 hc15_1 hf15_1 hc15_2 hf15_2; have HMD := hid (mM HMD.out hm15 HG13.out); clear hHeld
       refine hK.out _ _ (HSS.out _ HMD.out) fun hHeld => ?_; clear hK K; try simp only [Act.put, pE1, pE2, pE3]
       have HN12 := hid (nMb hm15 HN12.out HNE12_13.out); have HB15o : Hid (∃ cs, y14.heap[b13]? = some (.cells cs 35 (0, 0))) := hid ⟨_, HN13.out⟩; have HN13 := hid hv15; have HM15 := hid hm15; clear hv15 hm15; refine wpAnyH_done (by kernel_rfl) ⟨rfl, ?_⟩ _; have HEND := hid hHeld.2; have HSE := hid hHeld.1; clear hHeld; clear HSE HSS HEND; have HPM := hid (pl_end HDA.out HRA.out HO5.out HO11.out HB14o.out HM14.out HB15o.out HM15.out HN12.out HN13.out HRR.out HS5.out HS11.out HLK.out (HTO.out _ HMD.out)); go_wp2_with fail; go_meet; exact ⟨_, _, _, rfl, rfl, rfl, HPM.out⟩
      ·skip
       simp only [gE1, gE2, gE3]; go_simp; obtain ⟨b13, y13, hw13, hy13, hx13, HN13⟩ := al y12 (.cells #[.int .i64 0, .int .i64 0, .slice none 0 0] 35); rw [hy13, hw13]; have HG13 : Hid (wr.heap.size ≤ b13) := hid (by have := HMD.out.size; omega); have HNE12_13 : Hid (b12 ≠ b13) := hid (by have := (hLT HN12.out); omega); clear hy13 hw13; have HMD := hid (HMD.out.thenBelow hx13); clear hHeld; refine hK.out _ _ (HSS.out _ HMD.out) fun hHeld => ?_; clear hK K; try simp only [Act.put, pE1, pE2, pE3]
       have HN12 := hid (nX hx13 HN12.out); have HDA := hid (HDA.out.below hx13); have HRA := hid (HRA.out.below hx13)
       try have HO5 := hid (ownsRow_below HO5.out hx13)
       try have HO11 := hid (ownsRow_below HO11.out hx13)
       clear hx13; refine rd1 11 rfl fun K hK => ?_; simp only [gE1, gE2, gE3]; go_simp; refine (CR.out _ (HTO.out _ HMD.out) HRA.out).mono ?_; rintro e w11 ⟨v11, sv11, l11, rfl, hd11, hs11, ho11, hc11⟩; dsimp only; refine hK.out _ _ ?_ (fun hHeld => ?_)
       ·exact HSS.out _ (pl11 HFL.out HMD.out HDA.out HRA.out hc11).2.1
       clear hK K; try simp only [Act.put, pE1, pE2, pE3]
       obtain ⟨a11, c11, e11⟩ := row_slice ho11; subst e11; have HO11 := hid (row_mono (HTO.out _ HMD.out).size ho11); obtain ⟨hk1, hk2, hk3⟩ := pl11 HFL.out HMD.out HDA.out HRA.out hc11
       try have HN12 := hid ((hk3 b12 HG12.out (hLT HN12.out)).trans HN12.out)
       try have HN13 := hid ((hk3 b13 HG13.out (hLT HN13.out)).trans HN13.out)
       have HO5 := hid (row_cells HO5.out HRA.out hc11.1); have HDA := hid hk1; have HRA := hid hd11; have HMD := hid hk2; have HS11 := hid hs11; clear hd11 hs11 ho11 hc11 hk1 hk2 hk3; refine rd1 14 rfl fun K hK => ?_; obtain ⟨hc14_0, hf14_0, hc14_1, hf14_1, hc14_2, hf14_2⟩ := bx3 HN12.out; simp only [gE1, gE2, gE3]; go_simp; obtain ⟨y14, hy14, hm14, hv14⟩ := st3 HN12.out (.int .i64 r.1.code) (.int .i64 r.1.done) (.slice a5 r.1.data.length c5); rw [hy14]; clear hy14 hc14_0 hf14_0 hc14_1 hf14_1 hc14_2 hf14_2; have HMD := hid (mM HMD.out hm14 HG12.out); clear hHeld
       refine hK.out _ _ (HSS.out _ HMD.out) fun hHeld => ?_; clear hK K; try simp only [Act.put, pE1, pE2, pE3]
       have HN13 := hid (nMa hm14 HN13.out HNE12_13.out); have HB14o : Hid (∃ cs, w11.heap[b12]? = some (.cells cs 35 (0, 0))) := hid ⟨_, HN12.out⟩; have HN12 := hid hv14; have HM14 := hid hm14; clear hv14 hm14; refine rd1 15 rfl fun K hK => ?_; obtain ⟨hc15_0, hf15_0, hc15_1, hf15_1, hc15_2, hf15_2⟩ := bx3 HN13.out; simp only [gE1, gE2, gE3]; go_simp; obtain ⟨y15, hy15, hm15, hv15⟩ := st3 HN13.out (.int .i64 r.1.code) (.int .i64 r.1.done) (.slice a11 r.1.data.length c11); rw [hy15]; clear hy15 hc15_0 hf15_0 hc15_1 hf15_1 hc15_2 hf15_2; have HMD := hid (mM HMD.out hm15 HG13.out); clear hHeld
       refine hK.out _ _ (HSS.out _ HMD.out) fun hHeld => ?_; clear hK K; try simp only [Act.put, pE1, pE2, pE3]
       have HN12 := hid (nMb hm15 HN12.out HNE12_13.out); have HB15o : Hid (∃ cs, y14.heap[b13]? = some (.cells cs 35 (0, 0))) := hid ⟨_, HN13.out⟩; have HN13 := hid hv15; have HM15 := hid hm15; clear hv15 hm15; refine wpAnyH_done (by kernel_rfl) ⟨rfl, ?_⟩ _; have HEND := hid hHeld.2; have HSE := hid hHeld.1; clear hHeld; clear HSE HSS HEND; have HPM := hid (pl_end HDA.out HRA.out HO5.out HO11.out HB14o.out HM14.out HB15o.out HM15.out HN12.out HN13.out HRR.out HS5.out HS11.out HLK.out (HTO.out _ HMD.out)); go_wp2_with fail; go_meet; exact ⟨_, _, _, rfl, rfl, rfl, HPM.out⟩
     ·skip
      simp only [gE1, gE2, gE3]; go_simp; obtain ⟨b13, y13, hw13, hy13, hx13, HN13⟩ := al w5 (.cells #[.int .i64 0, .int .i64 0, .slice none 0 0] 35); rw [hy13, hw13]; have HG13 : Hid (wr.heap.size ≤ b13) := hid (by have := HMD.out.size; omega); clear hy13 hw13; have HMD := hid (HMD.out.thenBelow hx13); clear hHeld; refine hK.out _ _ (HSS.out _ HMD.out) fun hHeld => ?_; clear hK K; try simp only [Act.put, pE1, pE2, pE3]
      have HDA := hid (HDA.out.below hx13); have HRA := hid (HRA.out.below hx13)
      try have HO5 := hid (ownsRow_below HO5.out hx13)
      try have HO11 := hid (ownsRow_below HO11.out hx13)
      clear hx13; refine rd2 11 12 rfl rfl (fun K hK => ?_) fun K hK => ?_
      ·skip
       simp only [gE1, gE2, gE3]; go_simp; refine (CR.out _ (HTO.out _ HMD.out) HRA.out).mono ?_; rintro e w11 ⟨v11, sv11, l11, rfl, hd11, hs11, ho11, hc11⟩; dsimp only; refine hK.out _ _ ?_ (fun hHeld => ?_)
       ·exact HSS.out _ (pl11 HFL.out HMD.out HDA.out HRA.out hc11).2.1
       clear hK K; try simp only [Act.put, pE1, pE2, pE3]
       obtain ⟨a11, c11, e11⟩ := row_slice ho11; subst e11; have HO11 := hid (row_mono (HTO.out _ HMD.out).size ho11); obtain ⟨hk1, hk2, hk3⟩ := pl11 HFL.out HMD.out HDA.out HRA.out hc11
       try have HN12 := hid ((hk3 b12 HG12.out (hLT HN12.out)).trans HN12.out)
       try have HN13 := hid ((hk3 b13 HG13.out (hLT HN13.out)).trans HN13.out)
       have HO5 := hid (row_cells HO5.out HRA.out hc11.1); have HDA := hid hk1; have HRA := hid hd11; have HMD := hid hk2; have HS11 := hid hs11; clear hd11 hs11 ho11 hc11 hk1 hk2 hk3; refine rd1 12 rfl fun K hK => ?_; simp only [gE1, gE2, gE3]; go_simp; obtain ⟨b12, y12, hw12, hy12, hx12, HN12⟩ := al w11 (.cells #[.int .i64 0, .int .i64 0, .slice none 0 0] 35); rw [hy12, hw12]; have HG12 : Hid (wr.heap.size ≤ b12) := hid (by have := HMD.out.size; omega); have HNE12_13 : Hid (b12 ≠ b13) := hid (by have := (hLT HN13.out); omega); clear hy12 hw12; have HMD := hid (HMD.out.thenBelow hx12)
       clear hHeld; refine hK.out _ _ (HSS.out _ HMD.out) fun hHeld => ?_; clear hK K; try simp only [Act.put, pE1, pE2, pE3]
       have HN13 := hid (nX hx12 HN13.out); have HDA := hid (HDA.out.below hx12); have HRA := hid (HRA.out.below hx12)
       try have HO5 := hid (ownsRow_below HO5.out hx12)
       try have HO11 := hid (ownsRow_below HO11.out hx12)
       clear hx12; refine rd1 14 rfl fun K hK => ?_; obtain ⟨hc14_0, hf14_0, hc14_1, hf14_1, hc14_2, hf14_2⟩ := bx3 HN12.out; simp only [gE1, gE2, gE3]; go_simp; obtain ⟨y14, hy14, hm14, hv14⟩ := st3 HN12.out (.int .i64 r.1.code) (.int .i64 r.1.done) (.slice a5 r.1.data.length c5); rw [hy14]; clear hy14 hc14_0 hf14_0 hc14_1 hf14_1 hc14_2 hf14_2; have HMD := hid (mM HMD.out hm14 HG12.out); clear hHeld; refine hK.out _ _ (HSS.out _ HMD.out) fun hHeld => ?_; clear hK K; try simp only [Act.put, pE1, pE2, pE3]
       have HN13 := hid (nMa hm14 HN13.out HNE12_13.out); have HB14o : Hid (∃ cs, y12.heap[b12]? = some (.cells cs 35 (0, 0))) := hid ⟨_, HN12.out⟩; have HN12 := hid hv14; have HM14 := hid hm14; clear hv14 hm14; refine rd1 15 rfl fun K hK => ?_; obtain ⟨hc15_0, hf15_0, hc15_1, hf15_1, hc15_2, hf15_2⟩ := bx3 HN13.out; simp only [gE1, gE2, gE3]; go_simp; obtain ⟨y15, hy15, hm15, hv15⟩ := st3 HN13.out (.int .i64 r.1.code) (.int .i64 r.1.done) (.slice a11 r.1.data.length c11); rw [hy15]; clear hy15 hc15_0 hf15_0 hc15_1 hf15_1 hc15_2 hf15_2; have HMD := hid (mM HMD.out hm15 HG13.out); clear hHeld
       refine hK.out _ _ (HSS.out _ HMD.out) fun hHeld => ?_; clear hK K; try simp only [Act.put, pE1, pE2, pE3]
       have HN12 := hid (nMb hm15 HN12.out HNE12_13.out); have HB15o : Hid (∃ cs, y14.heap[b13]? = some (.cells cs 35 (0, 0))) := hid ⟨_, HN13.out⟩; have HN13 := hid hv15; have HM15 := hid hm15; clear hv15 hm15; refine wpAnyH_done (by kernel_rfl) ⟨rfl, ?_⟩ _; have HEND := hid hHeld.2; have HSE := hid hHeld.1; clear hHeld; clear HSE HSS HEND; have HPM := hid (pl_end HDA.out HRA.out HO5.out HO11.out HB14o.out HM14.out HB15o.out HM15.out HN12.out HN13.out HRR.out HS5.out HS11.out HLK.out (HTO.out _ HMD.out)); go_wp2_with fail; go_meet; exact ⟨_, _, _, rfl, rfl, rfl, HPM.out⟩
      ·skip
       simp only [gE1, gE2, gE3]; go_simp; obtain ⟨b12, y12, hw12, hy12, hx12, HN12⟩ := al y13 (.cells #[.int .i64 0, .int .i64 0, .slice none 0 0] 35); rw [hy12, hw12]; have HG12 : Hid (wr.heap.size ≤ b12) := hid (by have := HMD.out.size; omega); have HNE12_13 : Hid (b12 ≠ b13) := hid (by have := (hLT HN13.out); omega); clear hy12 hw12; have HMD := hid (HMD.out.thenBelow hx12); clear hHeld; refine hK.out _ _ (HSS.out _ HMD.out) fun hHeld => ?_; clear hK K; try simp only [Act.put, pE1, pE2, pE3]
       have HN13 := hid (nX hx12 HN13.out); have HDA := hid (HDA.out.below hx12); have HRA := hid (HRA.out.below hx12)
       try have HO5 := hid (ownsRow_below HO5.out hx12)
       try have HO11 := hid (ownsRow_below HO11.out hx12)
       clear hx12; refine rd1 11 rfl fun K hK => ?_; simp only [gE1, gE2, gE3]; go_simp; refine (CR.out _ (HTO.out _ HMD.out) HRA.out).mono ?_; rintro e w11 ⟨v11, sv11, l11, rfl, hd11, hs11, ho11, hc11⟩; dsimp only; refine hK.out _ _ ?_ (fun hHeld => ?_)
       ·exact HSS.out _ (pl11 HFL.out HMD.out HDA.out HRA.out hc11).2.1
       clear hK K; try simp only [Act.put, pE1, pE2, pE3]
       obtain ⟨a11, c11, e11⟩ := row_slice ho11; subst e11; have HO11 := hid (row_mono (HTO.out _ HMD.out).size ho11); obtain ⟨hk1, hk2, hk3⟩ := pl11 HFL.out HMD.out HDA.out HRA.out hc11
       try have HN12 := hid ((hk3 b12 HG12.out (hLT HN12.out)).trans HN12.out)
       try have HN13 := hid ((hk3 b13 HG13.out (hLT HN13.out)).trans HN13.out)
       have HO5 := hid (row_cells HO5.out HRA.out hc11.1); have HDA := hid hk1; have HRA := hid hd11; have HMD := hid hk2; have HS11 := hid hs11; clear hd11 hs11 ho11 hc11 hk1 hk2 hk3; refine rd1 14 rfl fun K hK => ?_; obtain ⟨hc14_0, hf14_0, hc14_1, hf14_1, hc14_2, hf14_2⟩ := bx3 HN12.out; simp only [gE1, gE2, gE3]; go_simp; obtain ⟨y14, hy14, hm14, hv14⟩ := st3 HN12.out (.int .i64 r.1.code) (.int .i64 r.1.done) (.slice a5 r.1.data.length c5); rw [hy14]; clear hy14 hc14_0 hf14_0 hc14_1 hf14_1 hc14_2 hf14_2; have HMD := hid (mM HMD.out hm14 HG12.out); clear hHeld
       refine hK.out _ _ (HSS.out _ HMD.out) fun hHeld => ?_; clear hK K; try simp only [Act.put, pE1, pE2, pE3]
       have HN13 := hid (nMa hm14 HN13.out HNE12_13.out); have HB14o : Hid (∃ cs, w11.heap[b12]? = some (.cells cs 35 (0, 0))) := hid ⟨_, HN12.out⟩; have HN12 := hid hv14; have HM14 := hid hm14; clear hv14 hm14; refine rd1 15 rfl fun K hK => ?_; obtain ⟨hc15_0, hf15_0, hc15_1, hf15_1, hc15_2, hf15_2⟩ := bx3 HN13.out; simp only [gE1, gE2, gE3]; go_simp; obtain ⟨y15, hy15, hm15, hv15⟩ := st3 HN13.out (.int .i64 r.1.code) (.int .i64 r.1.done) (.slice a11 r.1.data.length c11); rw [hy15]; clear hy15 hc15_0 hf15_0 hc15_1 hf15_1 hc15_2 hf15_2; have HMD := hid (mM HMD.out hm15 HG13.out); clear hHeld
       refine hK.out _ _ (HSS.out _ HMD.out) fun hHeld => ?_; clear hK K; try simp only [Act.put, pE1, pE2, pE3]
       have HN12 := hid (nMb hm15 HN12.out HNE12_13.out); have HB15o : Hid (∃ cs, y14.heap[b13]? = some (.cells cs 35 (0, 0))) := hid ⟨_, HN13.out⟩; have HN13 := hid hv15; have HM15 := hid hm15; clear hv15 hm15; refine wpAnyH_done (by kernel_rfl) ⟨rfl, ?_⟩ _; have HEND := hid hHeld.2; have HSE := hid hHeld.1; clear hHeld; clear HSE HSS HEND; have HPM := hid (pl_end HDA.out HRA.out HO5.out HO11.out HB14o.out HM14.out HB15o.out HM15.out HN12.out HN13.out HRR.out HS5.out HS11.out HLK.out (HTO.out _ HMD.out)); go_wp2_with fail; go_meet; exact ⟨_, _, _, rfl, rfl, rfl, HPM.out⟩
    ·skip
     simp only [gE1, gE2, gE3]; go_simp; obtain ⟨b12, y12, hw12, hy12, hx12, HN12⟩ := al wd (.cells #[.int .i64 0, .int .i64 0, .slice none 0 0] 35); rw [hy12, hw12]; have HG12 : Hid (wr.heap.size ≤ b12) := hid (by have := HMD.out.size; omega); clear hy12 hw12; have HMD := hid (HMD.out.thenBelow hx12); clear hHeld; refine hK.out _ _ (HSS.out _ HMD.out) fun hHeld => ?_; clear hK K; try simp only [Act.put, pE1, pE2, pE3]
     have HDA := hid (HDA.out.below hx12); have HRA := hid (HRA.out.below hx12)
     try have HO5 := hid (ownsRow_below HO5.out hx12)
     try have HO11 := hid (ownsRow_below HO11.out hx12)
     clear hx12; refine rd2 5 13 rfl rfl (fun K hK => ?_) fun K hK => ?_
     ·skip
      simp only [gE1, gE2, gE3]; go_simp; refine (CD.out _ (HTO.out _ HMD.out) HDA.out).mono ?_; rintro e w5 ⟨v5, l5, rfl, hd5, hs5, ho5, hc5⟩; dsimp only; refine hK.out _ _ ?_ (fun hHeld => ?_)
      ·exact HSS.out _ (pl5 HFL.out HMD.out HDA.out HRA.out hc5).2.1
      clear hK K; try simp only [Act.put, pE1, pE2, pE3]
      obtain ⟨a5, c5, e5⟩ := row_slice ho5; subst e5; have HO5 := hid (row_mono (HTO.out _ HMD.out).size ho5); obtain ⟨hk1, hk2, hk3⟩ := pl5 HFL.out HMD.out HDA.out HRA.out hc5
      try have HN12 := hid ((hk3 b12 HG12.out (hLT HN12.out)).trans HN12.out)
      try have HN13 := hid ((hk3 b13 HG13.out (hLT HN13.out)).trans HN13.out)
      have HRA := hid hk1; have HDA := hid hd5; have HMD := hid hk2; have HS5 := hid hs5; clear hd5 hs5 ho5 hc5 hk1 hk2 hk3; refine rd2 11 13 rfl rfl (fun K hK => ?_) fun K hK => ?_
      ·skip
       simp only [gE1, gE2, gE3]; go_simp; refine (CR.out _ (HTO.out _ HMD.out) HRA.out).mono ?_; rintro e w11 ⟨v11, sv11, l11, rfl, hd11, hs11, ho11, hc11⟩; dsimp only; refine hK.out _ _ ?_ (fun hHeld => ?_)
       ·exact HSS.out _ (pl11 HFL.out HMD.out HDA.out HRA.out hc11).2.1
       clear hK K; try simp only [Act.put, pE1, pE2, pE3]
       obtain ⟨a11, c11, e11⟩ := row_slice ho11; subst e11; have HO11 := hid (row_mono (HTO.out _ HMD.out).size ho11); obtain ⟨hk1, hk2, hk3⟩ := pl11 HFL.out HMD.out HDA.out HRA.out hc11
       try have HN12 := hid ((hk3 b12 HG12.out (hLT HN12.out)).trans HN12.out)
       try have HN13 := hid ((hk3 b13 HG13.out (hLT HN13.out)).trans HN13.out)
       have HO5 := hid (row_cells HO5.out HRA.out hc11.1); have HDA := hid hk1; have HRA := hid hd11; have HMD := hid hk2; have HS11 := hid hs11; clear hd11 hs11 ho11 hc11 hk1 hk2 hk3; refine rd1 13 rfl fun K hK => ?_; simp only [gE1, gE2, gE3]; go_simp; obtain ⟨b13, y13, hw13, hy13, hx13, HN13⟩ := al w11 (.cells #[.int .i64 0, .int .i64 0, .slice none 0 0] 35); rw [hy13, hw13]; have HG13 : Hid (wr.heap.size ≤ b13) := hid (by have := HMD.out.size; omega); have HNE12_13 : Hid (b12 ≠ b13) := hid (by have := (hLT HN12.out); omega); clear hy13 hw13; have HMD := hid (HMD.out.thenBelow hx13)
       clear hHeld; refine hK.out _ _ (HSS.out _ HMD.out) fun hHeld => ?_; clear hK K; try simp only [Act.put, pE1, pE2, pE3]
       have HN12 := hid (nX hx13 HN12.out); have HDA := hid (HDA.out.below hx13); have HRA := hid (HRA.out.below hx13)
       try have HO5 := hid (ownsRow_below HO5.out hx13)
       try have HO11 := hid (ownsRow_below HO11.out hx13)
       clear hx13; refine rd1 14 rfl fun K hK => ?_; obtain ⟨hc14_0, hf14_0, hc14_1, hf14_1, hc14_2, hf14_2⟩ := bx3 HN12.out; simp only [gE1, gE2, gE3]; go_simp; obtain ⟨y14, hy14, hm14, hv14⟩ := st3 HN12.out (.int .i64 r.1.code) (.int .i64 r.1.done) (.slice a5 r.1.data.length c5); rw [hy14]; clear hy14 hc14_0 hf14_0 hc14_1 hf14_1 hc14_2 hf14_2; have HMD := hid (mM HMD.out hm14 HG12.out); clear hHeld; refine hK.out _ _ (HSS.out _ HMD.out) fun hHeld => ?_; clear hK K; try simp only [Act.put, pE1, pE2, pE3]
       have HN13 := hid (nMa hm14 HN13.out HNE12_13.out); have HB14o : Hid (∃ cs, y13.heap[b12]? = some (.cells cs 35 (0, 0))) := hid ⟨_, HN12.out⟩; have HN12 := hid hv14; have HM14 := hid hm14; clear hv14 hm14; refine rd1 15 rfl fun K hK => ?_; obtain ⟨hc15_0, hf15_0, hc15_1, hf15_1, hc15_2, hf15_2⟩ := bx3 HN13.out; simp only [gE1, gE2, gE3]; go_simp; obtain ⟨y15, hy15, hm15, hv15⟩ := st3 HN13.out (.int .i64 r.1.code) (.int .i64 r.1.done) (.slice a11 r.1.data.length c11); rw [hy15]; clear hy15 hc15_0 hf15_0 hc15_1 hf15_1 hc15_2 hf15_2; have HMD := hid (mM HMD.out hm15 HG13.out); clear hHeld
       refine hK.out _ _ (HSS.out _ HMD.out) fun hHeld => ?_; clear hK K; try simp only [Act.put, pE1, pE2, pE3]
       have HN12 := hid (nMb hm15 HN12.out HNE12_13.out); have HB15o : Hid (∃ cs, y14.heap[b13]? = some (.cells cs 35 (0, 0))) := hid ⟨_, HN13.out⟩; have HN13 := hid hv15; have HM15 := hid hm15; clear hv15 hm15; refine wpAnyH_done (by kernel_rfl) ⟨rfl, ?_⟩ _; have HEND := hid hHeld.2; have HSE := hid hHeld.1; clear hHeld; clear HSE HSS HEND; have HPM := hid (pl_end HDA.out HRA.out HO5.out HO11.out HB14o.out HM14.out HB15o.out HM15.out HN12.out HN13.out HRR.out HS5.out HS11.out HLK.out (HTO.out _ HMD.out)); go_wp2_with fail; go_meet; exact ⟨_, _, _, rfl, rfl, rfl, HPM.out⟩
      ·skip
       simp only [gE1, gE2, gE3]; go_simp; obtain ⟨b13, y13, hw13, hy13, hx13, HN13⟩ := al w5 (.cells #[.int .i64 0, .int .i64 0, .slice none 0 0] 35); rw [hy13, hw13]; have HG13 : Hid (wr.heap.size ≤ b13) := hid (by have := HMD.out.size; omega); have HNE12_13 : Hid (b12 ≠ b13) := hid (by have := (hLT HN12.out); omega); clear hy13 hw13; have HMD := hid (HMD.out.thenBelow hx13); clear hHeld; refine hK.out _ _ (HSS.out _ HMD.out) fun hHeld => ?_; clear hK K; try simp only [Act.put, pE1, pE2, pE3]
       have HN12 := hid (nX hx13 HN12.out); have HDA := hid (HDA.out.below hx13); have HRA := hid (HRA.out.below hx13)
       try have HO5 := hid (ownsRow_below HO5.out hx13)
       try have HO11 := hid (ownsRow_below HO11.out hx13)
       clear hx13; refine rd1 11 rfl fun K hK => ?_; simp only [gE1, gE2, gE3]; go_simp; refine (CR.out _ (HTO.out _ HMD.out) HRA.out).mono ?_; rintro e w11 ⟨v11, sv11, l11, rfl, hd11, hs11, ho11, hc11⟩; dsimp only; refine hK.out _ _ ?_ (fun hHeld => ?_)
       ·exact HSS.out _ (pl11 HFL.out HMD.out HDA.out HRA.out hc11).2.1
       clear hK K; try simp only [Act.put, pE1, pE2, pE3]
       obtain ⟨a11, c11, e11⟩ := row_slice ho11; subst e11; have HO11 := hid (row_mono (HTO.out _ HMD.out).size ho11); obtain ⟨hk1, hk2, hk3⟩ := pl11 HFL.out HMD.out HDA.out HRA.out hc11
       try have HN12 := hid ((hk3 b12 HG12.out (hLT HN12.out)).trans HN12.out)
       try have HN13 := hid ((hk3 b13 HG13.out (hLT HN13.out)).trans HN13.out)
       have HO5 := hid (row_cells HO5.out HRA.out hc11.1); have HDA := hid hk1; have HRA := hid hd11; have HMD := hid hk2; have HS11 := hid hs11; clear hd11 hs11 ho11 hc11 hk1 hk2 hk3; refine rd1 14 rfl fun K hK => ?_; obtain ⟨hc14_0, hf14_0, hc14_1, hf14_1, hc14_2, hf14_2⟩ := bx3 HN12.out; simp only [gE1, gE2, gE3]; go_simp; obtain ⟨y14, hy14, hm14, hv14⟩ := st3 HN12.out (.int .i64 r.1.code) (.int .i64 r.1.done) (.slice a5 r.1.data.length c5); rw [hy14]; clear hy14 hc14_0 hf14_0 hc14_1 hf14_1 hc14_2 hf14_2; have HMD := hid (mM HMD.out hm14 HG12.out); clear hHeld
       refine hK.out _ _ (HSS.out _ HMD.out) fun hHeld => ?_; clear hK K; try simp only [Act.put, pE1, pE2, pE3]
       have HN13 := hid (nMa hm14 HN13.out HNE12_13.out); have HB14o : Hid (∃ cs, w11.heap[b12]? = some (.cells cs 35 (0, 0))) := hid ⟨_, HN12.out⟩; have HN12 := hid hv14; have HM14 := hid hm14; clear hv14 hm14; refine rd1 15 rfl fun K hK => ?_; obtain ⟨hc15_0, hf15_0, hc15_1, hf15_1, hc15_2, hf15_2⟩ := bx3 HN13.out; simp only [gE1, gE2, gE3]; go_simp; obtain ⟨y15, hy15, hm15, hv15⟩ := st3 HN13.out (.int .i64 r.1.code) (.int .i64 r.1.done) (.slice a11 r.1.data.length c11); rw [hy15]; clear hy15 hc15_0 hf15_0 hc15_1 hf15_1 hc15_2 hf15_2; have HMD := hid (mM HMD.out hm15 HG13.out); clear hHeld
       refine hK.out _ _ (HSS.out _ HMD.out) fun hHeld => ?_; clear hK K; try simp only [Act.put, pE1, pE2, pE3]
       have HN12 := hid (nMb hm15 HN12.out HNE12_13.out); have HB15o : Hid (∃ cs, y14.heap[b13]? = some (.cells cs 35 (0, 0))) := hid ⟨_, HN13.out⟩; have HN13 := hid hv15; have HM15 := hid hm15; clear hv15 hm15; refine wpAnyH_done (by kernel_rfl) ⟨rfl, ?_⟩ _; have HEND := hid hHeld.2; have HSE := hid hHeld.1; clear hHeld; clear HSE HSS HEND; have HPM := hid (pl_end HDA.out HRA.out HO5.out HO11.out HB14o.out HM14.out HB15o.out HM15.out HN12.out HN13.out HRR.out HS5.out HS11.out HLK.out (HTO.out _ HMD.out)); go_wp2_with fail; go_meet; exact ⟨_, _, _, rfl, rfl, rfl, HPM.out⟩
     ·skip
      simp only [gE1, gE2, gE3]; go_simp; obtain ⟨b13, y13, hw13, hy13, hx13, HN13⟩ := al y12 (.cells #[.int .i64 0, .int .i64 0, .slice none 0 0] 35); rw [hy13, hw13]; have HG13 : Hid (wr.heap.size ≤ b13) := hid (by have := HMD.out.size; omega); have HNE12_13 : Hid (b12 ≠ b13) := hid (by have := (hLT HN12.out); omega); clear hy13 hw13; have HMD := hid (HMD.out.thenBelow hx13); clear hHeld; refine hK.out _ _ (HSS.out _ HMD.out) fun hHeld => ?_; clear hK K; try simp only [Act.put, pE1, pE2, pE3]
      have HN12 := hid (nX hx13 HN12.out); have HDA := hid (HDA.out.below hx13); have HRA := hid (HRA.out.below hx13)
      try have HO5 := hid (ownsRow_below HO5.out hx13)
      try have HO11 := hid (ownsRow_below HO11.out hx13)
      clear hx13; refine rd1 5 rfl fun K hK => ?_; simp only [gE1, gE2, gE3]; go_simp; refine (CD.out _ (HTO.out _ HMD.out) HDA.out).mono ?_; rintro e w5 ⟨v5, l5, rfl, hd5, hs5, ho5, hc5⟩; dsimp only; refine hK.out _ _ ?_ (fun hHeld => ?_)
      ·exact HSS.out _ (pl5 HFL.out HMD.out HDA.out HRA.out hc5).2.1
      clear hK K; try simp only [Act.put, pE1, pE2, pE3]
      obtain ⟨a5, c5, e5⟩ := row_slice ho5; subst e5; have HO5 := hid (row_mono (HTO.out _ HMD.out).size ho5); obtain ⟨hk1, hk2, hk3⟩ := pl5 HFL.out HMD.out HDA.out HRA.out hc5
      try have HN12 := hid ((hk3 b12 HG12.out (hLT HN12.out)).trans HN12.out)
      try have HN13 := hid ((hk3 b13 HG13.out (hLT HN13.out)).trans HN13.out)
      have HRA := hid hk1; have HDA := hid hd5; have HMD := hid hk2; have HS5 := hid hs5; clear hd5 hs5 ho5 hc5 hk1 hk2 hk3; refine rd1 11 rfl fun K hK => ?_; simp only [gE1, gE2, gE3]; go_simp; refine (CR.out _ (HTO.out _ HMD.out) HRA.out).mono ?_; rintro e w11 ⟨v11, sv11, l11, rfl, hd11, hs11, ho11, hc11⟩; dsimp only; refine hK.out _ _ ?_ (fun hHeld => ?_)
      ·exact HSS.out _ (pl11 HFL.out HMD.out HDA.out HRA.out hc11).2.1
      clear hK K; try simp only [Act.put, pE1, pE2, pE3]
      obtain ⟨a11, c11, e11⟩ := row_slice ho11; subst e11; have HO11 := hid (row_mono (HTO.out _ HMD.out).size ho11); obtain ⟨hk1, hk2, hk3⟩ := pl11 HFL.out HMD.out HDA.out HRA.out hc11
      try have HN12 := hid ((hk3 b12 HG12.out (hLT HN12.out)).trans HN12.out)
      try have HN13 := hid ((hk3 b13 HG13.out (hLT HN13.out)).trans HN13.out)
      have HO5 := hid (row_cells HO5.out HRA.out hc11.1); have HDA := hid hk1; have HRA := hid hd11; have HMD := hid hk2; have HS11 := hid hs11; clear hd11 hs11 ho11 hc11 hk1 hk2 hk3; refine rd1 14 rfl fun K hK => ?_; obtain ⟨hc14_0, hf14_0, hc14_1, hf14_1, hc14_2, hf14_2⟩ := bx3 HN12.out; simp only [gE1, gE2, gE3]; go_simp; obtain ⟨y14, hy14, hm14, hv14⟩ := st3 HN12.out (.int .i64 r.1.code) (.int .i64 r.1.done) (.slice a5 r.1.data.length c5); rw [hy14]; clear hy14 hc14_0 hf14_0 hc14_1 hf14_1 hc14_2 hf14_2; have HMD := hid (mM HMD.out hm14 HG12.out); clear hHeld
      refine hK.out _ _ (HSS.out _ HMD.out) fun hHeld => ?_; clear hK K; try simp only [Act.put, pE1, pE2, pE3]
      have HN13 := hid (nMa hm14 HN13.out HNE12_13.out); have HB14o : Hid (∃ cs, w11.heap[b12]? = some (.cells cs 35 (0, 0))) := hid ⟨_, HN12.out⟩; have HN12 := hid hv14; have HM14 := hid hm14; clear hv14 hm14; refine rd1 15 rfl fun K hK => ?_; obtain ⟨hc15_0, hf15_0, hc15_1, hf15_1, hc15_2, hf15_2⟩ := bx3 HN13.out; simp only [gE1, gE2, gE3]; go_simp; obtain ⟨y15, hy15, hm15, hv15⟩ := st3 HN13.out (.int .i64 r.1.code) (.int .i64 r.1.done) (.slice a11 r.1.data.length c11); rw [hy15]; clear hy15 hc15_0 hf15_0 hc15_1 hf15_1 hc15_2 hf15_2; have HMD := hid (mM HMD.out hm15 HG13.out); clear hHeld
      refine hK.out _ _ (HSS.out _ HMD.out) fun hHeld => ?_; clear hK K; try simp only [Act.put, pE1, pE2, pE3]
      have HN12 := hid (nMb hm15 HN12.out HNE12_13.out); have HB15o : Hid (∃ cs, y14.heap[b13]? = some (.cells cs 35 (0, 0))) := hid ⟨_, HN13.out⟩; have HN13 := hid hv15; have HM15 := hid hm15; clear hv15 hm15; refine wpAnyH_done (by kernel_rfl) ⟨rfl, ?_⟩ _; have HEND := hid hHeld.2; have HSE := hid hHeld.1; clear hHeld; clear HSE HSS HEND; have HPM := hid (pl_end HDA.out HRA.out HO5.out HO11.out HB14o.out HM14.out HB15o.out HM15.out HN12.out HN13.out HRR.out HS5.out HS11.out HLK.out (HTO.out _ HMD.out)); go_wp2_with fail; go_meet; exact ⟨_, _, _, rfl, rfl, rfl, HPM.out⟩
    ·skip
     simp only [gE1, gE2, gE3]; go_simp; obtain ⟨b13, y13, hw13, hy13, hx13, HN13⟩ := al wd (.cells #[.int .i64 0, .int .i64 0, .slice none 0 0] 35); rw [hy13, hw13]; have HG13 : Hid (wr.heap.size ≤ b13) := hid (by have := HMD.out.size; omega); clear hy13 hw13; have HMD := hid (HMD.out.thenBelow hx13); clear hHeld; refine hK.out _ _ (HSS.out _ HMD.out) fun hHeld => ?_; clear hK K; try simp only [Act.put, pE1, pE2, pE3]
     have HDA := hid (HDA.out.below hx13); have HRA := hid (HRA.out.below hx13)
     try have HO5 := hid (ownsRow_below HO5.out hx13)
     try have HO11 := hid (ownsRow_below HO11.out hx13)
     clear hx13; refine rd2 5 12 rfl rfl (fun K hK => ?_) fun K hK => ?_
     ·skip
      simp only [gE1, gE2, gE3]; go_simp; refine (CD.out _ (HTO.out _ HMD.out) HDA.out).mono ?_; rintro e w5 ⟨v5, l5, rfl, hd5, hs5, ho5, hc5⟩; dsimp only; refine hK.out _ _ ?_ (fun hHeld => ?_)
      ·exact HSS.out _ (pl5 HFL.out HMD.out HDA.out HRA.out hc5).2.1
      clear hK K; try simp only [Act.put, pE1, pE2, pE3]
      obtain ⟨a5, c5, e5⟩ := row_slice ho5; subst e5; have HO5 := hid (row_mono (HTO.out _ HMD.out).size ho5); obtain ⟨hk1, hk2, hk3⟩ := pl5 HFL.out HMD.out HDA.out HRA.out hc5
      try have HN12 := hid ((hk3 b12 HG12.out (hLT HN12.out)).trans HN12.out)
      try have HN13 := hid ((hk3 b13 HG13.out (hLT HN13.out)).trans HN13.out)
      have HRA := hid hk1; have HDA := hid hd5; have HMD := hid hk2; have HS5 := hid hs5; clear hd5 hs5 ho5 hc5 hk1 hk2 hk3; refine rd2 11 12 rfl rfl (fun K hK => ?_) fun K hK => ?_
      ·skip
       simp only [gE1, gE2, gE3]; go_simp; refine (CR.out _ (HTO.out _ HMD.out) HRA.out).mono ?_; rintro e w11 ⟨v11, sv11, l11, rfl, hd11, hs11, ho11, hc11⟩; dsimp only; refine hK.out _ _ ?_ (fun hHeld => ?_)
       ·exact HSS.out _ (pl11 HFL.out HMD.out HDA.out HRA.out hc11).2.1
       clear hK K; try simp only [Act.put, pE1, pE2, pE3]
       obtain ⟨a11, c11, e11⟩ := row_slice ho11; subst e11; have HO11 := hid (row_mono (HTO.out _ HMD.out).size ho11); obtain ⟨hk1, hk2, hk3⟩ := pl11 HFL.out HMD.out HDA.out HRA.out hc11
       try have HN12 := hid ((hk3 b12 HG12.out (hLT HN12.out)).trans HN12.out)
       try have HN13 := hid ((hk3 b13 HG13.out (hLT HN13.out)).trans HN13.out)
       have HO5 := hid (row_cells HO5.out HRA.out hc11.1); have HDA := hid hk1; have HRA := hid hd11; have HMD := hid hk2; have HS11 := hid hs11; clear hd11 hs11 ho11 hc11 hk1 hk2 hk3; refine rd1 12 rfl fun K hK => ?_; simp only [gE1, gE2, gE3]; go_simp; obtain ⟨b12, y12, hw12, hy12, hx12, HN12⟩ := al w11 (.cells #[.int .i64 0, .int .i64 0, .slice none 0 0] 35); rw [hy12, hw12]; have HG12 : Hid (wr.heap.size ≤ b12) := hid (by have := HMD.out.size; omega); have HNE12_13 : Hid (b12 ≠ b13) := hid (by have := (hLT HN13.out); omega); clear hy12 hw12; have HMD := hid (HMD.out.thenBelow hx12)
       clear hHeld; refine hK.out _ _ (HSS.out _ HMD.out) fun hHeld => ?_; clear hK K; try simp only [Act.put, pE1, pE2, pE3]
       have HN13 := hid (nX hx12 HN13.out); have HDA := hid (HDA.out.below hx12); have HRA := hid (HRA.out.below hx12)
       try have HO5 := hid (ownsRow_below HO5.out hx12)
       try have HO11 := hid (ownsRow_below HO11.out hx12)
       clear hx12; refine rd1 14 rfl fun K hK => ?_; obtain ⟨hc14_0, hf14_0, hc14_1, hf14_1, hc14_2, hf14_2⟩ := bx3 HN12.out; simp only [gE1, gE2, gE3]; go_simp; obtain ⟨y14, hy14, hm14, hv14⟩ := st3 HN12.out (.int .i64 r.1.code) (.int .i64 r.1.done) (.slice a5 r.1.data.length c5); rw [hy14]; clear hy14 hc14_0 hf14_0 hc14_1 hf14_1 hc14_2 hf14_2; have HMD := hid (mM HMD.out hm14 HG12.out); clear hHeld; refine hK.out _ _ (HSS.out _ HMD.out) fun hHeld => ?_; clear hK K; try simp only [Act.put, pE1, pE2, pE3]
       have HN13 := hid (nMa hm14 HN13.out HNE12_13.out); have HB14o : Hid (∃ cs, y12.heap[b12]? = some (.cells cs 35 (0, 0))) := hid ⟨_, HN12.out⟩; have HN12 := hid hv14; have HM14 := hid hm14; clear hv14 hm14; refine rd1 15 rfl fun K hK => ?_; obtain ⟨hc15_0, hf15_0, hc15_1, hf15_1, hc15_2, hf15_2⟩ := bx3 HN13.out; simp only [gE1, gE2, gE3]; go_simp; obtain ⟨y15, hy15, hm15, hv15⟩ := st3 HN13.out (.int .i64 r.1.code) (.int .i64 r.1.done) (.slice a11 r.1.data.length c11); rw [hy15]; clear hy15 hc15_0 hf15_0 hc15_1 hf15_1 hc15_2 hf15_2; have HMD := hid (mM HMD.out hm15 HG13.out); clear hHeld
       refine hK.out _ _ (HSS.out _ HMD.out) fun hHeld => ?_; clear hK K; try simp only [Act.put, pE1, pE2, pE3]
       have HN12 := hid (nMb hm15 HN12.out HNE12_13.out); have HB15o : Hid (∃ cs, y14.heap[b13]? = some (.cells cs 35 (0, 0))) := hid ⟨_, HN13.out⟩; have HN13 := hid hv15; have HM15 := hid hm15; clear hv15 hm15; refine wpAnyH_done (by kernel_rfl) ⟨rfl, ?_⟩ _; have HEND := hid hHeld.2; have HSE := hid hHeld.1; clear hHeld; clear HSE HSS HEND; have HPM := hid (pl_end HDA.out HRA.out HO5.out HO11.out HB14o.out HM14.out HB15o.out HM15.out HN12.out HN13.out HRR.out HS5.out HS11.out HLK.out (HTO.out _ HMD.out)); go_wp2_with fail; go_meet; exact ⟨_, _, _, rfl, rfl, rfl, HPM.out⟩
      ·skip
       simp only [gE1, gE2, gE3]; go_simp; obtain ⟨b12, y12, hw12, hy12, hx12, HN12⟩ := al w5 (.cells #[.int .i64 0, .int .i64 0, .slice none 0 0] 35); rw [hy12, hw12]; have HG12 : Hid (wr.heap.size ≤ b12) := hid (by have := HMD.out.size; omega); have HNE12_13 : Hid (b12 ≠ b13) := hid (by have := (hLT HN13.out); omega); clear hy12 hw12; have HMD := hid (HMD.out.thenBelow hx12); clear hHeld; refine hK.out _ _ (HSS.out _ HMD.out) fun hHeld => ?_; clear hK K; try simp only [Act.put, pE1, pE2, pE3]
       have HN13 := hid (nX hx12 HN13.out); have HDA := hid (HDA.out.below hx12); have HRA := hid (HRA.out.below hx12)
       try have HO5 := hid (ownsRow_below HO5.out hx12)
       try have HO11 := hid (ownsRow_below HO11.out hx12)
       clear hx12; refine rd1 11 rfl fun K hK => ?_; simp only [gE1, gE2, gE3]; go_simp; refine (CR.out _ (HTO.out _ HMD.out) HRA.out).mono ?_; rintro e w11 ⟨v11, sv11, l11, rfl, hd11, hs11, ho11, hc11⟩; dsimp only; refine hK.out _ _ ?_ (fun hHeld => ?_)
       ·exact HSS.out _ (pl11 HFL.out HMD.out HDA.out HRA.out hc11).2.1
       clear hK K; try simp only [Act.put, pE1, pE2, pE3]
       obtain ⟨a11, c11, e11⟩ := row_slice ho11; subst e11; have HO11 := hid (row_mono (HTO.out _ HMD.out).size ho11); obtain ⟨hk1, hk2, hk3⟩ := pl11 HFL.out HMD.out HDA.out HRA.out hc11
       try have HN12 := hid ((hk3 b12 HG12.out (hLT HN12.out)).trans HN12.out)
       try have HN13 := hid ((hk3 b13 HG13.out (hLT HN13.out)).trans HN13.out)
       have HO5 := hid (row_cells HO5.out HRA.out hc11.1); have HDA := hid hk1; have HRA := hid hd11; have HMD := hid hk2; have HS11 := hid hs11; clear hd11 hs11 ho11 hc11 hk1 hk2 hk3; refine rd1 14 rfl fun K hK => ?_; obtain ⟨hc14_0, hf14_0, hc14_1, hf14_1, hc14_2, hf14_2⟩ := bx3 HN12.out; simp only [gE1, gE2, gE3]; go_simp; obtain ⟨y14, hy14, hm14, hv14⟩ := st3 HN12.out (.int .i64 r.1.code) (.int .i64 r.1.done) (.slice a5 r.1.data.length c5); rw [hy14]; clear hy14 hc14_0 hf14_0 hc14_1 hf14_1 hc14_2 hf14_2; have HMD := hid (mM HMD.out hm14 HG12.out); clear hHeld
       refine hK.out _ _ (HSS.out _ HMD.out) fun hHeld => ?_; clear hK K; try simp only [Act.put, pE1, pE2, pE3]
       have HN13 := hid (nMa hm14 HN13.out HNE12_13.out); have HB14o : Hid (∃ cs, w11.heap[b12]? = some (.cells cs 35 (0, 0))) := hid ⟨_, HN12.out⟩; have HN12 := hid hv14; have HM14 := hid hm14; clear hv14 hm14; refine rd1 15 rfl fun K hK => ?_; obtain ⟨hc15_0, hf15_0, hc15_1, hf15_1, hc15_2, hf15_2⟩ := bx3 HN13.out; simp only [gE1, gE2, gE3]; go_simp; obtain ⟨y15, hy15, hm15, hv15⟩ := st3 HN13.out (.int .i64 r.1.code) (.int .i64 r.1.done) (.slice a11 r.1.data.length c11); rw [hy15]; clear hy15 hc15_0 hf15_0 hc15_1 hf15_1 hc15_2 hf15_2; have HMD := hid (mM HMD.out hm15 HG13.out); clear hHeld
       refine hK.out _ _ (HSS.out _ HMD.out) fun hHeld => ?_; clear hK K; try simp only [Act.put, pE1, pE2, pE3]
       have HN12 := hid (nMb hm15 HN12.out HNE12_13.out); have HB15o : Hid (∃ cs, y14.heap[b13]? = some (.cells cs 35 (0, 0))) := hid ⟨_, HN13.out⟩; have HN13 := hid hv15; have HM15 := hid hm15; clear hv15 hm15; refine wpAnyH_done (by kernel_rfl) ⟨rfl, ?_⟩ _; have HEND := hid hHeld.2; have HSE := hid hHeld.1; clear hHeld; clear HSE HSS HEND; have HPM := hid (pl_end HDA.out HRA.out HO5.out HO11.out HB14o.out HM14.out HB15o.out HM15.out HN12.out HN13.out HRR.out HS5.out HS11.out HLK.out (HTO.out _ HMD.out)); go_wp2_with fail; go_meet; exact ⟨_, _, _, rfl, rfl, rfl, HPM.out⟩
     ·skip
      simp only [gE1, gE2, gE3]; go_simp; obtain ⟨b12, y12, hw12, hy12, hx12, HN12⟩ := al y13 (.cells #[.int .i64 0, .int .i64 0, .slice none 0 0] 35); rw [hy12, hw12]; have HG12 : Hid (wr.heap.size ≤ b12) := hid (by have := HMD.out.size; omega); have HNE12_13 : Hid (b12 ≠ b13) := hid (by have := (hLT HN13.out); omega); clear hy12 hw12; have HMD := hid (HMD.out.thenBelow hx12); clear hHeld; refine hK.out _ _ (HSS.out _ HMD.out) fun hHeld => ?_; clear hK K; try simp only [Act.put, pE1, pE2, pE3]
      have HN13 := hid (nX hx12 HN13.out); have HDA := hid (HDA.out.below hx12); have HRA := hid (HRA.out.below hx12)
      try have HO5 := hid (ownsRow_below HO5.out hx12)
      try have HO11 := hid (ownsRow_below HO11.out hx12)
      clear hx12; refine rd1 5 rfl fun K hK => ?_; simp only [gE1, gE2, gE3]; go_simp; refine (CD.out _ (HTO.out _ HMD.out) HDA.out).mono ?_; rintro e w5 ⟨v5, l5, rfl, hd5, hs5, ho5, hc5⟩; dsimp only; refine hK.out _ _ ?_ (fun hHeld => ?_)
      ·exact HSS.out _ (pl5 HFL.out HMD.out HDA.out HRA.out hc5).2.1
      clear hK K; try simp only [Act.put, pE1, pE2, pE3]
      obtain ⟨a5, c5, e5⟩ := row_slice ho5; subst e5; have HO5 := hid (row_mono (HTO.out _ HMD.out).size ho5); obtain ⟨hk1, hk2, hk3⟩ := pl5 HFL.out HMD.out HDA.out HRA.out hc5
      try have HN12 := hid ((hk3 b12 HG12.out (hLT HN12.out)).trans HN12.out)
      try have HN13 := hid ((hk3 b13 HG13.out (hLT HN13.out)).trans HN13.out)
      have HRA := hid hk1; have HDA := hid hd5; have HMD := hid hk2; have HS5 := hid hs5; clear hd5 hs5 ho5 hc5 hk1 hk2 hk3; refine rd1 11 rfl fun K hK => ?_; simp only [gE1, gE2, gE3]; go_simp; refine (CR.out _ (HTO.out _ HMD.out) HRA.out).mono ?_; rintro e w11 ⟨v11, sv11, l11, rfl, hd11, hs11, ho11, hc11⟩; dsimp only; refine hK.out _ _ ?_ (fun hHeld => ?_)
      ·exact HSS.out _ (pl11 HFL.out HMD.out HDA.out HRA.out hc11).2.1
      clear hK K; try simp only [Act.put, pE1, pE2, pE3]
      obtain ⟨a11, c11, e11⟩ := row_slice ho11; subst e11; have HO11 := hid (row_mono (HTO.out _ HMD.out).size ho11); obtain ⟨hk1, hk2, hk3⟩ := pl11 HFL.out HMD.out HDA.out HRA.out hc11
      try have HN12 := hid ((hk3 b12 HG12.out (hLT HN12.out)).trans HN12.out)
      try have HN13 := hid ((hk3 b13 HG13.out (hLT HN13.out)).trans HN13.out)
      have HO5 := hid (row_cells HO5.out HRA.out hc11.1); have HDA := hid hk1; have HRA := hid hd11; have HMD := hid hk2; have HS11 := hid hs11; clear hd11 hs11 ho11 hc11 hk1 hk2 hk3; refine rd1 14 rfl fun K hK => ?_; obtain ⟨hc14_0, hf14_0, hc14_1, hf14_1, hc14_2, hf14_2⟩ := bx3 HN12.out; simp only [gE1, gE2, gE3]; go_simp; obtain ⟨y14, hy14, hm14, hv14⟩ := st3 HN12.out (.int .i64 r.1.code) (.int .i64 r.1.done) (.slice a5 r.1.data.length c5); rw [hy14]; clear hy14 hc14_0 hf14_0 hc14_1 hf14_1 hc14_2 hf14_2; have HMD := hid (mM HMD.out hm14 HG12.out); clear hHeld
      refine hK.out _ _ (HSS.out _ HMD.out) fun hHeld => ?_; clear hK K; try simp only [Act.put, pE1, pE2, pE3]
      have HN13 := hid (nMa hm14 HN13.out HNE12_13.out); have HB14o : Hid (∃ cs, w11.heap[b12]? = some (.cells cs 35 (0, 0))) := hid ⟨_, HN12.out⟩; have HN12 := hid hv14; have HM14 := hid hm14; clear hv14 hm14; refine rd1 15 rfl fun K hK => ?_; obtain ⟨hc15_0, hf15_0, hc15_1, hf15_1, hc15_2, hf15_2⟩ := bx3 HN13.out; simp only [gE1, gE2, gE3]; go_simp; obtain ⟨y15, hy15, hm15, hv15⟩ := st3 HN13.out (.int .i64 r.1.code) (.int .i64 r.1.done) (.slice a11 r.1.data.length c11); rw [hy15]; clear hy15 hc15_0 hf15_0 hc15_1 hf15_1 hc15_2 hf15_2; have HMD := hid (mM HMD.out hm15 HG13.out); clear hHeld
      refine hK.out _ _ (HSS.out _ HMD.out) fun hHeld => ?_; clear hK K; try simp only [Act.put, pE1, pE2, pE3]
      have HN12 := hid (nMb hm15 HN12.out HNE12_13.out); have HB15o : Hid (∃ cs, y14.heap[b13]? = some (.cells cs 35 (0, 0))) := hid ⟨_, HN13.out⟩; have HN13 := hid hv15; have HM15 := hid hm15; clear hv15 hm15; refine wpAnyH_done (by kernel_rfl) ⟨rfl, ?_⟩ _; have HEND := hid hHeld.2; have HSE := hid hHeld.1; clear hHeld; clear HSE HSS HEND; have HPM := hid (pl_end HDA.out HRA.out HO5.out HO11.out HB14o.out HM14.out HB15o.out HM15.out HN12.out HN13.out HRR.out HS5.out HS11.out HLK.out (HTO.out _ HMD.out)); go_wp2_with fail; go_meet; exact ⟨_, _, _, rfl, rfl, rfl, HPM.out⟩
   case rest =>
    obtain ⟨W, b12, b13, rfl, rfl, rfl, a5, c5, a11, c11, l5, sv5, lw5, hx12, hx13, hrd5, hrd11, hdu5, hl5, hbw5⟩ := hcut; have HX12 := hid hx12; have HX13 := hid hx13; have HDU5 := hid hdu5; have HL5 := hid hl5; have HBW5 := hid hbw5; have CSA := rsameA_any r.1 r.1 _ _ W hrd5 hrd11; rw [ansEq_self] at CSA; unfold aC at CSA; have CLK : Hid (∀ X, Below W.heap.size W X → Calls Tryz.prog 11 #[.pointer (some ⟨B, 0, none⟩), .pointer (some ⟨C, 0, none⟩), .int .i64 leave] X fun e w' => e = .returned (.bool true) ∧ Below X.heap.size X w') := hid (fun X hX => by
     have h1 := devS_len HDU5.out.a.ok; have h2 : (strip l5).length = l5.length := by unfold strip; rw [mapA_len]
     have h3 := HL5.out; exact looks_any w.heap.size w.heap.size X B Ba l5 (HDU5.out.a.below hX) C sv5 lw5 (HDU5.out.b.below hX) HDU5.out.eq (by omega) (by omega) leave)
    have c0 := cellOf hx12 0 (v := .int .i64 r.1.code) rfl; have c1 := cellOf hx12 1 (v := .int .i64 r.1.done) rfl; have c2 := cellOf hx12 2 (v := .slice a5 r.1.data.length c5) rfl; have d0 := cellOf hx13 0 (v := .int .i64 r.1.code) rfl; have d1 := cellOf hx13 1 (v := .int .i64 r.1.done) rfl; have d2 := cellOf hx13 2 (v := .slice a11 r.1.data.length c11) rfl; clear hx12 hx13 hrd5 hrd11 hdu5 hl5 hbw5; go_wp2_with fail; refine CSA.mono ?_; rintro e w20 ⟨rfl, hb20⟩; have HB20 := hid hb20; clear CSA hb20 c0 c1 c2 d0 d1 d2; go_wp2_with fail; refine (CLK.out _ HB20.out).mono ?_
    rintro e w21 ⟨rfl, hb21⟩; have HB21 := hid (bthen HB20.out hb21); clear hb21; go_wp2_with fail; go_roundw
    case rel => exact ⟨k + 1, sv5, l5, lw5, by omega, by go_num, HDU5.out.below HB21.out, HL5.out, bthen HBW5.out HB21.out⟩
    case measure => simp [Go.Proofs.intOf]; omega
  ·obtain rfl : k = n := by omega
   have q0 : decide ((k : Int) < (k : Int)) = false := decide_eq_false (by omega); have CS := dsize_out w.heap.size wr B Ba l HU.out.a 1099511627776 (by omega) (get_no HU.out.a.ok (.inr (by omega))); have CM : Hid (∀ X, Below wr.heap.size wr X → Calls Tryz.prog 16 #[.pointer (some ⟨B, 0, none⟩), .int .u64 0] X fun e w' => e = .returned (.slice none 0 0) ∧ Below X.heap.size X w') := hid (fun X hX => dmapped_out w.heap.size X B Ba l (HU.out.a.below hX) 0 (by omega) (get_no HU.out.a.ok (.inl rfl))); change Calls _ _ #[_, .int .u64 1099511627776] _ _ at CS; go_wp2_with fail; refine CS.mono ?_
   rintro e w5 ⟨rfl, hb5⟩; dsimp only; have HB5 := hid hb5; clear CS hb5; go_wp2_with fail; refine (CM.out _ HB5.out).mono ?_; rintro e w6 ⟨rfl, hb6⟩; have HB6 := hid (bthen HB5.out hb6); clear hb6; have CK := known14_any w6; go_wp2_with fail; refine CK.mono ?_; rintro e w7 ⟨rfl, hb7⟩; have HB7 := hid (bthen HB6.out hb7); clear CK hb7; go_wp2_with fail; go_ret; exact ⟨rfl, bthen HBW.out HB7.out⟩
end Go.Proofs.YthkmihedkddnmaaGreat
