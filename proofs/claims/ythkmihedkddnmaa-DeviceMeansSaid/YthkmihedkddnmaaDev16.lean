/- Devices: snap, walked. (Its head is printed by mkdev16.py.) -/
import Derived.Test.YthkmihedkddnmaaDev15
namespace Go.Proofs.Ythkmihedkddnmaa
open Go.RowKit Go.Maps Wire Cmd
set_option linter.unusedVariables false
set_option linter.unusedSimpArgs false

set_option maxRecDepth 100000 in
set_option maxHeartbeats 3200000 in
theorem dsnap_at (n0 : Nat) (w : World) (B Ba : Nat) (l : List (Nat × (Vl × Nat))) (h : DevAt n0 w B Ba l) (o : Op0) (ao : Option Addr) (cap : Nat) (b : Int) (hn : o.data.length ≤ 9223372036854775807) (hmay : mayO o = true) (hk : o.k = 4) (x : Vl × Nat) (hg : getA o.vol l = some x) :
    Calls Try.prog 26 #[.pointer (some ⟨B, 0, none⟩), .agg (oC o (.slice ao o.data.length cap)), .int .i64 b] w fun e w' => e = .returned (ansE 0 0) ∧ ∃ b', DevAt n0 w' B Ba (putA o.to (x.1, b') l) ∧ Mods [Ba] w w' ∧ w.heap.size ≤ b' := by
  have HH := Lib.hid h
  have HG := Lib.hid hg
  have HVOL := Lib.hid (may_vol hmay (by omega))
  have HTO := Lib.hid (may_to hmay hk)
  have HVOK := Lib.hid (h.ok.vol (o.vol, x.1) (by unfold strip mapA; exact List.mem_map.2 ⟨_, getA_some hg, rfl⟩))
  have HPV : Hid (partV o = .iface 72 (.agg #[.int .u64 (o.vol : Int), .int .u64 (o.to : Int)])) := Lib.hid (by unfold partV; rw [if_neg (by omega), if_pos hk])
  obtain ⟨sl, hsl⟩ : ∃ s, Value.slice ao o.data.length cap = s := ⟨_, rfl⟩
  have CP : Hid (∀ X, Calls Try.prog 34 #[.agg (oC o sl)] X fun e w' => e = .returned (.iface 72 (.agg #[.int .u64 (o.vol : Int), .int .u64 (o.to : Int)])) ∧ Below X.heap.size X w') := Lib.hid (fun X => by rw [← hsl, ← HPV.out]; exact part13_any o ao cap X hn)
  rw [hsl]
  clear hsl h hk hmay hn hg
  obtain ⟨w2, hw2⟩ : ∃ W, (w.alloc (.cells #[.int .i64 o.k, .int .u64 (o.vol : Int), .int .u64 (o.to : Int), .int .i64 o.size, .int .i64 o.pl, .int .i64 o.count, sl] 27)).alloc (.cells #[.int .i64 0, .int .i64 0, .slice none 0 0] 35) = W := ⟨_, rfl⟩
  have HBX : Hid (Boxes w w2 (oC o sl)) := Lib.hid (by rw [← hw2]; exact boxes w (oC o sl))
  have HD2 := Lib.hid (HH.out.below HBX.out.bel)
  have HX2 := Lib.hid HBX.out.op
  have HLT := Lib.hid (Array.getElem?_eq_some_iff.1 HX2.out).1
  have HLK : Hid (∀ X, Below w2.heap.size w2 X → (Instr.lookup 47 (.map (some Ba)) (.int .u64 (o.vol : Int)) false).run Try.prog X = .ok (.agg #[.int .i64 (x.1.size : Int), .map (some x.2)]) X) := Lib.hid (fun X hX => ((HD2.out.below hX).look (Nat.lt_trans HVOL.out.2 (by decide)) HG.out).2)
  rw [show (oC o sl) = #[.int .i64 o.k, .int .u64 (o.vol : Int), .int .u64 (o.to : Int), .int .i64 o.size, .int .i64 o.pl, .int .i64 o.count, sl] from rfl]
  have t1 := is_fork
  go_enter Try.func26, Try.ntmps26
  go_upto_region 1 with fail
  (try rw [hw2])
  clear hw2
  go_cut [7, 8] (fun p q wx => ∃ W b7 b8, W = wx ∧ p = .pointer (some ⟨b7, 0, none⟩) ∧ q = .pointer (some ⟨b8, 0, none⟩) ∧ w2.heap.size ≤ b7 ∧ w2.heap.size ≤ b8 ∧ b7 ≠ b8 ∧ Below w2.heap.size w2 W ∧ W.heap[b7]? = some (.cells #[.int .i64 (x.1.size : Int), .map (some x.2)] 53 (0, 0)) ∧ W.heap[b8]? = some (.cells #[.int .u64 (o.vol : Int), .int .u64 (o.to : Int)] 72 (0, 0)))
  case first =>
    have HSS : Hid (∀ X, Below w2.heap.size w2 X → (X.cell? ⟨B, 0, none⟩ = some (.map (some Ba)) ∧ X.cell? ⟨w.heap.size, 0, none⟩ = some (.int .i64 o.k) ∧ X.cell? ⟨w.heap.size, 1, none⟩ = some (.int .u64 (o.vol : Int)) ∧ X.cell? ⟨w.heap.size, 2, none⟩ = some (.int .u64 (o.to : Int)) ∧ X.cell? ⟨w.heap.size, 3, none⟩ = some (.int .i64 o.size) ∧ X.cell? ⟨w.heap.size, 4, none⟩ = some (.int .i64 o.pl) ∧ X.cell? ⟨w.heap.size, 5, none⟩ = some (.int .i64 o.count) ∧ X.cell? ⟨w.heap.size, 6, none⟩ = some (sl)) ∧ Below w2.heap.size w2 X) := Lib.hid (fun X hb => ⟨⟨(World.cell?_of_block (hb.block _ (HD2.out.lt))).trans (HD2.out.cell), (World.cell?_of_block (hb.block _ (HLT.out))).trans (cellOf HX2.out 0 rfl), (World.cell?_of_block (hb.block _ (HLT.out))).trans (cellOf HX2.out 1 rfl), (World.cell?_of_block (hb.block _ (HLT.out))).trans (cellOf HX2.out 2 rfl), (World.cell?_of_block (hb.block _ (HLT.out))).trans (cellOf HX2.out 3 rfl), (World.cell?_of_block (hb.block _ (HLT.out))).trans (cellOf HX2.out 4 rfl), (World.cell?_of_block (hb.block _ (HLT.out))).trans (cellOf HX2.out 5 rfl), (World.cell?_of_block (hb.block _ (HLT.out))).trans (cellOf HX2.out 6 rfl)⟩, hb⟩)
    refine wp_region_held_drew (S := fun X => (X.cell? ⟨B, 0, none⟩ = some (.map (some Ba)) ∧ X.cell? ⟨w.heap.size, 0, none⟩ = some (.int .i64 o.k) ∧ X.cell? ⟨w.heap.size, 1, none⟩ = some (.int .u64 (o.vol : Int)) ∧ X.cell? ⟨w.heap.size, 2, none⟩ = some (.int .u64 (o.to : Int)) ∧ X.cell? ⟨w.heap.size, 3, none⟩ = some (.int .i64 o.size) ∧ X.cell? ⟨w.heap.size, 4, none⟩ = some (.int .i64 o.pl) ∧ X.cell? ⟨w.heap.size, 5, none⟩ = some (.int .i64 o.count) ∧ X.cell? ⟨w.heap.size, 6, none⟩ = some (sl)) ∧ Below w2.heap.size w2 X) (by kernel_rfl) (HSS.out _ (Below.refl _ _).drew) (fun hHeld => ?_)
    have hbe : Below w2.heap.size w2 w2.drew := (Below.refl _ _).drew
    obtain ⟨wd, hwd⟩ : ∃ y, w2.drew = y := ⟨_, rfl⟩
    rw [hwd] at hHeld hbe ⊢
    have HBE := Lib.hid hbe
    have HS0 : Hid (w2.heap.size ≤ wd.heap.size) := Lib.hid HBE.out.size
    clear hwd hbe
    refine wpAnyH_take (i := 0) (v := ?_) rfl (by kernel_rfl) (by kernel_rfl) (by kernel_rfl) (fun _ _ _ h => h) (Or.inl ⟨by rfl, ?_⟩) (by assumption) ?_
    rotate_left
    · (intro w hSw; (try dsimp only at hSw); simp only [List.getElem_toArray, List.getElem_cons_zero, List.getElem_cons_succ]; go_simp; first | done | with_reducible rfl)
    simp only [List.getElem_toArray, List.getElem_cons_zero, List.getElem_cons_succ, Act.put, List.setIfInBounds_toArray, List.set_cons_zero, List.set_cons_succ]
    refine wpAnyH_take (i := 4) (v := ?_) rfl (by kernel_rfl) (by kernel_rfl) (by kernel_rfl) (fun _ _ _ h => h) (Or.inl ⟨by rfl, ?_⟩) (by assumption) ?_
    rotate_left
    · (intro w hSw; (try dsimp only at hSw); simp only [List.getElem_toArray, List.getElem_cons_zero, List.getElem_cons_succ]; go_simp; first | done | with_reducible rfl)
    simp only [List.getElem_toArray, List.getElem_cons_zero, List.getElem_cons_succ, Act.put, List.setIfInBounds_toArray, List.set_cons_zero, List.set_cons_succ]
    refine wpAnyH_take (i := 7) (v := ?_) rfl (by kernel_rfl) (by kernel_rfl) (by kernel_rfl) (fun _ _ _ h => h) (Or.inl ⟨by rfl, ?_⟩) (by assumption) ?_
    rotate_left
    · (intro w hSw; (try dsimp only at hSw); simp only [List.getElem_toArray, List.getElem_cons_zero, List.getElem_cons_succ]; go_simp; first | done | with_reducible rfl)
    simp only [List.getElem_toArray, List.getElem_cons_zero, List.getElem_cons_succ, Act.put, List.setIfInBounds_toArray, List.set_cons_zero, List.set_cons_succ]
    refine wpAnyH_take (i := 1) (v := ?_) rfl (by kernel_rfl) (by kernel_rfl) (by kernel_rfl) (fun _ _ _ h => h) (Or.inl ⟨by rfl, ?_⟩) (by assumption) ?_
    rotate_left
    · (intro w hSw; (try dsimp only at hSw); simp only [List.getElem_toArray, List.getElem_cons_zero, List.getElem_cons_succ]; go_simp; first | done | with_reducible rfl)
    simp only [List.getElem_toArray, List.getElem_cons_zero, List.getElem_cons_succ, Act.put, List.setIfInBounds_toArray, List.set_cons_zero, List.set_cons_succ]
    refine wpAnyH_take (i := 5) (v := ?_) rfl (by kernel_rfl) (by kernel_rfl) (by kernel_rfl) (fun _ _ _ h => h) (Or.inl ⟨by rfl, ?_⟩) (by assumption) ?_
    rotate_left
    · (intro w hSw; (try dsimp only at hSw); simp only [List.getElem_toArray, List.getElem_cons_zero, List.getElem_cons_succ]; go_simp; first | done | with_reducible rfl)
    simp only [List.getElem_toArray, List.getElem_cons_zero, List.getElem_cons_succ, Act.put, List.setIfInBounds_toArray, List.set_cons_zero, List.set_cons_succ]
    refine wpAnyH_take (i := 2) (v := ?_) rfl (by kernel_rfl) (by kernel_rfl) (by kernel_rfl) (fun _ _ _ h => h) (Or.inl ⟨by rfl, ?_⟩) (by assumption) ?_
    rotate_left
    · (intro w hSw; (try dsimp only at hSw); simp only [List.getElem_toArray, List.getElem_cons_zero, List.getElem_cons_succ]; go_simp; first | done | with_reducible rfl)
    simp only [List.getElem_toArray, List.getElem_cons_zero, List.getElem_cons_succ, Act.put, List.setIfInBounds_toArray, List.set_cons_zero, List.set_cons_succ]
    refine wpAnyH_take (i := 3) (v := ?_) rfl (by kernel_rfl) (by kernel_rfl) (by kernel_rfl) (fun _ _ _ h => h) (Or.inl ⟨by rfl, ?_⟩) (by assumption) ?_
    rotate_left
    · (intro w hSw; (try dsimp only at hSw); simp only [List.getElem_toArray, List.getElem_cons_zero, List.getElem_cons_succ]; go_simp; first | done | with_reducible rfl)
    simp only [List.getElem_toArray, List.getElem_cons_zero, List.getElem_cons_succ, Act.put, List.setIfInBounds_toArray, List.set_cons_zero, List.set_cons_succ]
    refine wpAnyH_take (i := 6) (v := .agg #[.int .i64 (x.1.size : Int), .map (some x.2)]) rfl (by kernel_rfl) (by kernel_rfl) (by kernel_rfl) (fun _ _ _ h => h) (Or.inl ⟨by rfl, ?_⟩) (by assumption) ?_
    · (intro w hSw; simp only [List.getElem_toArray, List.getElem_cons_zero, List.getElem_cons_succ]; (have h6 := HLK.out w hSw.2; go_simp; first | done | with_reducible rfl))
    simp only [List.getElem_toArray, List.getElem_cons_zero, List.getElem_cons_succ, Act.put, List.setIfInBounds_toArray, List.set_cons_zero, List.set_cons_succ]
    refine wpAnyH_ready (rs := [8, 10, 11]) (by kernel_rfl) (by simp) ?_
    refine AllReadyH.cons rfl (fun K hK => ?_) (AllReadyH.cons rfl (fun K hK => ?_) (AllReadyH.cons rfl (fun K hK => ?_) (AllReadyH.nil)))
    · skip
      simp only [List.getElem_toArray, List.getElem_cons_zero, List.getElem_cons_succ]
      go_simp
      refine (CP.out _).mono ?_
      rintro e w3 ⟨rfl, hb3⟩
      dsimp only
      have HBE := Lib.hid (bthen HBE.out hb3)
      have hSp := HSS.out _ HBE.out
      clear hHeld
      refine hK.out _ _ hSp (fun hHeld => ?_)
      clear hSp hK K
      try simp only [Act.put, List.setIfInBounds_toArray, List.set_cons_zero, List.set_cons_succ]
      have HC8 := Lib.hid hb3
      clear hb3
      refine wpAnyH_take (i := 9) (v := ?_) rfl (by kernel_rfl) (by kernel_rfl) (by kernel_rfl) (fun _ _ _ h => h) (Or.inl ⟨by rfl, ?_⟩) (by assumption) ?_
      rotate_left
      · (intro w hSw; (try dsimp only at hSw); simp only [List.getElem_toArray, List.getElem_cons_zero, List.getElem_cons_succ]; go_simp; first | done | with_reducible rfl)
      simp only [List.getElem_toArray, List.getElem_cons_zero, List.getElem_cons_succ, Act.put, List.setIfInBounds_toArray, List.set_cons_zero, List.set_cons_succ]
      refine wpAnyH_ready (rs := [10, 11]) (by kernel_rfl) (by simp) ?_
      refine AllReadyH.cons rfl (fun K hK => ?_) (AllReadyH.cons rfl (fun K hK => ?_) (AllReadyH.nil))
      · skip
        simp only [List.getElem_toArray, List.getElem_cons_zero, List.getElem_cons_succ]
        go_simp
        obtain ⟨b10, hw10⟩ : ∃ b, w3.heap.size = b := ⟨_, rfl⟩
        obtain ⟨y10, hy10⟩ : ∃ y, w3.alloc (.cells #[.int .i64 0, .map none] 53) = y := ⟨_, rfl⟩
        rw [hy10, hw10]
        have hx10 : Below w3.heap.size w3 y10 := by rw [← hy10]; exact balloc (Below.refl _ _) _
        have HN10 : Hid (y10.heap[b10]? = some (.cells #[.int .i64 0, .map none] 53 (0, 0))) := Lib.hid (by rw [← hy10, ← hw10]; exact heap_alloc_new _ _)
        have HG10 : Hid (w2.heap.size ≤ b10) := Lib.hid (by have := HBE.out.size; omega)
        clear hy10 hw10
        have HBE := Lib.hid (bthen HBE.out hx10)
        have hSp := HSS.out _ HBE.out
        clear hHeld
        refine hK.out _ _ hSp (fun hHeld => ?_)
        clear hSp hK K
        try simp only [Act.put, List.setIfInBounds_toArray, List.set_cons_zero, List.set_cons_succ]
        clear hx10
        refine wpAnyH_ready (rs := [11]) (by kernel_rfl) (by simp) ?_
        refine AllReadyH.cons rfl (fun K hK => ?_) (AllReadyH.nil)
        simp only [List.getElem_toArray, List.getElem_cons_zero, List.getElem_cons_succ]
        go_simp
        obtain ⟨b11, hw11⟩ : ∃ b, y10.heap.size = b := ⟨_, rfl⟩
        obtain ⟨y11, hy11⟩ : ∃ y, y10.alloc (.cells #[.int .u64 0, .int .u64 0] 72) = y := ⟨_, rfl⟩
        rw [hy11, hw11]
        have hx11 : Below y10.heap.size y10 y11 := by rw [← hy11]; exact balloc (Below.refl _ _) _
        have HN11 : Hid (y11.heap[b11]? = some (.cells #[.int .u64 0, .int .u64 0] 72 (0, 0))) := Lib.hid (by rw [← hy11, ← hw11]; exact heap_alloc_new _ _)
        have HG11 : Hid (w2.heap.size ≤ b11) := Lib.hid (by have := HBE.out.size; omega)
        have HNE10_11 : Hid (b10 ≠ b11) := Lib.hid (by have := (Array.getElem?_eq_some_iff.1 HN10.out).1; omega)
        clear hy11 hw11
        have HBE := Lib.hid (bthen HBE.out hx11)
        have hSp := HSS.out _ HBE.out
        clear hHeld
        refine hK.out _ _ hSp (fun hHeld => ?_)
        clear hSp hK K
        try simp only [Act.put, List.setIfInBounds_toArray, List.set_cons_zero, List.set_cons_succ]
        have HN10 := Lib.hid ((hx11.block b10 (Array.getElem?_eq_some_iff.1 HN10.out).1).trans HN10.out)
        clear hx11
        refine wpAnyH_ready (rs := [12]) (by kernel_rfl) (by simp) ?_
        refine AllReadyH.cons rfl (fun K hK => ?_) (AllReadyH.nil)
        have hc12_0 := cellOf HN10.out 0 rfl
        have hf12_0 := frozenOf HN10.out 0
        have hc12_1 := cellOf HN10.out 1 rfl
        have hf12_1 := frozenOf HN10.out 1
        simp only [List.getElem_toArray, List.getElem_cons_zero, List.getElem_cons_succ]
        go_simp
        obtain ⟨y12, hy12⟩ : ∃ y, ((y11.setCell ⟨b10, 0, none⟩ (.int .i64 (x.1.size : Int))).setCell ⟨b10, 1, none⟩ (.map (some x.2))) = y := ⟨_, rfl⟩
        rw [hy12]
        have hm12 : Mods [b10] y11 y12 := by rw [← hy12]; exact ((Mods.refl [b10] y11).setCell (p := ⟨b10, 0, none⟩) (by simp) _).setCell (p := ⟨b10, 1, none⟩) (by simp) _
        have hv12 := setOf (setOf (HN10.out) 0 (.int .i64 (x.1.size : Int))) 1 (.map (some x.2))
        rw [hy12] at hv12
        clear hy12 hc12_0 hf12_0 hc12_1 hf12_1
        have HBE : Hid (Below w2.heap.size w2 y12) := Lib.hid (HBE.out.trans (hm12.below (fun k hk => by have := HG10.out; have e := List.mem_singleton.1 hk; omega) HBE.out.size))
        have hSp := HSS.out _ HBE.out
        clear hHeld
        refine hK.out _ _ hSp (fun hHeld => ?_)
        clear hSp hK K
        try simp only [Act.put, List.setIfInBounds_toArray, List.set_cons_zero, List.set_cons_succ]
        have HN11 := Lib.hid ((hm12.block b11 (Array.getElem?_eq_some_iff.1 HN11.out).1 (fun h => by have e := List.mem_singleton.1 h; have := HNE10_11.out; omega)).trans HN11.out)
        simp only [List.setIfInBounds_toArray, List.set_cons_zero, List.set_cons_succ] at hv12
        have HN10 := Lib.hid hv12
        clear hv12 hm12
        refine wpAnyH_ready (rs := [13]) (by kernel_rfl) (by simp) ?_
        refine AllReadyH.cons rfl (fun K hK => ?_) (AllReadyH.nil)
        have hc13_0 := cellOf HN11.out 0 rfl
        have hf13_0 := frozenOf HN11.out 0
        have hc13_1 := cellOf HN11.out 1 rfl
        have hf13_1 := frozenOf HN11.out 1
        simp only [List.getElem_toArray, List.getElem_cons_zero, List.getElem_cons_succ]
        go_simp
        obtain ⟨y13, hy13⟩ : ∃ y, ((y12.setCell ⟨b11, 0, none⟩ (.int .u64 (o.vol : Int))).setCell ⟨b11, 1, none⟩ (.int .u64 (o.to : Int))) = y := ⟨_, rfl⟩
        rw [hy13]
        have hm13 : Mods [b11] y12 y13 := by rw [← hy13]; exact ((Mods.refl [b11] y12).setCell (p := ⟨b11, 0, none⟩) (by simp) _).setCell (p := ⟨b11, 1, none⟩) (by simp) _
        have hv13 := setOf (setOf (HN11.out) 0 (.int .u64 (o.vol : Int))) 1 (.int .u64 (o.to : Int))
        rw [hy13] at hv13
        clear hy13 hc13_0 hf13_0 hc13_1 hf13_1
        have HBE : Hid (Below w2.heap.size w2 y13) := Lib.hid (HBE.out.trans (hm13.below (fun k hk => by have := HG11.out; have e := List.mem_singleton.1 hk; omega) HBE.out.size))
        have hSp := HSS.out _ HBE.out
        clear hHeld
        refine hK.out _ _ hSp (fun hHeld => ?_)
        clear hSp hK K
        try simp only [Act.put, List.setIfInBounds_toArray, List.set_cons_zero, List.set_cons_succ]
        have HN10 := Lib.hid ((hm13.block b10 (Array.getElem?_eq_some_iff.1 HN10.out).1 (fun h => by have e := List.mem_singleton.1 h; have := HNE10_11.out; omega)).trans HN10.out)
        simp only [List.setIfInBounds_toArray, List.set_cons_zero, List.set_cons_succ] at hv13
        have HN11 := Lib.hid hv13
        clear hv13 hm13
        refine wpAnyH_done (by kernel_rfl) ?_ _
        have HEND := Lib.hid hHeld.2
        have HSE := Lib.hid hHeld.1
        clear hHeld
        clear HSE HSS
        go_wp2_with fail
        go_meet
        exact ⟨_, _, _, rfl, rfl, rfl, HG10.out, HG11.out, HNE10_11.out, HEND.out, HN10.out, HN11.out⟩
      · skip
        simp only [List.getElem_toArray, List.getElem_cons_zero, List.getElem_cons_succ]
        go_simp
        obtain ⟨b11, hw11⟩ : ∃ b, w3.heap.size = b := ⟨_, rfl⟩
        obtain ⟨y11, hy11⟩ : ∃ y, w3.alloc (.cells #[.int .u64 0, .int .u64 0] 72) = y := ⟨_, rfl⟩
        rw [hy11, hw11]
        have hx11 : Below w3.heap.size w3 y11 := by rw [← hy11]; exact balloc (Below.refl _ _) _
        have HN11 : Hid (y11.heap[b11]? = some (.cells #[.int .u64 0, .int .u64 0] 72 (0, 0))) := Lib.hid (by rw [← hy11, ← hw11]; exact heap_alloc_new _ _)
        have HG11 : Hid (w2.heap.size ≤ b11) := Lib.hid (by have := HBE.out.size; omega)
        clear hy11 hw11
        have HBE := Lib.hid (bthen HBE.out hx11)
        have hSp := HSS.out _ HBE.out
        clear hHeld
        refine hK.out _ _ hSp (fun hHeld => ?_)
        clear hSp hK K
        try simp only [Act.put, List.setIfInBounds_toArray, List.set_cons_zero, List.set_cons_succ]
        clear hx11
        refine wpAnyH_ready (rs := [10]) (by kernel_rfl) (by simp) ?_
        refine AllReadyH.cons rfl (fun K hK => ?_) (AllReadyH.nil)
        simp only [List.getElem_toArray, List.getElem_cons_zero, List.getElem_cons_succ]
        go_simp
        obtain ⟨b10, hw10⟩ : ∃ b, y11.heap.size = b := ⟨_, rfl⟩
        obtain ⟨y10, hy10⟩ : ∃ y, y11.alloc (.cells #[.int .i64 0, .map none] 53) = y := ⟨_, rfl⟩
        rw [hy10, hw10]
        have hx10 : Below y11.heap.size y11 y10 := by rw [← hy10]; exact balloc (Below.refl _ _) _
        have HN10 : Hid (y10.heap[b10]? = some (.cells #[.int .i64 0, .map none] 53 (0, 0))) := Lib.hid (by rw [← hy10, ← hw10]; exact heap_alloc_new _ _)
        have HG10 : Hid (w2.heap.size ≤ b10) := Lib.hid (by have := HBE.out.size; omega)
        have HNE10_11 : Hid (b10 ≠ b11) := Lib.hid (by have := (Array.getElem?_eq_some_iff.1 HN11.out).1; omega)
        clear hy10 hw10
        have HBE := Lib.hid (bthen HBE.out hx10)
        have hSp := HSS.out _ HBE.out
        clear hHeld
        refine hK.out _ _ hSp (fun hHeld => ?_)
        clear hSp hK K
        try simp only [Act.put, List.setIfInBounds_toArray, List.set_cons_zero, List.set_cons_succ]
        have HN11 := Lib.hid ((hx10.block b11 (Array.getElem?_eq_some_iff.1 HN11.out).1).trans HN11.out)
        clear hx10
        refine wpAnyH_ready (rs := [12]) (by kernel_rfl) (by simp) ?_
        refine AllReadyH.cons rfl (fun K hK => ?_) (AllReadyH.nil)
        have hc12_0 := cellOf HN10.out 0 rfl
        have hf12_0 := frozenOf HN10.out 0
        have hc12_1 := cellOf HN10.out 1 rfl
        have hf12_1 := frozenOf HN10.out 1
        simp only [List.getElem_toArray, List.getElem_cons_zero, List.getElem_cons_succ]
        go_simp
        obtain ⟨y12, hy12⟩ : ∃ y, ((y10.setCell ⟨b10, 0, none⟩ (.int .i64 (x.1.size : Int))).setCell ⟨b10, 1, none⟩ (.map (some x.2))) = y := ⟨_, rfl⟩
        rw [hy12]
        have hm12 : Mods [b10] y10 y12 := by rw [← hy12]; exact ((Mods.refl [b10] y10).setCell (p := ⟨b10, 0, none⟩) (by simp) _).setCell (p := ⟨b10, 1, none⟩) (by simp) _
        have hv12 := setOf (setOf (HN10.out) 0 (.int .i64 (x.1.size : Int))) 1 (.map (some x.2))
        rw [hy12] at hv12
        clear hy12 hc12_0 hf12_0 hc12_1 hf12_1
        have HBE : Hid (Below w2.heap.size w2 y12) := Lib.hid (HBE.out.trans (hm12.below (fun k hk => by have := HG10.out; have e := List.mem_singleton.1 hk; omega) HBE.out.size))
        have hSp := HSS.out _ HBE.out
        clear hHeld
        refine hK.out _ _ hSp (fun hHeld => ?_)
        clear hSp hK K
        try simp only [Act.put, List.setIfInBounds_toArray, List.set_cons_zero, List.set_cons_succ]
        have HN11 := Lib.hid ((hm12.block b11 (Array.getElem?_eq_some_iff.1 HN11.out).1 (fun h => by have e := List.mem_singleton.1 h; have := HNE10_11.out; omega)).trans HN11.out)
        simp only [List.setIfInBounds_toArray, List.set_cons_zero, List.set_cons_succ] at hv12
        have HN10 := Lib.hid hv12
        clear hv12 hm12
        refine wpAnyH_ready (rs := [13]) (by kernel_rfl) (by simp) ?_
        refine AllReadyH.cons rfl (fun K hK => ?_) (AllReadyH.nil)
        have hc13_0 := cellOf HN11.out 0 rfl
        have hf13_0 := frozenOf HN11.out 0
        have hc13_1 := cellOf HN11.out 1 rfl
        have hf13_1 := frozenOf HN11.out 1
        simp only [List.getElem_toArray, List.getElem_cons_zero, List.getElem_cons_succ]
        go_simp
        obtain ⟨y13, hy13⟩ : ∃ y, ((y12.setCell ⟨b11, 0, none⟩ (.int .u64 (o.vol : Int))).setCell ⟨b11, 1, none⟩ (.int .u64 (o.to : Int))) = y := ⟨_, rfl⟩
        rw [hy13]
        have hm13 : Mods [b11] y12 y13 := by rw [← hy13]; exact ((Mods.refl [b11] y12).setCell (p := ⟨b11, 0, none⟩) (by simp) _).setCell (p := ⟨b11, 1, none⟩) (by simp) _
        have hv13 := setOf (setOf (HN11.out) 0 (.int .u64 (o.vol : Int))) 1 (.int .u64 (o.to : Int))
        rw [hy13] at hv13
        clear hy13 hc13_0 hf13_0 hc13_1 hf13_1
        have HBE : Hid (Below w2.heap.size w2 y13) := Lib.hid (HBE.out.trans (hm13.below (fun k hk => by have := HG11.out; have e := List.mem_singleton.1 hk; omega) HBE.out.size))
        have hSp := HSS.out _ HBE.out
        clear hHeld
        refine hK.out _ _ hSp (fun hHeld => ?_)
        clear hSp hK K
        try simp only [Act.put, List.setIfInBounds_toArray, List.set_cons_zero, List.set_cons_succ]
        have HN10 := Lib.hid ((hm13.block b10 (Array.getElem?_eq_some_iff.1 HN10.out).1 (fun h => by have e := List.mem_singleton.1 h; have := HNE10_11.out; omega)).trans HN10.out)
        simp only [List.setIfInBounds_toArray, List.set_cons_zero, List.set_cons_succ] at hv13
        have HN11 := Lib.hid hv13
        clear hv13 hm13
        refine wpAnyH_done (by kernel_rfl) ?_ _
        have HEND := Lib.hid hHeld.2
        have HSE := Lib.hid hHeld.1
        clear hHeld
        clear HSE HSS
        go_wp2_with fail
        go_meet
        exact ⟨_, _, _, rfl, rfl, rfl, HG10.out, HG11.out, HNE10_11.out, HEND.out, HN10.out, HN11.out⟩
    · skip
      simp only [List.getElem_toArray, List.getElem_cons_zero, List.getElem_cons_succ]
      go_simp
      obtain ⟨b10, hw10⟩ : ∃ b, wd.heap.size = b := ⟨_, rfl⟩
      obtain ⟨y10, hy10⟩ : ∃ y, wd.alloc (.cells #[.int .i64 0, .map none] 53) = y := ⟨_, rfl⟩
      rw [hy10, hw10]
      have hx10 : Below wd.heap.size wd y10 := by rw [← hy10]; exact balloc (Below.refl _ _) _
      have HN10 : Hid (y10.heap[b10]? = some (.cells #[.int .i64 0, .map none] 53 (0, 0))) := Lib.hid (by rw [← hy10, ← hw10]; exact heap_alloc_new _ _)
      have HG10 : Hid (w2.heap.size ≤ b10) := Lib.hid (by have := HBE.out.size; omega)
      clear hy10 hw10
      have HBE := Lib.hid (bthen HBE.out hx10)
      have hSp := HSS.out _ HBE.out
      clear hHeld
      refine hK.out _ _ hSp (fun hHeld => ?_)
      clear hSp hK K
      try simp only [Act.put, List.setIfInBounds_toArray, List.set_cons_zero, List.set_cons_succ]
      clear hx10
      refine wpAnyH_ready (rs := [8, 11]) (by kernel_rfl) (by simp) ?_
      refine AllReadyH.cons rfl (fun K hK => ?_) (AllReadyH.cons rfl (fun K hK => ?_) (AllReadyH.nil))
      · skip
        simp only [List.getElem_toArray, List.getElem_cons_zero, List.getElem_cons_succ]
        go_simp
        refine (CP.out _).mono ?_
        rintro e w3 ⟨rfl, hb3⟩
        dsimp only
        have HBE := Lib.hid (bthen HBE.out hb3)
        have hSp := HSS.out _ HBE.out
        clear hHeld
        refine hK.out _ _ hSp (fun hHeld => ?_)
        clear hSp hK K
        try simp only [Act.put, List.setIfInBounds_toArray, List.set_cons_zero, List.set_cons_succ]
        have HN10 := Lib.hid ((hb3.block b10 (Array.getElem?_eq_some_iff.1 HN10.out).1).trans HN10.out)
        have HC8 := Lib.hid hb3
        clear hb3
        refine wpAnyH_take (i := 9) (v := ?_) rfl (by kernel_rfl) (by kernel_rfl) (by kernel_rfl) (fun _ _ _ h => h) (Or.inl ⟨by rfl, ?_⟩) (by assumption) ?_
        rotate_left
        · (intro w hSw; (try dsimp only at hSw); simp only [List.getElem_toArray, List.getElem_cons_zero, List.getElem_cons_succ]; go_simp; first | done | with_reducible rfl)
        simp only [List.getElem_toArray, List.getElem_cons_zero, List.getElem_cons_succ, Act.put, List.setIfInBounds_toArray, List.set_cons_zero, List.set_cons_succ]
        refine wpAnyH_ready (rs := [11]) (by kernel_rfl) (by simp) ?_
        refine AllReadyH.cons rfl (fun K hK => ?_) (AllReadyH.nil)
        simp only [List.getElem_toArray, List.getElem_cons_zero, List.getElem_cons_succ]
        go_simp
        obtain ⟨b11, hw11⟩ : ∃ b, w3.heap.size = b := ⟨_, rfl⟩
        obtain ⟨y11, hy11⟩ : ∃ y, w3.alloc (.cells #[.int .u64 0, .int .u64 0] 72) = y := ⟨_, rfl⟩
        rw [hy11, hw11]
        have hx11 : Below w3.heap.size w3 y11 := by rw [← hy11]; exact balloc (Below.refl _ _) _
        have HN11 : Hid (y11.heap[b11]? = some (.cells #[.int .u64 0, .int .u64 0] 72 (0, 0))) := Lib.hid (by rw [← hy11, ← hw11]; exact heap_alloc_new _ _)
        have HG11 : Hid (w2.heap.size ≤ b11) := Lib.hid (by have := HBE.out.size; omega)
        have HNE10_11 : Hid (b10 ≠ b11) := Lib.hid (by have := (Array.getElem?_eq_some_iff.1 HN10.out).1; omega)
        clear hy11 hw11
        have HBE := Lib.hid (bthen HBE.out hx11)
        have hSp := HSS.out _ HBE.out
        clear hHeld
        refine hK.out _ _ hSp (fun hHeld => ?_)
        clear hSp hK K
        try simp only [Act.put, List.setIfInBounds_toArray, List.set_cons_zero, List.set_cons_succ]
        have HN10 := Lib.hid ((hx11.block b10 (Array.getElem?_eq_some_iff.1 HN10.out).1).trans HN10.out)
        clear hx11
        refine wpAnyH_ready (rs := [12]) (by kernel_rfl) (by simp) ?_
        refine AllReadyH.cons rfl (fun K hK => ?_) (AllReadyH.nil)
        have hc12_0 := cellOf HN10.out 0 rfl
        have hf12_0 := frozenOf HN10.out 0
        have hc12_1 := cellOf HN10.out 1 rfl
        have hf12_1 := frozenOf HN10.out 1
        simp only [List.getElem_toArray, List.getElem_cons_zero, List.getElem_cons_succ]
        go_simp
        obtain ⟨y12, hy12⟩ : ∃ y, ((y11.setCell ⟨b10, 0, none⟩ (.int .i64 (x.1.size : Int))).setCell ⟨b10, 1, none⟩ (.map (some x.2))) = y := ⟨_, rfl⟩
        rw [hy12]
        have hm12 : Mods [b10] y11 y12 := by rw [← hy12]; exact ((Mods.refl [b10] y11).setCell (p := ⟨b10, 0, none⟩) (by simp) _).setCell (p := ⟨b10, 1, none⟩) (by simp) _
        have hv12 := setOf (setOf (HN10.out) 0 (.int .i64 (x.1.size : Int))) 1 (.map (some x.2))
        rw [hy12] at hv12
        clear hy12 hc12_0 hf12_0 hc12_1 hf12_1
        have HBE : Hid (Below w2.heap.size w2 y12) := Lib.hid (HBE.out.trans (hm12.below (fun k hk => by have := HG10.out; have e := List.mem_singleton.1 hk; omega) HBE.out.size))
        have hSp := HSS.out _ HBE.out
        clear hHeld
        refine hK.out _ _ hSp (fun hHeld => ?_)
        clear hSp hK K
        try simp only [Act.put, List.setIfInBounds_toArray, List.set_cons_zero, List.set_cons_succ]
        have HN11 := Lib.hid ((hm12.block b11 (Array.getElem?_eq_some_iff.1 HN11.out).1 (fun h => by have e := List.mem_singleton.1 h; have := HNE10_11.out; omega)).trans HN11.out)
        simp only [List.setIfInBounds_toArray, List.set_cons_zero, List.set_cons_succ] at hv12
        have HN10 := Lib.hid hv12
        clear hv12 hm12
        refine wpAnyH_ready (rs := [13]) (by kernel_rfl) (by simp) ?_
        refine AllReadyH.cons rfl (fun K hK => ?_) (AllReadyH.nil)
        have hc13_0 := cellOf HN11.out 0 rfl
        have hf13_0 := frozenOf HN11.out 0
        have hc13_1 := cellOf HN11.out 1 rfl
        have hf13_1 := frozenOf HN11.out 1
        simp only [List.getElem_toArray, List.getElem_cons_zero, List.getElem_cons_succ]
        go_simp
        obtain ⟨y13, hy13⟩ : ∃ y, ((y12.setCell ⟨b11, 0, none⟩ (.int .u64 (o.vol : Int))).setCell ⟨b11, 1, none⟩ (.int .u64 (o.to : Int))) = y := ⟨_, rfl⟩
        rw [hy13]
        have hm13 : Mods [b11] y12 y13 := by rw [← hy13]; exact ((Mods.refl [b11] y12).setCell (p := ⟨b11, 0, none⟩) (by simp) _).setCell (p := ⟨b11, 1, none⟩) (by simp) _
        have hv13 := setOf (setOf (HN11.out) 0 (.int .u64 (o.vol : Int))) 1 (.int .u64 (o.to : Int))
        rw [hy13] at hv13
        clear hy13 hc13_0 hf13_0 hc13_1 hf13_1
        have HBE : Hid (Below w2.heap.size w2 y13) := Lib.hid (HBE.out.trans (hm13.below (fun k hk => by have := HG11.out; have e := List.mem_singleton.1 hk; omega) HBE.out.size))
        have hSp := HSS.out _ HBE.out
        clear hHeld
        refine hK.out _ _ hSp (fun hHeld => ?_)
        clear hSp hK K
        try simp only [Act.put, List.setIfInBounds_toArray, List.set_cons_zero, List.set_cons_succ]
        have HN10 := Lib.hid ((hm13.block b10 (Array.getElem?_eq_some_iff.1 HN10.out).1 (fun h => by have e := List.mem_singleton.1 h; have := HNE10_11.out; omega)).trans HN10.out)
        simp only [List.setIfInBounds_toArray, List.set_cons_zero, List.set_cons_succ] at hv13
        have HN11 := Lib.hid hv13
        clear hv13 hm13
        refine wpAnyH_done (by kernel_rfl) ?_ _
        have HEND := Lib.hid hHeld.2
        have HSE := Lib.hid hHeld.1
        clear hHeld
        clear HSE HSS
        go_wp2_with fail
        go_meet
        exact ⟨_, _, _, rfl, rfl, rfl, HG10.out, HG11.out, HNE10_11.out, HEND.out, HN10.out, HN11.out⟩
      · skip
        simp only [List.getElem_toArray, List.getElem_cons_zero, List.getElem_cons_succ]
        go_simp
        obtain ⟨b11, hw11⟩ : ∃ b, y10.heap.size = b := ⟨_, rfl⟩
        obtain ⟨y11, hy11⟩ : ∃ y, y10.alloc (.cells #[.int .u64 0, .int .u64 0] 72) = y := ⟨_, rfl⟩
        rw [hy11, hw11]
        have hx11 : Below y10.heap.size y10 y11 := by rw [← hy11]; exact balloc (Below.refl _ _) _
        have HN11 : Hid (y11.heap[b11]? = some (.cells #[.int .u64 0, .int .u64 0] 72 (0, 0))) := Lib.hid (by rw [← hy11, ← hw11]; exact heap_alloc_new _ _)
        have HG11 : Hid (w2.heap.size ≤ b11) := Lib.hid (by have := HBE.out.size; omega)
        have HNE10_11 : Hid (b10 ≠ b11) := Lib.hid (by have := (Array.getElem?_eq_some_iff.1 HN10.out).1; omega)
        clear hy11 hw11
        have HBE := Lib.hid (bthen HBE.out hx11)
        have hSp := HSS.out _ HBE.out
        clear hHeld
        refine hK.out _ _ hSp (fun hHeld => ?_)
        clear hSp hK K
        try simp only [Act.put, List.setIfInBounds_toArray, List.set_cons_zero, List.set_cons_succ]
        have HN10 := Lib.hid ((hx11.block b10 (Array.getElem?_eq_some_iff.1 HN10.out).1).trans HN10.out)
        clear hx11
        refine wpAnyH_ready (rs := [8]) (by kernel_rfl) (by simp) ?_
        refine AllReadyH.cons rfl (fun K hK => ?_) (AllReadyH.nil)
        simp only [List.getElem_toArray, List.getElem_cons_zero, List.getElem_cons_succ]
        go_simp
        refine (CP.out _).mono ?_
        rintro e w3 ⟨rfl, hb3⟩
        dsimp only
        have HBE := Lib.hid (bthen HBE.out hb3)
        have hSp := HSS.out _ HBE.out
        clear hHeld
        refine hK.out _ _ hSp (fun hHeld => ?_)
        clear hSp hK K
        try simp only [Act.put, List.setIfInBounds_toArray, List.set_cons_zero, List.set_cons_succ]
        have HN10 := Lib.hid ((hb3.block b10 (Array.getElem?_eq_some_iff.1 HN10.out).1).trans HN10.out)
        have HN11 := Lib.hid ((hb3.block b11 (Array.getElem?_eq_some_iff.1 HN11.out).1).trans HN11.out)
        have HC8 := Lib.hid hb3
        clear hb3
        refine wpAnyH_take (i := 9) (v := ?_) rfl (by kernel_rfl) (by kernel_rfl) (by kernel_rfl) (fun _ _ _ h => h) (Or.inl ⟨by rfl, ?_⟩) (by assumption) ?_
        rotate_left
        · (intro w hSw; (try dsimp only at hSw); simp only [List.getElem_toArray, List.getElem_cons_zero, List.getElem_cons_succ]; go_simp; first | done | with_reducible rfl)
        simp only [List.getElem_toArray, List.getElem_cons_zero, List.getElem_cons_succ, Act.put, List.setIfInBounds_toArray, List.set_cons_zero, List.set_cons_succ]
        refine wpAnyH_ready (rs := [12]) (by kernel_rfl) (by simp) ?_
        refine AllReadyH.cons rfl (fun K hK => ?_) (AllReadyH.nil)
        have hc12_0 := cellOf HN10.out 0 rfl
        have hf12_0 := frozenOf HN10.out 0
        have hc12_1 := cellOf HN10.out 1 rfl
        have hf12_1 := frozenOf HN10.out 1
        simp only [List.getElem_toArray, List.getElem_cons_zero, List.getElem_cons_succ]
        go_simp
        obtain ⟨y12, hy12⟩ : ∃ y, ((w3.setCell ⟨b10, 0, none⟩ (.int .i64 (x.1.size : Int))).setCell ⟨b10, 1, none⟩ (.map (some x.2))) = y := ⟨_, rfl⟩
        rw [hy12]
        have hm12 : Mods [b10] w3 y12 := by rw [← hy12]; exact ((Mods.refl [b10] w3).setCell (p := ⟨b10, 0, none⟩) (by simp) _).setCell (p := ⟨b10, 1, none⟩) (by simp) _
        have hv12 := setOf (setOf (HN10.out) 0 (.int .i64 (x.1.size : Int))) 1 (.map (some x.2))
        rw [hy12] at hv12
        clear hy12 hc12_0 hf12_0 hc12_1 hf12_1
        have HBE : Hid (Below w2.heap.size w2 y12) := Lib.hid (HBE.out.trans (hm12.below (fun k hk => by have := HG10.out; have e := List.mem_singleton.1 hk; omega) HBE.out.size))
        have hSp := HSS.out _ HBE.out
        clear hHeld
        refine hK.out _ _ hSp (fun hHeld => ?_)
        clear hSp hK K
        try simp only [Act.put, List.setIfInBounds_toArray, List.set_cons_zero, List.set_cons_succ]
        have HN11 := Lib.hid ((hm12.block b11 (Array.getElem?_eq_some_iff.1 HN11.out).1 (fun h => by have e := List.mem_singleton.1 h; have := HNE10_11.out; omega)).trans HN11.out)
        simp only [List.setIfInBounds_toArray, List.set_cons_zero, List.set_cons_succ] at hv12
        have HN10 := Lib.hid hv12
        clear hv12 hm12
        refine wpAnyH_ready (rs := [13]) (by kernel_rfl) (by simp) ?_
        refine AllReadyH.cons rfl (fun K hK => ?_) (AllReadyH.nil)
        have hc13_0 := cellOf HN11.out 0 rfl
        have hf13_0 := frozenOf HN11.out 0
        have hc13_1 := cellOf HN11.out 1 rfl
        have hf13_1 := frozenOf HN11.out 1
        simp only [List.getElem_toArray, List.getElem_cons_zero, List.getElem_cons_succ]
        go_simp
        obtain ⟨y13, hy13⟩ : ∃ y, ((y12.setCell ⟨b11, 0, none⟩ (.int .u64 (o.vol : Int))).setCell ⟨b11, 1, none⟩ (.int .u64 (o.to : Int))) = y := ⟨_, rfl⟩
        rw [hy13]
        have hm13 : Mods [b11] y12 y13 := by rw [← hy13]; exact ((Mods.refl [b11] y12).setCell (p := ⟨b11, 0, none⟩) (by simp) _).setCell (p := ⟨b11, 1, none⟩) (by simp) _
        have hv13 := setOf (setOf (HN11.out) 0 (.int .u64 (o.vol : Int))) 1 (.int .u64 (o.to : Int))
        rw [hy13] at hv13
        clear hy13 hc13_0 hf13_0 hc13_1 hf13_1
        have HBE : Hid (Below w2.heap.size w2 y13) := Lib.hid (HBE.out.trans (hm13.below (fun k hk => by have := HG11.out; have e := List.mem_singleton.1 hk; omega) HBE.out.size))
        have hSp := HSS.out _ HBE.out
        clear hHeld
        refine hK.out _ _ hSp (fun hHeld => ?_)
        clear hSp hK K
        try simp only [Act.put, List.setIfInBounds_toArray, List.set_cons_zero, List.set_cons_succ]
        have HN10 := Lib.hid ((hm13.block b10 (Array.getElem?_eq_some_iff.1 HN10.out).1 (fun h => by have e := List.mem_singleton.1 h; have := HNE10_11.out; omega)).trans HN10.out)
        simp only [List.setIfInBounds_toArray, List.set_cons_zero, List.set_cons_succ] at hv13
        have HN11 := Lib.hid hv13
        clear hv13 hm13
        refine wpAnyH_done (by kernel_rfl) ?_ _
        have HEND := Lib.hid hHeld.2
        have HSE := Lib.hid hHeld.1
        clear hHeld
        clear HSE HSS
        go_wp2_with fail
        go_meet
        exact ⟨_, _, _, rfl, rfl, rfl, HG10.out, HG11.out, HNE10_11.out, HEND.out, HN10.out, HN11.out⟩
    · skip
      simp only [List.getElem_toArray, List.getElem_cons_zero, List.getElem_cons_succ]
      go_simp
      obtain ⟨b11, hw11⟩ : ∃ b, wd.heap.size = b := ⟨_, rfl⟩
      obtain ⟨y11, hy11⟩ : ∃ y, wd.alloc (.cells #[.int .u64 0, .int .u64 0] 72) = y := ⟨_, rfl⟩
      rw [hy11, hw11]
      have hx11 : Below wd.heap.size wd y11 := by rw [← hy11]; exact balloc (Below.refl _ _) _
      have HN11 : Hid (y11.heap[b11]? = some (.cells #[.int .u64 0, .int .u64 0] 72 (0, 0))) := Lib.hid (by rw [← hy11, ← hw11]; exact heap_alloc_new _ _)
      have HG11 : Hid (w2.heap.size ≤ b11) := Lib.hid (by have := HBE.out.size; omega)
      clear hy11 hw11
      have HBE := Lib.hid (bthen HBE.out hx11)
      have hSp := HSS.out _ HBE.out
      clear hHeld
      refine hK.out _ _ hSp (fun hHeld => ?_)
      clear hSp hK K
      try simp only [Act.put, List.setIfInBounds_toArray, List.set_cons_zero, List.set_cons_succ]
      clear hx11
      refine wpAnyH_ready (rs := [8, 10]) (by kernel_rfl) (by simp) ?_
      refine AllReadyH.cons rfl (fun K hK => ?_) (AllReadyH.cons rfl (fun K hK => ?_) (AllReadyH.nil))
      · skip
        simp only [List.getElem_toArray, List.getElem_cons_zero, List.getElem_cons_succ]
        go_simp
        refine (CP.out _).mono ?_
        rintro e w3 ⟨rfl, hb3⟩
        dsimp only
        have HBE := Lib.hid (bthen HBE.out hb3)
        have hSp := HSS.out _ HBE.out
        clear hHeld
        refine hK.out _ _ hSp (fun hHeld => ?_)
        clear hSp hK K
        try simp only [Act.put, List.setIfInBounds_toArray, List.set_cons_zero, List.set_cons_succ]
        have HN11 := Lib.hid ((hb3.block b11 (Array.getElem?_eq_some_iff.1 HN11.out).1).trans HN11.out)
        have HC8 := Lib.hid hb3
        clear hb3
        refine wpAnyH_take (i := 9) (v := ?_) rfl (by kernel_rfl) (by kernel_rfl) (by kernel_rfl) (fun _ _ _ h => h) (Or.inl ⟨by rfl, ?_⟩) (by assumption) ?_
        rotate_left
        · (intro w hSw; (try dsimp only at hSw); simp only [List.getElem_toArray, List.getElem_cons_zero, List.getElem_cons_succ]; go_simp; first | done | with_reducible rfl)
        simp only [List.getElem_toArray, List.getElem_cons_zero, List.getElem_cons_succ, Act.put, List.setIfInBounds_toArray, List.set_cons_zero, List.set_cons_succ]
        refine wpAnyH_ready (rs := [10]) (by kernel_rfl) (by simp) ?_
        refine AllReadyH.cons rfl (fun K hK => ?_) (AllReadyH.nil)
        simp only [List.getElem_toArray, List.getElem_cons_zero, List.getElem_cons_succ]
        go_simp
        obtain ⟨b10, hw10⟩ : ∃ b, w3.heap.size = b := ⟨_, rfl⟩
        obtain ⟨y10, hy10⟩ : ∃ y, w3.alloc (.cells #[.int .i64 0, .map none] 53) = y := ⟨_, rfl⟩
        rw [hy10, hw10]
        have hx10 : Below w3.heap.size w3 y10 := by rw [← hy10]; exact balloc (Below.refl _ _) _
        have HN10 : Hid (y10.heap[b10]? = some (.cells #[.int .i64 0, .map none] 53 (0, 0))) := Lib.hid (by rw [← hy10, ← hw10]; exact heap_alloc_new _ _)
        have HG10 : Hid (w2.heap.size ≤ b10) := Lib.hid (by have := HBE.out.size; omega)
        have HNE10_11 : Hid (b10 ≠ b11) := Lib.hid (by have := (Array.getElem?_eq_some_iff.1 HN11.out).1; omega)
        clear hy10 hw10
        have HBE := Lib.hid (bthen HBE.out hx10)
        have hSp := HSS.out _ HBE.out
        clear hHeld
        refine hK.out _ _ hSp (fun hHeld => ?_)
        clear hSp hK K
        try simp only [Act.put, List.setIfInBounds_toArray, List.set_cons_zero, List.set_cons_succ]
        have HN11 := Lib.hid ((hx10.block b11 (Array.getElem?_eq_some_iff.1 HN11.out).1).trans HN11.out)
        clear hx10
        refine wpAnyH_ready (rs := [12]) (by kernel_rfl) (by simp) ?_
        refine AllReadyH.cons rfl (fun K hK => ?_) (AllReadyH.nil)
        have hc12_0 := cellOf HN10.out 0 rfl
        have hf12_0 := frozenOf HN10.out 0
        have hc12_1 := cellOf HN10.out 1 rfl
        have hf12_1 := frozenOf HN10.out 1
        simp only [List.getElem_toArray, List.getElem_cons_zero, List.getElem_cons_succ]
        go_simp
        obtain ⟨y12, hy12⟩ : ∃ y, ((y10.setCell ⟨b10, 0, none⟩ (.int .i64 (x.1.size : Int))).setCell ⟨b10, 1, none⟩ (.map (some x.2))) = y := ⟨_, rfl⟩
        rw [hy12]
        have hm12 : Mods [b10] y10 y12 := by rw [← hy12]; exact ((Mods.refl [b10] y10).setCell (p := ⟨b10, 0, none⟩) (by simp) _).setCell (p := ⟨b10, 1, none⟩) (by simp) _
        have hv12 := setOf (setOf (HN10.out) 0 (.int .i64 (x.1.size : Int))) 1 (.map (some x.2))
        rw [hy12] at hv12
        clear hy12 hc12_0 hf12_0 hc12_1 hf12_1
        have HBE : Hid (Below w2.heap.size w2 y12) := Lib.hid (HBE.out.trans (hm12.below (fun k hk => by have := HG10.out; have e := List.mem_singleton.1 hk; omega) HBE.out.size))
        have hSp := HSS.out _ HBE.out
        clear hHeld
        refine hK.out _ _ hSp (fun hHeld => ?_)
        clear hSp hK K
        try simp only [Act.put, List.setIfInBounds_toArray, List.set_cons_zero, List.set_cons_succ]
        have HN11 := Lib.hid ((hm12.block b11 (Array.getElem?_eq_some_iff.1 HN11.out).1 (fun h => by have e := List.mem_singleton.1 h; have := HNE10_11.out; omega)).trans HN11.out)
        simp only [List.setIfInBounds_toArray, List.set_cons_zero, List.set_cons_succ] at hv12
        have HN10 := Lib.hid hv12
        clear hv12 hm12
        refine wpAnyH_ready (rs := [13]) (by kernel_rfl) (by simp) ?_
        refine AllReadyH.cons rfl (fun K hK => ?_) (AllReadyH.nil)
        have hc13_0 := cellOf HN11.out 0 rfl
        have hf13_0 := frozenOf HN11.out 0
        have hc13_1 := cellOf HN11.out 1 rfl
        have hf13_1 := frozenOf HN11.out 1
        simp only [List.getElem_toArray, List.getElem_cons_zero, List.getElem_cons_succ]
        go_simp
        obtain ⟨y13, hy13⟩ : ∃ y, ((y12.setCell ⟨b11, 0, none⟩ (.int .u64 (o.vol : Int))).setCell ⟨b11, 1, none⟩ (.int .u64 (o.to : Int))) = y := ⟨_, rfl⟩
        rw [hy13]
        have hm13 : Mods [b11] y12 y13 := by rw [← hy13]; exact ((Mods.refl [b11] y12).setCell (p := ⟨b11, 0, none⟩) (by simp) _).setCell (p := ⟨b11, 1, none⟩) (by simp) _
        have hv13 := setOf (setOf (HN11.out) 0 (.int .u64 (o.vol : Int))) 1 (.int .u64 (o.to : Int))
        rw [hy13] at hv13
        clear hy13 hc13_0 hf13_0 hc13_1 hf13_1
        have HBE : Hid (Below w2.heap.size w2 y13) := Lib.hid (HBE.out.trans (hm13.below (fun k hk => by have := HG11.out; have e := List.mem_singleton.1 hk; omega) HBE.out.size))
        have hSp := HSS.out _ HBE.out
        clear hHeld
        refine hK.out _ _ hSp (fun hHeld => ?_)
        clear hSp hK K
        try simp only [Act.put, List.setIfInBounds_toArray, List.set_cons_zero, List.set_cons_succ]
        have HN10 := Lib.hid ((hm13.block b10 (Array.getElem?_eq_some_iff.1 HN10.out).1 (fun h => by have e := List.mem_singleton.1 h; have := HNE10_11.out; omega)).trans HN10.out)
        simp only [List.setIfInBounds_toArray, List.set_cons_zero, List.set_cons_succ] at hv13
        have HN11 := Lib.hid hv13
        clear hv13 hm13
        refine wpAnyH_done (by kernel_rfl) ?_ _
        have HEND := Lib.hid hHeld.2
        have HSE := Lib.hid hHeld.1
        clear hHeld
        clear HSE HSS
        go_wp2_with fail
        go_meet
        exact ⟨_, _, _, rfl, rfl, rfl, HG10.out, HG11.out, HNE10_11.out, HEND.out, HN10.out, HN11.out⟩
      · skip
        simp only [List.getElem_toArray, List.getElem_cons_zero, List.getElem_cons_succ]
        go_simp
        obtain ⟨b10, hw10⟩ : ∃ b, y11.heap.size = b := ⟨_, rfl⟩
        obtain ⟨y10, hy10⟩ : ∃ y, y11.alloc (.cells #[.int .i64 0, .map none] 53) = y := ⟨_, rfl⟩
        rw [hy10, hw10]
        have hx10 : Below y11.heap.size y11 y10 := by rw [← hy10]; exact balloc (Below.refl _ _) _
        have HN10 : Hid (y10.heap[b10]? = some (.cells #[.int .i64 0, .map none] 53 (0, 0))) := Lib.hid (by rw [← hy10, ← hw10]; exact heap_alloc_new _ _)
        have HG10 : Hid (w2.heap.size ≤ b10) := Lib.hid (by have := HBE.out.size; omega)
        have HNE10_11 : Hid (b10 ≠ b11) := Lib.hid (by have := (Array.getElem?_eq_some_iff.1 HN11.out).1; omega)
        clear hy10 hw10
        have HBE := Lib.hid (bthen HBE.out hx10)
        have hSp := HSS.out _ HBE.out
        clear hHeld
        refine hK.out _ _ hSp (fun hHeld => ?_)
        clear hSp hK K
        try simp only [Act.put, List.setIfInBounds_toArray, List.set_cons_zero, List.set_cons_succ]
        have HN11 := Lib.hid ((hx10.block b11 (Array.getElem?_eq_some_iff.1 HN11.out).1).trans HN11.out)
        clear hx10
        refine wpAnyH_ready (rs := [8]) (by kernel_rfl) (by simp) ?_
        refine AllReadyH.cons rfl (fun K hK => ?_) (AllReadyH.nil)
        simp only [List.getElem_toArray, List.getElem_cons_zero, List.getElem_cons_succ]
        go_simp
        refine (CP.out _).mono ?_
        rintro e w3 ⟨rfl, hb3⟩
        dsimp only
        have HBE := Lib.hid (bthen HBE.out hb3)
        have hSp := HSS.out _ HBE.out
        clear hHeld
        refine hK.out _ _ hSp (fun hHeld => ?_)
        clear hSp hK K
        try simp only [Act.put, List.setIfInBounds_toArray, List.set_cons_zero, List.set_cons_succ]
        have HN11 := Lib.hid ((hb3.block b11 (Array.getElem?_eq_some_iff.1 HN11.out).1).trans HN11.out)
        have HN10 := Lib.hid ((hb3.block b10 (Array.getElem?_eq_some_iff.1 HN10.out).1).trans HN10.out)
        have HC8 := Lib.hid hb3
        clear hb3
        refine wpAnyH_take (i := 9) (v := ?_) rfl (by kernel_rfl) (by kernel_rfl) (by kernel_rfl) (fun _ _ _ h => h) (Or.inl ⟨by rfl, ?_⟩) (by assumption) ?_
        rotate_left
        · (intro w hSw; (try dsimp only at hSw); simp only [List.getElem_toArray, List.getElem_cons_zero, List.getElem_cons_succ]; go_simp; first | done | with_reducible rfl)
        simp only [List.getElem_toArray, List.getElem_cons_zero, List.getElem_cons_succ, Act.put, List.setIfInBounds_toArray, List.set_cons_zero, List.set_cons_succ]
        refine wpAnyH_ready (rs := [12]) (by kernel_rfl) (by simp) ?_
        refine AllReadyH.cons rfl (fun K hK => ?_) (AllReadyH.nil)
        have hc12_0 := cellOf HN10.out 0 rfl
        have hf12_0 := frozenOf HN10.out 0
        have hc12_1 := cellOf HN10.out 1 rfl
        have hf12_1 := frozenOf HN10.out 1
        simp only [List.getElem_toArray, List.getElem_cons_zero, List.getElem_cons_succ]
        go_simp
        obtain ⟨y12, hy12⟩ : ∃ y, ((w3.setCell ⟨b10, 0, none⟩ (.int .i64 (x.1.size : Int))).setCell ⟨b10, 1, none⟩ (.map (some x.2))) = y := ⟨_, rfl⟩
        rw [hy12]
        have hm12 : Mods [b10] w3 y12 := by rw [← hy12]; exact ((Mods.refl [b10] w3).setCell (p := ⟨b10, 0, none⟩) (by simp) _).setCell (p := ⟨b10, 1, none⟩) (by simp) _
        have hv12 := setOf (setOf (HN10.out) 0 (.int .i64 (x.1.size : Int))) 1 (.map (some x.2))
        rw [hy12] at hv12
        clear hy12 hc12_0 hf12_0 hc12_1 hf12_1
        have HBE : Hid (Below w2.heap.size w2 y12) := Lib.hid (HBE.out.trans (hm12.below (fun k hk => by have := HG10.out; have e := List.mem_singleton.1 hk; omega) HBE.out.size))
        have hSp := HSS.out _ HBE.out
        clear hHeld
        refine hK.out _ _ hSp (fun hHeld => ?_)
        clear hSp hK K
        try simp only [Act.put, List.setIfInBounds_toArray, List.set_cons_zero, List.set_cons_succ]
        have HN11 := Lib.hid ((hm12.block b11 (Array.getElem?_eq_some_iff.1 HN11.out).1 (fun h => by have e := List.mem_singleton.1 h; have := HNE10_11.out; omega)).trans HN11.out)
        simp only [List.setIfInBounds_toArray, List.set_cons_zero, List.set_cons_succ] at hv12
        have HN10 := Lib.hid hv12
        clear hv12 hm12
        refine wpAnyH_ready (rs := [13]) (by kernel_rfl) (by simp) ?_
        refine AllReadyH.cons rfl (fun K hK => ?_) (AllReadyH.nil)
        have hc13_0 := cellOf HN11.out 0 rfl
        have hf13_0 := frozenOf HN11.out 0
        have hc13_1 := cellOf HN11.out 1 rfl
        have hf13_1 := frozenOf HN11.out 1
        simp only [List.getElem_toArray, List.getElem_cons_zero, List.getElem_cons_succ]
        go_simp
        obtain ⟨y13, hy13⟩ : ∃ y, ((y12.setCell ⟨b11, 0, none⟩ (.int .u64 (o.vol : Int))).setCell ⟨b11, 1, none⟩ (.int .u64 (o.to : Int))) = y := ⟨_, rfl⟩
        rw [hy13]
        have hm13 : Mods [b11] y12 y13 := by rw [← hy13]; exact ((Mods.refl [b11] y12).setCell (p := ⟨b11, 0, none⟩) (by simp) _).setCell (p := ⟨b11, 1, none⟩) (by simp) _
        have hv13 := setOf (setOf (HN11.out) 0 (.int .u64 (o.vol : Int))) 1 (.int .u64 (o.to : Int))
        rw [hy13] at hv13
        clear hy13 hc13_0 hf13_0 hc13_1 hf13_1
        have HBE : Hid (Below w2.heap.size w2 y13) := Lib.hid (HBE.out.trans (hm13.below (fun k hk => by have := HG11.out; have e := List.mem_singleton.1 hk; omega) HBE.out.size))
        have hSp := HSS.out _ HBE.out
        clear hHeld
        refine hK.out _ _ hSp (fun hHeld => ?_)
        clear hSp hK K
        try simp only [Act.put, List.setIfInBounds_toArray, List.set_cons_zero, List.set_cons_succ]
        have HN10 := Lib.hid ((hm13.block b10 (Array.getElem?_eq_some_iff.1 HN10.out).1 (fun h => by have e := List.mem_singleton.1 h; have := HNE10_11.out; omega)).trans HN10.out)
        simp only [List.setIfInBounds_toArray, List.set_cons_zero, List.set_cons_succ] at hv13
        have HN11 := Lib.hid hv13
        clear hv13 hm13
        refine wpAnyH_done (by kernel_rfl) ?_ _
        have HEND := Lib.hid hHeld.2
        have HSE := Lib.hid hHeld.1
        clear hHeld
        clear HSE HSS
        go_wp2_with fail
        go_meet
        exact ⟨_, _, _, rfl, rfl, rfl, HG10.out, HG11.out, HNE10_11.out, HEND.out, HN10.out, HN11.out⟩
  case rest =>
    obtain ⟨W, b7, b8, rfl, rfl, rfl, hg7, hg8, hne, hbw, hn7, hn8⟩ := hcut
    have HBW := Lib.hid hbw
    have HN7 := Lib.hid hn7
    have HN8 := Lib.hid hn8
    have HDW := Lib.hid (HD2.out.below hbw)
    have HG7 := Lib.hid hg7
    have HG8 := Lib.hid hg8
    have HML := Lib.hid (HDW.out.vol _ (getA_some HG.out))
    have HA2 := Lib.hid ((hbw.block _ (Array.getElem?_eq_some_iff.1 HBX.out.ans).1).trans HBX.out.ans)
    have HSW := Lib.hid HBX.out.sz
    have HNF : Hid (∀ i, w.heap.size ≤ i → i ∉ [Ba]) := Lib.hid (fun i hi hh => by
      have h1 : i = Ba := by simpa using hh
      have := HH.out.all.lt
      omega)
    clear hbw hn7 hn8 hg7 hg8 hne HLK HX2 HLT t1
    go_wp2_with fail
    have HSS : Hid (∀ X, Mods [Ba] W X → (X.cell? ⟨B, 0, none⟩ = some (.map (some Ba)) ∧ X.cell? ⟨b8, 1, none⟩ = some (.int .u64 (o.to : Int)) ∧ X.cell? ⟨b7, 0, none⟩ = some (.int .i64 (x.1.size : Int)) ∧ X.cell? ⟨b7, 1, none⟩ = some (.map (some x.2))) ∧ Mods [Ba] W X) := Lib.hid (fun X hb => ⟨⟨(World.cell?_of_block (hb.block _ (HDW.out.lt) (by simpa using HDW.out.B_ne))).trans (HDW.out.cell), (World.cell?_of_block (hb.block _ ((Array.getElem?_eq_some_iff.1 HN8.out).1) (HNF.out _ (by have := HG8.out; have := HSW.out; show w.heap.size ≤ b8; omega)))).trans (cellOf HN8.out 1 rfl), (World.cell?_of_block (hb.block _ ((Array.getElem?_eq_some_iff.1 HN7.out).1) (HNF.out _ (by have := HG7.out; have := HSW.out; show w.heap.size ≤ b7; omega)))).trans (cellOf HN7.out 0 rfl), (World.cell?_of_block (hb.block _ ((Array.getElem?_eq_some_iff.1 HN7.out).1) (HNF.out _ (by have := HG7.out; have := HSW.out; show w.heap.size ≤ b7; omega)))).trans (cellOf HN7.out 1 rfl)⟩, hb⟩)
    refine wp_region_held_drew (S := fun X => (X.cell? ⟨B, 0, none⟩ = some (.map (some Ba)) ∧ X.cell? ⟨b8, 1, none⟩ = some (.int .u64 (o.to : Int)) ∧ X.cell? ⟨b7, 0, none⟩ = some (.int .i64 (x.1.size : Int)) ∧ X.cell? ⟨b7, 1, none⟩ = some (.map (some x.2))) ∧ Mods [Ba] W X) (by kernel_rfl) (HSS.out _ (Mods.of_below (Below.refl _ _).drew)) (fun hHeld => ?_)
    have hbe : Below W.heap.size W W.drew := (Below.refl _ _).drew
    obtain ⟨wd, hwd⟩ : ∃ y, W.drew = y := ⟨_, rfl⟩
    rw [hwd] at hHeld hbe ⊢
    have HBE := Lib.hid hbe
    have HS0 : Hid (W.heap.size ≤ wd.heap.size) := Lib.hid HBE.out.size
    clear hwd hbe
    refine wpAnyH_take (i := 0) (v := ?_) rfl (by kernel_rfl) (by kernel_rfl) (by kernel_rfl) (fun _ _ _ h => h) (Or.inl ⟨by rfl, ?_⟩) (by assumption) ?_
    rotate_left
    · (intro w hSw; (try dsimp only at hSw); simp only [List.getElem_toArray, List.getElem_cons_zero, List.getElem_cons_succ]; go_simp; first | done | with_reducible rfl)
    simp only [List.getElem_toArray, List.getElem_cons_zero, List.getElem_cons_succ, Act.put, List.setIfInBounds_toArray, List.set_cons_zero, List.set_cons_succ]
    refine wpAnyH_take (i := 4) (v := ?_) rfl (by kernel_rfl) (by kernel_rfl) (by kernel_rfl) (fun _ _ _ h => h) (Or.inl ⟨by rfl, ?_⟩) (by assumption) ?_
    rotate_left
    · (intro w hSw; (try dsimp only at hSw); simp only [List.getElem_toArray, List.getElem_cons_zero, List.getElem_cons_succ]; go_simp; first | done | with_reducible rfl)
    simp only [List.getElem_toArray, List.getElem_cons_zero, List.getElem_cons_succ, Act.put, List.setIfInBounds_toArray, List.set_cons_zero, List.set_cons_succ]
    refine wpAnyH_take (i := 6) (v := ?_) rfl (by kernel_rfl) (by kernel_rfl) (by kernel_rfl) (fun _ _ _ h => h) (Or.inl ⟨by rfl, ?_⟩) (by assumption) ?_
    rotate_left
    · (intro w hSw; (try dsimp only at hSw); simp only [List.getElem_toArray, List.getElem_cons_zero, List.getElem_cons_succ]; go_simp; first | done | with_reducible rfl)
    simp only [List.getElem_toArray, List.getElem_cons_zero, List.getElem_cons_succ, Act.put, List.setIfInBounds_toArray, List.set_cons_zero, List.set_cons_succ]
    refine wpAnyH_take (i := 8) (v := ?_) rfl (by kernel_rfl) (by kernel_rfl) (by kernel_rfl) (fun _ _ _ h => h) (Or.inl ⟨by rfl, ?_⟩) (by assumption) ?_
    rotate_left
    · (intro w hSw; (try dsimp only at hSw); simp only [List.getElem_toArray, List.getElem_cons_zero, List.getElem_cons_succ]; go_simp; first | done | with_reducible rfl)
    simp only [List.getElem_toArray, List.getElem_cons_zero, List.getElem_cons_succ, Act.put, List.setIfInBounds_toArray, List.set_cons_zero, List.set_cons_succ]
    refine wpAnyH_take (i := 1) (v := ?_) rfl (by kernel_rfl) (by kernel_rfl) (by kernel_rfl) (fun _ _ _ h => h) (Or.inl ⟨by rfl, ?_⟩) (by assumption) ?_
    rotate_left
    · (intro w hSw; (try dsimp only at hSw); simp only [List.getElem_toArray, List.getElem_cons_zero, List.getElem_cons_succ]; go_simp; first | done | with_reducible rfl)
    simp only [List.getElem_toArray, List.getElem_cons_zero, List.getElem_cons_succ, Act.put, List.setIfInBounds_toArray, List.set_cons_zero, List.set_cons_succ]
    refine wpAnyH_take (i := 5) (v := ?_) rfl (by kernel_rfl) (by kernel_rfl) (by kernel_rfl) (fun _ _ _ h => h) (Or.inl ⟨by rfl, ?_⟩) (by assumption) ?_
    rotate_left
    · (intro w hSw; (try dsimp only at hSw); simp only [List.getElem_toArray, List.getElem_cons_zero, List.getElem_cons_succ]; go_simp; first | done | with_reducible rfl)
    simp only [List.getElem_toArray, List.getElem_cons_zero, List.getElem_cons_succ, Act.put, List.setIfInBounds_toArray, List.set_cons_zero, List.set_cons_succ]
    refine wpAnyH_take (i := 7) (v := ?_) rfl (by kernel_rfl) (by kernel_rfl) (by kernel_rfl) (fun _ _ _ h => h) (Or.inl ⟨by rfl, ?_⟩) (by assumption) ?_
    rotate_left
    · (intro w hSw; (try dsimp only at hSw); simp only [List.getElem_toArray, List.getElem_cons_zero, List.getElem_cons_succ]; go_simp; first | done | with_reducible rfl)
    simp only [List.getElem_toArray, List.getElem_cons_zero, List.getElem_cons_succ, Act.put, List.setIfInBounds_toArray, List.set_cons_zero, List.set_cons_succ]
    refine wpAnyH_take (i := 9) (v := ?_) rfl (by kernel_rfl) (by kernel_rfl) (by kernel_rfl) (fun _ _ _ h => h) (Or.inl ⟨by rfl, ?_⟩) (by assumption) ?_
    rotate_left
    · (intro w hSw; (try dsimp only at hSw); simp only [List.getElem_toArray, List.getElem_cons_zero, List.getElem_cons_succ]; go_simp; first | done | with_reducible rfl)
    simp only [List.getElem_toArray, List.getElem_cons_zero, List.getElem_cons_succ, Act.put, List.setIfInBounds_toArray, List.set_cons_zero, List.set_cons_succ]
    refine wpAnyH_take (i := 2) (v := ?_) rfl (by kernel_rfl) (by kernel_rfl) (by kernel_rfl) (fun _ _ _ h => h) (Or.inl ⟨by rfl, ?_⟩) (by assumption) ?_
    rotate_left
    · (intro w hSw; (try dsimp only at hSw); simp only [List.getElem_toArray, List.getElem_cons_zero, List.getElem_cons_succ]; go_simp; first | done | with_reducible rfl)
    simp only [List.getElem_toArray, List.getElem_cons_zero, List.getElem_cons_succ, Act.put, List.setIfInBounds_toArray, List.set_cons_zero, List.set_cons_succ]
    refine wpAnyH_take (i := 3) (v := ?_) rfl (by kernel_rfl) (by kernel_rfl) (by kernel_rfl) (fun _ _ _ h => h) (Or.inl ⟨by rfl, ?_⟩) (by assumption) ?_
    rotate_left
    · (intro w hSw; (try dsimp only at hSw); simp only [List.getElem_toArray, List.getElem_cons_zero, List.getElem_cons_succ]; go_simp; first | done | with_reducible rfl)
    simp only [List.getElem_toArray, List.getElem_cons_zero, List.getElem_cons_succ, Act.put, List.setIfInBounds_toArray, List.set_cons_zero, List.set_cons_succ]
    refine wpAnyH_ready (rs := [10]) (by kernel_rfl) (by simp) ?_
    refine AllReadyH.cons rfl (fun K hK => ?_) (AllReadyH.nil)
    simp only [List.getElem_toArray, List.getElem_cons_zero, List.getElem_cons_succ]
    go_simp
    refine (clone_blk _ x.2 x.1.m (HML.out.below HBE.out)).mono ?_
    rintro e w3 ⟨rfl, hm3, hb3⟩
    dsimp only
    have HBE := Lib.hid (bthen HBE.out hb3)
    have hSp := HSS.out _ (Mods.of_below HBE.out)
    clear hHeld
    refine hK.out _ _ hSp (fun hHeld => ?_)
    clear hSp hK K
    try simp only [Act.put, List.setIfInBounds_toArray, List.set_cons_zero, List.set_cons_succ]
    have HC10 := Lib.hid hb3
    clear hb3
    refine wpAnyH_take (i := 11) (v := ?_) rfl (by kernel_rfl) (by kernel_rfl) (by kernel_rfl) (fun _ _ _ h => h) (Or.inl ⟨by rfl, ?_⟩) (by assumption) ?_
    rotate_left
    · (intro w hSw; (try dsimp only at hSw); simp only [List.getElem_toArray, List.getElem_cons_zero, List.getElem_cons_succ]; go_simp; first | done | with_reducible rfl)
    simp only [List.getElem_toArray, List.getElem_cons_zero, List.getElem_cons_succ, Act.put, List.setIfInBounds_toArray, List.set_cons_zero, List.set_cons_succ]
    refine wpAnyH_ready (rs := [12]) (by kernel_rfl) (by simp) ?_
    refine AllReadyH.cons rfl (fun K hK => ?_) (AllReadyH.nil)
    have HWD := HS0
    obtain ⟨w4, hup, hml, hmod⟩ := (HDW.out.below HBE.out).all.put undU64 undAll HH.out.short (wfU (Nat.lt_trans HTO.out.2 (by decide))) (a := (x.1, wd.heap.size)) (RVol_mk (x.1.size : Int) (some wd.heap.size))
    simp only [List.getElem_toArray, List.getElem_cons_zero, List.getElem_cons_succ]
    go_simp
    refine hK.out _ _ ?_ (fun hHeld => ?_)
    · exact HSS.out _ ((Mods.of_below HBE.out).trans hmod (fun i hi => .inl hi))
    clear hK K
    try simp only [Act.put, List.setIfInBounds_toArray, List.set_cons_zero, List.set_cons_succ]
    have HD4 : Hid (DevAt n0 w4 B Ba (putA o.to (x.1, wd.heap.size) l)) := Lib.hid ((HDW.out.below HBE.out).putAt hml (hm3.mods hmod (by have := HWD.out; have := HDW.out.all.lt; simp; omega)) hmod HTO.out HVOK.out (by have := HWD.out; have := HDW.out.lt; have := HDW.out.ge.1; omega) (by have := HWD.out; have := HDW.out.all.lt; omega) (fun p hp e => absurd e (by have := HWD.out; have := (HDW.out.vol p hp).lt; omega)))
    clear hml hmod hup
    refine wpAnyH_done (by kernel_rfl) ?_ _
    have HEND := Lib.hid hHeld.2
    have HSE := Lib.hid hHeld.1
    clear hHeld
    have HMZ := Lib.hid HEND.out
    clear HEND HSE HSS HBE
    have hxa := (HMZ.out.block (w.heap.size + 1) (by have := HSW.out; have := HBW.out.size; omega) (HNF.out _ (Nat.le_succ _))).trans HA2.out
    have HXA := Lib.hid hxa
    have e0 := cellOf hxa 0 (v := .int .i64 0) rfl
    have e1 := cellOf hxa 1 (v := .int .i64 0) rfl
    have e2 := cellOf hxa 2 (v := .slice none 0 0) rfl
    have f0 := frozenOf hxa 0
    have f1 := frozenOf hxa 1
    have f2 := frozenOf hxa 2
    clear hxa
    go_wp2_with fail
    obtain ⟨hx4, hm4⟩ := set3 (x := .int .i64 0) (y := .int .i64 0) (z := .slice none 0 0) HXA.out
    refine bodyPost_ret (v := ansE 0 0) (resAns rfl _ _ _ _ _ _ rfl hx4) rfl ⟨rfl, wd.heap.size, HD4.out.kept hm4 (fun hh => ?_) (fun k hk hh => ?_), ?_, ?_⟩
    · have : B = w.heap.size + 1 := by simpa using hh
      have := HH.out.lt
      omega
    · have e : k = w.heap.size + 1 := by simpa using hh
      subst e
      rcases List.mem_cons.1 hk with e2 | hk2
      · have := HH.out.all.lt
        omega
      · obtain ⟨p, hp, he⟩ := List.mem_map.1 hk2
        rcases mem_putA hp with rfl | hp
        · have he2 : wd.heap.size = w.heap.size + 1 := he
          have := HWD.out
          have := HSW.out
          have := HBW.out.size
          omega
        · have := (HH.out.vol p hp).lt
          omega
    · exact ((Mods.of_below (bthen HBX.out.bel HBW.out)).trans HMZ.out (fun i hi => .inl hi)).trans hm4 (fun i hi => .inr (by
        have : i = w.heap.size + 1 := by simpa using hi
        omega))
    · have := HWD.out
      have := HSW.out
      have := HBW.out.size
      omega
end Go.Proofs.Ythkmihedkddnmaa
