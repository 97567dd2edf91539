/- Devices: discard, walked. (Its head is printed by mkdev12.py.) -/
import Derived.Test.YthkmihedkddnmaaDev11
namespace Go.Proofs.Ythkmihedkddnmaa
open Go.RowKit Go.Maps Wire Cmd
set_option linter.unusedVariables false
set_option linter.unusedSimpArgs false

theorem dropA_none {α : Type} (f : Int) (m : List (Nat × α)) : dropA f f m = m := by
  unfold dropA
  rw [List.filter_eq_self]
  intro p _
  simp only [Bool.or_eq_true, decide_eq_true_eq]
  omega
theorem dropA_del {α : Type} (f : Int) (k : Nat) (hk : f ≤ (k : Int)) (m : List (Nat × α)) : delA k (dropA f (k : Int) m) = dropA f ((k : Int) + 1) m := by
  unfold dropA delA
  rw [List.filter_filter]
  refine List.filter_congr fun p _ => ?_
  rw [Bool.eq_iff_iff]
  simp only [Bool.and_eq_true, Bool.not_eq_true', beq_eq_false_iff_ne, Bool.or_eq_true, decide_eq_true_eq]
  omega
theorem wfI64 {n : Nat} (h : n < 9223372036854775808) : (Lit.int .i64 (n : Int)).wf = true := by
  have e1 : IntKind.i64.min = -9223372036854775808 := rfl
  have e2 : IntKind.i64.max = 9223372036854775807 := rfl
  simp [Lit.wf, e1, e2]
  omega
theorem undInt : Try.prog.underlying 3 = some (.int .i64) := Try.underlying3

set_option maxRecDepth 100000 in
set_option maxHeartbeats 3200000 in
theorem ddiscard_at (n0 : Nat) (w : World) (B Ba : Nat) (l : List (Nat × (Vl × Nat))) (h : DevAt n0 w B Ba l) (o : Op0) (ao : Option Addr) (cap : Nat) (b : Int) (hn : o.data.length ≤ 9223372036854775807) (hmay : mayO o = true) (hk : o.k = 7) (x : Vl × Nat) (hg : getA o.vol l = some x) :
    Calls Try.prog 28 #[.pointer (some ⟨B, 0, none⟩), .agg (oC o (.slice ao o.data.length cap)), .int .i64 b] w fun e w' => e = .returned (ansE 0 0) ∧ DevAt n0 w' B Ba (putA o.vol (⟨x.1.size, dropA o.pl (o.pl + o.count) x.1.m⟩, x.2) l) ∧ Mods [x.2] w w' := by
  have HH := Lib.hid h
  have HG := Lib.hid hg
  have HVOL := Lib.hid (may_vol hmay (by omega))
  have hpl := may_pl hmay (by omega)
  have hct := may_count hmay (by omega)
  have HPL := Lib.hid hpl
  have HCT := Lib.hid hct
  have HPV : Hid (partV o = .iface 75 (.agg #[.int .i64 o.pl, .int .i64 o.count])) := Lib.hid (by unfold partV; rw [if_neg (by omega), if_neg (by omega), if_neg (by omega), if_neg (by omega), if_pos hk])
  obtain ⟨sl, hsl⟩ : ∃ s, Value.slice ao o.data.length cap = s := ⟨_, rfl⟩
  have CP : Hid (∀ X, Calls Try.prog 34 #[.agg (oC o sl)] X fun e w' => e = .returned (.iface 75 (.agg #[.int .i64 o.pl, .int .i64 o.count])) ∧ Below X.heap.size X w') := Lib.hid (fun X => by rw [← hsl, ← HPV.out]; exact part13_any o ao cap X hn)
  rw [hsl]
  clear hsl hpl hct h hk hmay hn hg
  obtain ⟨w2, hw2⟩ : ∃ W, (w.alloc (.cells #[.int .i64 o.k, .int .u64 (o.vol : Int), .int .u64 (o.to : Int), .int .i64 o.size, .int .i64 o.pl, .int .i64 o.count, sl] 27)).alloc (.cells #[.int .i64 0, .int .i64 0, .slice none 0 0] 35) = W := ⟨_, rfl⟩
  have HBX : Hid (Boxes w w2 (oC o sl)) := Lib.hid (by rw [← hw2]; exact boxes w (oC o sl))
  have HD2 := Lib.hid (HH.out.below HBX.out.bel)
  have HX2 := Lib.hid HBX.out.op
  have HLT := Lib.hid (Array.getElem?_eq_some_iff.1 HX2.out).1
  have HLK : Hid (∀ X, Below w2.heap.size w2 X → (Instr.lookup 47 (.map (some Ba)) (.int .u64 (o.vol : Int)) false).run Try.prog X = .ok (.agg #[.int .i64 (x.1.size : Int), .map (some x.2)]) X) := Lib.hid (fun X hX => ((HD2.out.below hX).look (Nat.lt_trans HVOL.out.2 (by decide)) HG.out).2)
  rw [show (oC o sl) = #[.int .i64 o.k, .int .u64 (o.vol : Int), .int .u64 (o.to : Int), .int .i64 o.size, .int .i64 o.pl, .int .i64 o.count, sl] from rfl]
  have t1 := is_space
  go_enter Try.func28, Try.ntmps28
  go_upto_region 1 with fail
  (try rw [hw2])
  clear hw2
  go_cut [7, 8] (fun p q wx => ∃ W b7 b8, W = wx ∧ p = .pointer (some ⟨b7, 0, none⟩) ∧ q = .pointer (some ⟨b8, 0, none⟩) ∧ w2.heap.size ≤ b7 ∧ w2.heap.size ≤ b8 ∧ b7 ≠ b8 ∧ Below w2.heap.size w2 W ∧ W.heap[b7]? = some (.cells #[.int .i64 (x.1.size : Int), .map (some x.2)] 53 (0, 0)) ∧ W.heap[b8]? = some (.cells #[.int .i64 o.pl, .int .i64 o.count] 75 (0, 0)))
  case first =>
    have HSS : Hid (∀ X, Below w2.heap.size w2 X → (X.cell? ⟨B, 0, none⟩ = some (.map (some Ba)) ∧ X.cell? ⟨w.heap.size, 0, none⟩ = some (.int .i64 o.k) ∧ X.cell? ⟨w.heap.size, 1, none⟩ = some (.int .u64 (o.vol : Int)) ∧ X.cell? ⟨w.heap.size, 2, none⟩ = some (.int .u64 (o.to : Int)) ∧ X.cell? ⟨w.heap.size, 3, none⟩ = some (.int .i64 o.size) ∧ X.cell? ⟨w.heap.size, 4, none⟩ = some (.int .i64 o.pl) ∧ X.cell? ⟨w.heap.size, 5, none⟩ = some (.int .i64 o.count) ∧ X.cell? ⟨w.heap.size, 6, none⟩ = some (sl)) ∧ Below w2.heap.size w2 X) := Lib.hid (fun X hb => ⟨⟨(World.cell?_of_block (hb.block _ (HD2.out.lt))).trans (HD2.out.cell), (World.cell?_of_block (hb.block _ (HLT.out))).trans (cellOf HX2.out 0 rfl), (World.cell?_of_block (hb.block _ (HLT.out))).trans (cellOf HX2.out 1 rfl), (World.cell?_of_block (hb.block _ (HLT.out))).trans (cellOf HX2.out 2 rfl), (World.cell?_of_block (hb.block _ (HLT.out))).trans (cellOf HX2.out 3 rfl), (World.cell?_of_block (hb.block _ (HLT.out))).trans (cellOf HX2.out 4 rfl), (World.cell?_of_block (hb.block _ (HLT.out))).trans (cellOf HX2.out 5 rfl), (World.cell?_of_block (hb.block _ (HLT.out))).trans (cellOf HX2.out 6 rfl)⟩, hb⟩)
    refine wp_region_held_drew (S := fun X => (X.cell? ⟨B, 0, none⟩ = some (.map (some Ba)) ∧ X.cell? ⟨w.heap.size, 0, none⟩ = some (.int .i64 o.k) ∧ X.cell? ⟨w.heap.size, 1, none⟩ = some (.int .u64 (o.vol : Int)) ∧ X.cell? ⟨w.heap.size, 2, none⟩ = some (.int .u64 (o.to : Int)) ∧ X.cell? ⟨w.heap.size, 3, none⟩ = some (.int .i64 o.size) ∧ X.cell? ⟨w.heap.size, 4, none⟩ = some (.int .i64 o.pl) ∧ X.cell? ⟨w.heap.size, 5, none⟩ = some (.int .i64 o.count) ∧ X.cell? ⟨w.heap.size, 6, none⟩ = some (sl)) ∧ Below w2.heap.size w2 X) (by kernel_rfl) (HSS.out _ (Below.refl _ _).drew) (fun hHeld => ?_)
    have hbe : Below w2.heap.size w2 w2.drew := (Below.refl _ _).drew
    obtain ⟨wd, hwd⟩ : ∃ y, w2.drew = y := ⟨_, rfl⟩
    rw [hwd] at hHeld hbe ⊢
    have HBE := Lib.hid hbe
    have HS0 : Hid (w2.heap.size ≤ wd.heap.size) := Lib.hid HBE.out.size
    clear hwd hbe
    refine wpAnyH_take (i := 0) (v := ?_) rfl (by kernel_rfl) (by kernel_rfl) (by kernel_rfl) (fun _ _ _ h => h) (Or.inl ⟨by rfl, ?_⟩) (by assumption) ?_
    rotate_left
    · (intro w hSw; (try dsimp only at hSw); simp only [List.getElem_toArray, List.getElem_cons_zero, List.getElem_cons_succ]; go_simp; first | done | with_reducible rfl)
    simp only [List.getElem_toArray, List.getElem_cons_zero, List.getElem_cons_succ, Act.put, List.setIfInBounds_toArray, List.set_cons_zero, List.set_cons_succ]
    refine wpAnyH_take (i := 4) (v := ?_) rfl (by kernel_rfl) (by kernel_rfl) (by kernel_rfl) (fun _ _ _ h => h) (Or.inl ⟨by rfl, ?_⟩) (by assumption) ?_
    rotate_left
    · (intro w hSw; (try dsimp only at hSw); simp only [List.getElem_toArray, List.getElem_cons_zero, List.getElem_cons_succ]; go_simp; first | done | with_reducible rfl)
    simp only [List.getElem_toArray, List.getElem_cons_zero, List.getElem_cons_succ, Act.put, List.setIfInBounds_toArray, List.set_cons_zero, List.set_cons_succ]
    refine wpAnyH_take (i := 7) (v := ?_) rfl (by kernel_rfl) (by kernel_rfl) (by kernel_rfl) (fun _ _ _ h => h) (Or.inl ⟨by rfl, ?_⟩) (by assumption) ?_
    rotate_left
    · (intro w hSw; (try dsimp only at hSw); simp only [List.getElem_toArray, List.getElem_cons_zero, List.getElem_cons_succ]; go_simp; first | done | with_reducible rfl)
    simp only [List.getElem_toArray, List.getElem_cons_zero, List.getElem_cons_succ, Act.put, List.setIfInBounds_toArray, List.set_cons_zero, List.set_cons_succ]
    refine wpAnyH_take (i := 1) (v := ?_) rfl (by kernel_rfl) (by kernel_rfl) (by kernel_rfl) (fun _ _ _ h => h) (Or.inl ⟨by rfl, ?_⟩) (by assumption) ?_
    rotate_left
    · (intro w hSw; (try dsimp only at hSw); simp only [List.getElem_toArray, List.getElem_cons_zero, List.getElem_cons_succ]; go_simp; first | done | with_reducible rfl)
    simp only [List.getElem_toArray, List.getElem_cons_zero, List.getElem_cons_succ, Act.put, List.setIfInBounds_toArray, List.set_cons_zero, List.set_cons_succ]
    refine wpAnyH_take (i := 5) (v := ?_) rfl (by kernel_rfl) (by kernel_rfl) (by kernel_rfl) (fun _ _ _ h => h) (Or.inl ⟨by rfl, ?_⟩) (by assumption) ?_
    rotate_left
    · (intro w hSw; (try dsimp only at hSw); simp only [List.getElem_toArray, List.getElem_cons_zero, List.getElem_cons_succ]; go_simp; first | done | with_reducible rfl)
    simp only [List.getElem_toArray, List.getElem_cons_zero, List.getElem_cons_succ, Act.put, List.setIfInBounds_toArray, List.set_cons_zero, List.set_cons_succ]
    refine wpAnyH_take (i := 2) (v := ?_) rfl (by kernel_rfl) (by kernel_rfl) (by kernel_rfl) (fun _ _ _ h => h) (Or.inl ⟨by rfl, ?_⟩) (by assumption) ?_
    rotate_left
    · (intro w hSw; (try dsimp only at hSw); simp only [List.getElem_toArray, List.getElem_cons_zero, List.getElem_cons_succ]; go_simp; first | done | with_reducible rfl)
    simp only [List.getElem_toArray, List.getElem_cons_zero, List.getElem_cons_succ, Act.put, List.setIfInBounds_toArray, List.set_cons_zero, List.set_cons_succ]
    refine wpAnyH_take (i := 3) (v := ?_) rfl (by kernel_rfl) (by kernel_rfl) (by kernel_rfl) (fun _ _ _ h => h) (Or.inl ⟨by rfl, ?_⟩) (by assumption) ?_
    rotate_left
    · (intro w hSw; (try dsimp only at hSw); simp only [List.getElem_toArray, List.getElem_cons_zero, List.getElem_cons_succ]; go_simp; first | done | with_reducible rfl)
    simp only [List.getElem_toArray, List.getElem_cons_zero, List.getElem_cons_succ, Act.put, List.setIfInBounds_toArray, List.set_cons_zero, List.set_cons_succ]
    refine wpAnyH_take (i := 6) (v := .agg #[.int .i64 (x.1.size : Int), .map (some x.2)]) rfl (by kernel_rfl) (by kernel_rfl) (by kernel_rfl) (fun _ _ _ h => h) (Or.inl ⟨by rfl, ?_⟩) (by assumption) ?_
    · (intro w hSw; simp only [List.getElem_toArray, List.getElem_cons_zero, List.getElem_cons_succ]; (have h6 := HLK.out w hSw.2; go_simp; first | done | with_reducible rfl))
    simp only [List.getElem_toArray, List.getElem_cons_zero, List.getElem_cons_succ, Act.put, List.setIfInBounds_toArray, List.set_cons_zero, List.set_cons_succ]
    refine wpAnyH_ready (rs := [8, 10, 11]) (by kernel_rfl) (by simp) ?_
    refine AllReadyH.cons rfl (fun K hK => ?_) (AllReadyH.cons rfl (fun K hK => ?_) (AllReadyH.cons rfl (fun K hK => ?_) (AllReadyH.nil)))
    · skip
      simp only [List.getElem_toArray, List.getElem_cons_zero, List.getElem_cons_succ]
      go_simp
      refine (CP.out _).mono ?_
      rintro e w3 ⟨rfl, hb3⟩
      dsimp only
      have HBE := Lib.hid (bthen HBE.out hb3)
      have hSp := HSS.out _ HBE.out
      clear hHeld
      refine hK.out _ _ hSp (fun hHeld => ?_)
      clear hSp hK K
      try simp only [Act.put, List.setIfInBounds_toArray, List.set_cons_zero, List.set_cons_succ]
      have HC8 := Lib.hid hb3
      clear hb3
      refine wpAnyH_take (i := 9) (v := ?_) rfl (by kernel_rfl) (by kernel_rfl) (by kernel_rfl) (fun _ _ _ h => h) (Or.inl ⟨by rfl, ?_⟩) (by assumption) ?_
      rotate_left
      · (intro w hSw; (try dsimp only at hSw); simp only [List.getElem_toArray, List.getElem_cons_zero, List.getElem_cons_succ]; go_simp; first | done | with_reducible rfl)
      simp only [List.getElem_toArray, List.getElem_cons_zero, List.getElem_cons_succ, Act.put, List.setIfInBounds_toArray, List.set_cons_zero, List.set_cons_succ]
      refine wpAnyH_ready (rs := [10, 11]) (by kernel_rfl) (by simp) ?_
      refine AllReadyH.cons rfl (fun K hK => ?_) (AllReadyH.cons rfl (fun K hK => ?_) (AllReadyH.nil))
      · skip
        simp only [List.getElem_toArray, List.getElem_cons_zero, List.getElem_cons_succ]
        go_simp
        obtain ⟨b10, hw10⟩ : ∃ b, w3.heap.size = b := ⟨_, rfl⟩
        obtain ⟨y10, hy10⟩ : ∃ y, w3.alloc (.cells #[.int .i64 0, .map none] 53) = y := ⟨_, rfl⟩
        rw [hy10, hw10]
        have hx10 : Below w3.heap.size w3 y10 := by rw [← hy10]; exact balloc (Below.refl _ _) _
        have HN10 : Hid (y10.heap[b10]? = some (.cells #[.int .i64 0, .map none] 53 (0, 0))) := Lib.hid (by rw [← hy10, ← hw10]; exact heap_alloc_new _ _)
        have HG10 : Hid (w2.heap.size ≤ b10) := Lib.hid (by have := HBE.out.size; omega)
        clear hy10 hw10
        have HBE := Lib.hid (bthen HBE.out hx10)
        have hSp := HSS.out _ HBE.out
        clear hHeld
        refine hK.out _ _ hSp (fun hHeld => ?_)
        clear hSp hK K
        try simp only [Act.put, List.setIfInBounds_toArray, List.set_cons_zero, List.set_cons_succ]
        clear hx10
        refine wpAnyH_ready (rs := [11]) (by kernel_rfl) (by simp) ?_
        refine AllReadyH.cons rfl (fun K hK => ?_) (AllReadyH.nil)
        simp only [List.getElem_toArray, List.getElem_cons_zero, List.getElem_cons_succ]
        go_simp
        obtain ⟨b11, hw11⟩ : ∃ b, y10.heap.size = b := ⟨_, rfl⟩
        obtain ⟨y11, hy11⟩ : ∃ y, y10.alloc (.cells #[.int .i64 0, .int .i64 0] 75) = y := ⟨_, rfl⟩
        rw [hy11, hw11]
        have hx11 : Below y10.heap.size y10 y11 := by rw [← hy11]; exact balloc (Below.refl _ _) _
        have HN11 : Hid (y11.heap[b11]? = some (.cells #[.int .i64 0, .int .i64 0] 75 (0, 0))) := Lib.hid (by rw [← hy11, ← hw11]; exact heap_alloc_new _ _)
        have HG11 : Hid (w2.heap.size ≤ b11) := Lib.hid (by have := HBE.out.size; omega)
        have HNE10_11 : Hid (b10 ≠ b11) := Lib.hid (by have := (Array.getElem?_eq_some_iff.1 HN10.out).1; omega)
        clear hy11 hw11
        have HBE := Lib.hid (bthen HBE.out hx11)
        have hSp := HSS.out _ HBE.out
        clear hHeld
        refine hK.out _ _ hSp (fun hHeld => ?_)
        clear hSp hK K
        try simp only [Act.put, List.setIfInBounds_toArray, List.set_cons_zero, List.set_cons_succ]
        have HN10 := Lib.hid ((hx11.block b10 (Array.getElem?_eq_some_iff.1 HN10.out).1).trans HN10.out)
        clear hx11
        refine wpAnyH_ready (rs := [12]) (by kernel_rfl) (by simp) ?_
        refine AllReadyH.cons rfl (fun K hK => ?_) (AllReadyH.nil)
        have hc12_0 := cellOf HN10.out 0 rfl
        have hf12_0 := frozenOf HN10.out 0
        have hc12_1 := cellOf HN10.out 1 rfl
        have hf12_1 := frozenOf HN10.out 1
        simp only [List.getElem_toArray, List.getElem_cons_zero, List.getElem_cons_succ]
        go_simp
        obtain ⟨y12, hy12⟩ : ∃ y, ((y11.setCell ⟨b10, 0, none⟩ (.int .i64 (x.1.size : Int))).setCell ⟨b10, 1, none⟩ (.map (some x.2))) = y := ⟨_, rfl⟩
        rw [hy12]
        have hm12 : Mods [b10] y11 y12 := by rw [← hy12]; exact ((Mods.refl [b10] y11).setCell (p := ⟨b10, 0, none⟩) (by simp) _).setCell (p := ⟨b10, 1, none⟩) (by simp) _
        have hv12 := setOf (setOf (HN10.out) 0 (.int .i64 (x.1.size : Int))) 1 (.map (some x.2))
        rw [hy12] at hv12
        clear hy12 hc12_0 hf12_0 hc12_1 hf12_1
        have HBE : Hid (Below w2.heap.size w2 y12) := Lib.hid (HBE.out.trans (hm12.below (fun k hk => by have := HG10.out; have e := List.mem_singleton.1 hk; omega) HBE.out.size))
        have hSp := HSS.out _ HBE.out
        clear hHeld
        refine hK.out _ _ hSp (fun hHeld => ?_)
        clear hSp hK K
        try simp only [Act.put, List.setIfInBounds_toArray, List.set_cons_zero, List.set_cons_succ]
        have HN11 := Lib.hid ((hm12.block b11 (Array.getElem?_eq_some_iff.1 HN11.out).1 (fun h => by have e := List.mem_singleton.1 h; have := HNE10_11.out; omega)).trans HN11.out)
        simp only [List.setIfInBounds_toArray, List.set_cons_zero, List.set_cons_succ] at hv12
        have HN10 := Lib.hid hv12
        clear hv12 hm12
        refine wpAnyH_ready (rs := [13]) (by kernel_rfl) (by simp) ?_
        refine AllReadyH.cons rfl (fun K hK => ?_) (AllReadyH.nil)
        have hc13_0 := cellOf HN11.out 0 rfl
        have hf13_0 := frozenOf HN11.out 0
        have hc13_1 := cellOf HN11.out 1 rfl
        have hf13_1 := frozenOf HN11.out 1
        simp only [List.getElem_toArray, List.getElem_cons_zero, List.getElem_cons_succ]
        go_simp
        obtain ⟨y13, hy13⟩ : ∃ y, ((y12.setCell ⟨b11, 0, none⟩ (.int .i64 o.pl)).setCell ⟨b11, 1, none⟩ (.int .i64 o.count)) = y := ⟨_, rfl⟩
        rw [hy13]
        have hm13 : Mods [b11] y12 y13 := by rw [← hy13]; exact ((Mods.refl [b11] y12).setCell (p := ⟨b11, 0, none⟩) (by simp) _).setCell (p := ⟨b11, 1, none⟩) (by simp) _
        have hv13 := setOf (setOf (HN11.out) 0 (.int .i64 o.pl)) 1 (.int .i64 o.count)
        rw [hy13] at hv13
        clear hy13 hc13_0 hf13_0 hc13_1 hf13_1
        have HBE : Hid (Below w2.heap.size w2 y13) := Lib.hid (HBE.out.trans (hm13.below (fun k hk => by have := HG11.out; have e := List.mem_singleton.1 hk; omega) HBE.out.size))
        have hSp := HSS.out _ HBE.out
        clear hHeld
        refine hK.out _ _ hSp (fun hHeld => ?_)
        clear hSp hK K
        try simp only [Act.put, List.setIfInBounds_toArray, List.set_cons_zero, List.set_cons_succ]
        have HN10 := Lib.hid ((hm13.block b10 (Array.getElem?_eq_some_iff.1 HN10.out).1 (fun h => by have e := List.mem_singleton.1 h; have := HNE10_11.out; omega)).trans HN10.out)
        simp only [List.setIfInBounds_toArray, List.set_cons_zero, List.set_cons_succ] at hv13
        have HN11 := Lib.hid hv13
        clear hv13 hm13
        refine wpAnyH_done (by kernel_rfl) ?_ _
        have HEND := Lib.hid hHeld.2
        have HSE := Lib.hid hHeld.1
        clear hHeld
        clear HSE HSS
        go_wp2_with fail
        go_meet
        exact ⟨_, _, _, rfl, rfl, rfl, HG10.out, HG11.out, HNE10_11.out, HEND.out, HN10.out, HN11.out⟩
      · skip
        simp only [List.getElem_toArray, List.getElem_cons_zero, List.getElem_cons_succ]
        go_simp
        obtain ⟨b11, hw11⟩ : ∃ b, w3.heap.size = b := ⟨_, rfl⟩
        obtain ⟨y11, hy11⟩ : ∃ y, w3.alloc (.cells #[.int .i64 0, .int .i64 0] 75) = y := ⟨_, rfl⟩
        rw [hy11, hw11]
        have hx11 : Below w3.heap.size w3 y11 := by rw [← hy11]; exact balloc (Below.refl _ _) _
        have HN11 : Hid (y11.heap[b11]? = some (.cells #[.int .i64 0, .int .i64 0] 75 (0, 0))) := Lib.hid (by rw [← hy11, ← hw11]; exact heap_alloc_new _ _)
        have HG11 : Hid (w2.heap.size ≤ b11) := Lib.hid (by have := HBE.out.size; omega)
        clear hy11 hw11
        have HBE := Lib.hid (bthen HBE.out hx11)
        have hSp := HSS.out _ HBE.out
        clear hHeld
        refine hK.out _ _ hSp (fun hHeld => ?_)
        clear hSp hK K
        try simp only [Act.put, List.setIfInBounds_toArray, List.set_cons_zero, List.set_cons_succ]
        clear hx11
        refine wpAnyH_ready (rs := [10]) (by kernel_rfl) (by simp) ?_
        refine AllReadyH.cons rfl (fun K hK => ?_) (AllReadyH.nil)
        simp only [List.getElem_toArray, List.getElem_cons_zero, List.getElem_cons_succ]
        go_simp
        obtain ⟨b10, hw10⟩ : ∃ b, y11.heap.size = b := ⟨_, rfl⟩
        obtain ⟨y10, hy10⟩ : ∃ y, y11.alloc (.cells #[.int .i64 0, .map none] 53) = y := ⟨_, rfl⟩
        rw [hy10, hw10]
        have hx10 : Below y11.heap.size y11 y10 := by rw [← hy10]; exact balloc (Below.refl _ _) _
        have HN10 : Hid (y10.heap[b10]? = some (.cells #[.int .i64 0, .map none] 53 (0, 0))) := Lib.hid (by rw [← hy10, ← hw10]; exact heap_alloc_new _ _)
        have HG10 : Hid (w2.heap.size ≤ b10) := Lib.hid (by have := HBE.out.size; omega)
        have HNE10_11 : Hid (b10 ≠ b11) := Lib.hid (by have := (Array.getElem?_eq_some_iff.1 HN11.out).1; omega)
        clear hy10 hw10
        have HBE := Lib.hid (bthen HBE.out hx10)
        have hSp := HSS.out _ HBE.out
        clear hHeld
        refine hK.out _ _ hSp (fun hHeld => ?_)
        clear hSp hK K
        try simp only [Act.put, List.setIfInBounds_toArray, List.set_cons_zero, List.set_cons_succ]
        have HN11 := Lib.hid ((hx10.block b11 (Array.getElem?_eq_some_iff.1 HN11.out).1).trans HN11.out)
        clear hx10
        refine wpAnyH_ready (rs := [12]) (by kernel_rfl) (by simp) ?_
        refine AllReadyH.cons rfl (fun K hK => ?_) (AllReadyH.nil)
        have hc12_0 := cellOf HN10.out 0 rfl
        have hf12_0 := frozenOf HN10.out 0
        have hc12_1 := cellOf HN10.out 1 rfl
        have hf12_1 := frozenOf HN10.out 1
        simp only [List.getElem_toArray, List.getElem_cons_zero, List.getElem_cons_succ]
        go_simp
        obtain ⟨y12, hy12⟩ : ∃ y, ((y10.setCell ⟨b10, 0, none⟩ (.int .i64 (x.1.size : Int))).setCell ⟨b10, 1, none⟩ (.map (some x.2))) = y := ⟨_, rfl⟩
        rw [hy12]
        have hm12 : Mods [b10] y10 y12 := by rw [← hy12]; exact ((Mods.refl [b10] y10).setCell (p := ⟨b10, 0, none⟩) (by simp) _).setCell (p := ⟨b10, 1, none⟩) (by simp) _
        have hv12 := setOf (setOf (HN10.out) 0 (.int .i64 (x.1.size : Int))) 1 (.map (some x.2))
        rw [hy12] at hv12
        clear hy12 hc12_0 hf12_0 hc12_1 hf12_1
        have HBE : Hid (Below w2.heap.size w2 y12) := Lib.hid (HBE.out.trans (hm12.below (fun k hk => by have := HG10.out; have e := List.mem_singleton.1 hk; omega) HBE.out.size))
        have hSp := HSS.out _ HBE.out
        clear hHeld
        refine hK.out _ _ hSp (fun hHeld => ?_)
        clear hSp hK K
        try simp only [Act.put, List.setIfInBounds_toArray, List.set_cons_zero, List.set_cons_succ]
        have HN11 := Lib.hid ((hm12.block b11 (Array.getElem?_eq_some_iff.1 HN11.out).1 (fun h => by have e := List.mem_singleton.1 h; have := HNE10_11.out; omega)).trans HN11.out)
        simp only [List.setIfInBounds_toArray, List.set_cons_zero, List.set_cons_succ] at hv12
        have HN10 := Lib.hid hv12
        clear hv12 hm12
        refine wpAnyH_ready (rs := [13]) (by kernel_rfl) (by simp) ?_
        refine AllReadyH.cons rfl (fun K hK => ?_) (AllReadyH.nil)
        have hc13_0 := cellOf HN11.out 0 rfl
        have hf13_0 := frozenOf HN11.out 0
        have hc13_1 := cellOf HN11.out 1 rfl
        have hf13_1 := frozenOf HN11.out 1
        simp only [List.getElem_toArray, List.getElem_cons_zero, List.getElem_cons_succ]
        go_simp
        obtain ⟨y13, hy13⟩ : ∃ y, ((y12.setCell ⟨b11, 0, none⟩ (.int .i64 o.pl)).setCell ⟨b11, 1, none⟩ (.int .i64 o.count)) = y := ⟨_, rfl⟩
        rw [hy13]
        have hm13 : Mods [b11] y12 y13 := by rw [← hy13]; exact ((Mods.refl [b11] y12).setCell (p := ⟨b11, 0, none⟩) (by simp) _).setCell (p := ⟨b11, 1, none⟩) (by simp) _
        have hv13 := setOf (setOf (HN11.out) 0 (.int .i64 o.pl)) 1 (.int .i64 o.count)
        rw [hy13] at hv13
        clear hy13 hc13_0 hf13_0 hc13_1 hf13_1
        have HBE : Hid (Below w2.heap.size w2 y13) := Lib.hid (HBE.out.trans (hm13.below (fun k hk => by have := HG11.out; have e := List.mem_singleton.1 hk; omega) HBE.out.size))
        have hSp := HSS.out _ HBE.out
        clear hHeld
        refine hK.out _ _ hSp (fun hHeld => ?_)
        clear hSp hK K
        try simp only [Act.put, List.setIfInBounds_toArray, List.set_cons_zero, List.set_cons_succ]
        have HN10 := Lib.hid ((hm13.block b10 (Array.getElem?_eq_some_iff.1 HN10.out).1 (fun h => by have e := List.mem_singleton.1 h; have := HNE10_11.out; omega)).trans HN10.out)
        simp only [List.setIfInBounds_toArray, List.set_cons_zero, List.set_cons_succ] at hv13
        have HN11 := Lib.hid hv13
        clear hv13 hm13
        refine wpAnyH_done (by kernel_rfl) ?_ _
        have HEND := Lib.hid hHeld.2
        have HSE := Lib.hid hHeld.1
        clear hHeld
        clear HSE HSS
        go_wp2_with fail
        go_meet
        exact ⟨_, _, _, rfl, rfl, rfl, HG10.out, HG11.out, HNE10_11.out, HEND.out, HN10.out, HN11.out⟩
    · skip
      simp only [List.getElem_toArray, List.getElem_cons_zero, List.getElem_cons_succ]
      go_simp
      obtain ⟨b10, hw10⟩ : ∃ b, wd.heap.size = b := ⟨_, rfl⟩
      obtain ⟨y10, hy10⟩ : ∃ y, wd.alloc (.cells #[.int .i64 0, .map none] 53) = y := ⟨_, rfl⟩
      rw [hy10, hw10]
      have hx10 : Below wd.heap.size wd y10 := by rw [← hy10]; exact balloc (Below.refl _ _) _
      have HN10 : Hid (y10.heap[b10]? = some (.cells #[.int .i64 0, .map none] 53 (0, 0))) := Lib.hid (by rw [← hy10, ← hw10]; exact heap_alloc_new _ _)
      have HG10 : Hid (w2.heap.size ≤ b10) := Lib.hid (by have := HBE.out.size; omega)
      clear hy10 hw10
      have HBE := Lib.hid (bthen HBE.out hx10)
      have hSp := HSS.out _ HBE.out
      clear hHeld
      refine hK.out _ _ hSp (fun hHeld => ?_)
      clear hSp hK K
      try simp only [Act.put, List.setIfInBounds_toArray, List.set_cons_zero, List.set_cons_succ]
      clear hx10
      refine wpAnyH_ready (rs := [8, 11]) (by kernel_rfl) (by simp) ?_
      refine AllReadyH.cons rfl (fun K hK => ?_) (AllReadyH.cons rfl (fun K hK => ?_) (AllReadyH.nil))
      · skip
        simp only [List.getElem_toArray, List.getElem_cons_zero, List.getElem_cons_succ]
        go_simp
        refine (CP.out _).mono ?_
        rintro e w3 ⟨rfl, hb3⟩
        dsimp only
        have HBE := Lib.hid (bthen HBE.out hb3)
        have hSp := HSS.out _ HBE.out
        clear hHeld
        refine hK.out _ _ hSp (fun hHeld => ?_)
        clear hSp hK K
        try simp only [Act.put, List.setIfInBounds_toArray, List.set_cons_zero, List.set_cons_succ]
        have HN10 := Lib.hid ((hb3.block b10 (Array.getElem?_eq_some_iff.1 HN10.out).1).trans HN10.out)
        have HC8 := Lib.hid hb3
        clear hb3
        refine wpAnyH_take (i := 9) (v := ?_) rfl (by kernel_rfl) (by kernel_rfl) (by kernel_rfl) (fun _ _ _ h => h) (Or.inl ⟨by rfl, ?_⟩) (by assumption) ?_
        rotate_left
        · (intro w hSw; (try dsimp only at hSw); simp only [List.getElem_toArray, List.getElem_cons_zero, List.getElem_cons_succ]; go_simp; first | done | with_reducible rfl)
        simp only [List.getElem_toArray, List.getElem_cons_zero, List.getElem_cons_succ, Act.put, List.setIfInBounds_toArray, List.set_cons_zero, List.set_cons_succ]
        refine wpAnyH_ready (rs := [11]) (by kernel_rfl) (by simp) ?_
        refine AllReadyH.cons rfl (fun K hK => ?_) (AllReadyH.nil)
        simp only [List.getElem_toArray, List.getElem_cons_zero, List.getElem_cons_succ]
        go_simp
        obtain ⟨b11, hw11⟩ : ∃ b, w3.heap.size = b := ⟨_, rfl⟩
        obtain ⟨y11, hy11⟩ : ∃ y, w3.alloc (.cells #[.int .i64 0, .int .i64 0] 75) = y := ⟨_, rfl⟩
        rw [hy11, hw11]
        have hx11 : Below w3.heap.size w3 y11 := by rw [← hy11]; exact balloc (Below.refl _ _) _
        have HN11 : Hid (y11.heap[b11]? = some (.cells #[.int .i64 0, .int .i64 0] 75 (0, 0))) := Lib.hid (by rw [← hy11, ← hw11]; exact heap_alloc_new _ _)
        have HG11 : Hid (w2.heap.size ≤ b11) := Lib.hid (by have := HBE.out.size; omega)
        have HNE10_11 : Hid (b10 ≠ b11) := Lib.hid (by have := (Array.getElem?_eq_some_iff.1 HN10.out).1; omega)
        clear hy11 hw11
        have HBE := Lib.hid (bthen HBE.out hx11)
        have hSp := HSS.out _ HBE.out
        clear hHeld
        refine hK.out _ _ hSp (fun hHeld => ?_)
        clear hSp hK K
        try simp only [Act.put, List.setIfInBounds_toArray, List.set_cons_zero, List.set_cons_succ]
        have HN10 := Lib.hid ((hx11.block b10 (Array.getElem?_eq_some_iff.1 HN10.out).1).trans HN10.out)
        clear hx11
        refine wpAnyH_ready (rs := [12]) (by kernel_rfl) (by simp) ?_
        refine AllReadyH.cons rfl (fun K hK => ?_) (AllReadyH.nil)
        have hc12_0 := cellOf HN10.out 0 rfl
        have hf12_0 := frozenOf HN10.out 0
        have hc12_1 := cellOf HN10.out 1 rfl
        have hf12_1 := frozenOf HN10.out 1
        simp only [List.getElem_toArray, List.getElem_cons_zero, List.getElem_cons_succ]
        go_simp
        obtain ⟨y12, hy12⟩ : ∃ y, ((y11.setCell ⟨b10, 0, none⟩ (.int .i64 (x.1.size : Int))).setCell ⟨b10, 1, none⟩ (.map (some x.2))) = y := ⟨_, rfl⟩
        rw [hy12]
        have hm12 : Mods [b10] y11 y12 := by rw [← hy12]; exact ((Mods.refl [b10] y11).setCell (p := ⟨b10, 0, none⟩) (by simp) _).setCell (p := ⟨b10, 1, none⟩) (by simp) _
        have hv12 := setOf (setOf (HN10.out) 0 (.int .i64 (x.1.size : Int))) 1 (.map (some x.2))
        rw [hy12] at hv12
        clear hy12 hc12_0 hf12_0 hc12_1 hf12_1
        have HBE : Hid (Below w2.heap.size w2 y12) := Lib.hid (HBE.out.trans (hm12.below (fun k hk => by have := HG10.out; have e := List.mem_singleton.1 hk; omega) HBE.out.size))
        have hSp := HSS.out _ HBE.out
        clear hHeld
        refine hK.out _ _ hSp (fun hHeld => ?_)
        clear hSp hK K
        try simp only [Act.put, List.setIfInBounds_toArray, List.set_cons_zero, List.set_cons_succ]
        have HN11 := Lib.hid ((hm12.block b11 (Array.getElem?_eq_some_iff.1 HN11.out).1 (fun h => by have e := List.mem_singleton.1 h; have := HNE10_11.out; omega)).trans HN11.out)
        simp only [List.setIfInBounds_toArray, List.set_cons_zero, List.set_cons_succ] at hv12
        have HN10 := Lib.hid hv12
        clear hv12 hm12
        refine wpAnyH_ready (rs := [13]) (by kernel_rfl) (by simp) ?_
        refine AllReadyH.cons rfl (fun K hK => ?_) (AllReadyH.nil)
        have hc13_0 := cellOf HN11.out 0 rfl
        have hf13_0 := frozenOf HN11.out 0
        have hc13_1 := cellOf HN11.out 1 rfl
        have hf13_1 := frozenOf HN11.out 1
        simp only [List.getElem_toArray, List.getElem_cons_zero, List.getElem_cons_succ]
        go_simp
        obtain ⟨y13, hy13⟩ : ∃ y, ((y12.setCell ⟨b11, 0, none⟩ (.int .i64 o.pl)).setCell ⟨b11, 1, none⟩ (.int .i64 o.count)) = y := ⟨_, rfl⟩
        rw [hy13]
        have hm13 : Mods [b11] y12 y13 := by rw [← hy13]; exact ((Mods.refl [b11] y12).setCell (p := ⟨b11, 0, none⟩) (by simp) _).setCell (p := ⟨b11, 1, none⟩) (by simp) _
        have hv13 := setOf (setOf (HN11.out) 0 (.int .i64 o.pl)) 1 (.int .i64 o.count)
        rw [hy13] at hv13
        clear hy13 hc13_0 hf13_0 hc13_1 hf13_1
        have HBE : Hid (Below w2.heap.size w2 y13) := Lib.hid (HBE.out.trans (hm13.below (fun k hk => by have := HG11.out; have e := List.mem_singleton.1 hk; omega) HBE.out.size))
        have hSp := HSS.out _ HBE.out
        clear hHeld
        refine hK.out _ _ hSp (fun hHeld => ?_)
        clear hSp hK K
        try simp only [Act.put, List.setIfInBounds_toArray, List.set_cons_zero, List.set_cons_succ]
        have HN10 := Lib.hid ((hm13.block b10 (Array.getElem?_eq_some_iff.1 HN10.out).1 (fun h => by have e := List.mem_singleton.1 h; have := HNE10_11.out; omega)).trans HN10.out)
        simp only [List.setIfInBounds_toArray, List.set_cons_zero, List.set_cons_succ] at hv13
        have HN11 := Lib.hid hv13
        clear hv13 hm13
        refine wpAnyH_done (by kernel_rfl) ?_ _
        have HEND := Lib.hid hHeld.2
        have HSE := Lib.hid hHeld.1
        clear hHeld
        clear HSE HSS
        go_wp2_with fail
        go_meet
        exact ⟨_, _, _, rfl, rfl, rfl, HG10.out, HG11.out, HNE10_11.out, HEND.out, HN10.out, HN11.out⟩
      · skip
        simp only [List.getElem_toArray, List.getElem_cons_zero, List.getElem_cons_succ]
        go_simp
        obtain ⟨b11, hw11⟩ : ∃ b, y10.heap.size = b := ⟨_, rfl⟩
        obtain ⟨y11, hy11⟩ : ∃ y, y10.alloc (.cells #[.int .i64 0, .int .i64 0] 75) = y := ⟨_, rfl⟩
        rw [hy11, hw11]
        have hx11 : Below y10.heap.size y10 y11 := by rw [← hy11]; exact balloc (Below.refl _ _) _
        have HN11 : Hid (y11.heap[b11]? = some (.cells #[.int .i64 0, .int .i64 0] 75 (0, 0))) := Lib.hid (by rw [← hy11, ← hw11]; exact heap_alloc_new _ _)
        have HG11 : Hid (w2.heap.size ≤ b11) := Lib.hid (by have := HBE.out.size; omega)
        have HNE10_11 : Hid (b10 ≠ b11) := Lib.hid (by have := (Array.getElem?_eq_some_iff.1 HN10.out).1; omega)
        clear hy11 hw11
        have HBE := Lib.hid (bthen HBE.out hx11)
        have hSp := HSS.out _ HBE.out
        clear hHeld
        refine hK.out _ _ hSp (fun hHeld => ?_)
        clear hSp hK K
        try simp only [Act.put, List.setIfInBounds_toArray, List.set_cons_zero, List.set_cons_succ]
        have HN10 := Lib.hid ((hx11.block b10 (Array.getElem?_eq_some_iff.1 HN10.out).1).trans HN10.out)
        clear hx11
        refine wpAnyH_ready (rs := [8]) (by kernel_rfl) (by simp) ?_
        refine AllReadyH.cons rfl (fun K hK => ?_) (AllReadyH.nil)
        simp only [List.getElem_toArray, List.getElem_cons_zero, List.getElem_cons_succ]
        go_simp
        refine (CP.out _).mono ?_
        rintro e w3 ⟨rfl, hb3⟩
        dsimp only
        have HBE := Lib.hid (bthen HBE.out hb3)
        have hSp := HSS.out _ HBE.out
        clear hHeld
        refine hK.out _ _ hSp (fun hHeld => ?_)
        clear hSp hK K
        try simp only [Act.put, List.setIfInBounds_toArray, List.set_cons_zero, List.set_cons_succ]
        have HN10 := Lib.hid ((hb3.block b10 (Array.getElem?_eq_some_iff.1 HN10.out).1).trans HN10.out)
        have HN11 := Lib.hid ((hb3.block b11 (Array.getElem?_eq_some_iff.1 HN11.out).1).trans HN11.out)
        have HC8 := Lib.hid hb3
        clear hb3
        refine wpAnyH_take (i := 9) (v := ?_) rfl (by kernel_rfl) (by kernel_rfl) (by kernel_rfl) (fun _ _ _ h => h) (Or.inl ⟨by rfl, ?_⟩) (by assumption) ?_
        rotate_left
        · (intro w hSw; (try dsimp only at hSw); simp only [List.getElem_toArray, List.getElem_cons_zero, List.getElem_cons_succ]; go_simp; first | done | with_reducible rfl)
        simp only [List.getElem_toArray, List.getElem_cons_zero, List.getElem_cons_succ, Act.put, List.setIfInBounds_toArray, List.set_cons_zero, List.set_cons_succ]
        refine wpAnyH_ready (rs := [12]) (by kernel_rfl) (by simp) ?_
        refine AllReadyH.cons rfl (fun K hK => ?_) (AllReadyH.nil)
        have hc12_0 := cellOf HN10.out 0 rfl
        have hf12_0 := frozenOf HN10.out 0
        have hc12_1 := cellOf HN10.out 1 rfl
        have hf12_1 := frozenOf HN10.out 1
        simp only [List.getElem_toArray, List.getElem_cons_zero, List.getElem_cons_succ]
        go_simp
        obtain ⟨y12, hy12⟩ : ∃ y, ((w3.setCell ⟨b10, 0, none⟩ (.int .i64 (x.1.size : Int))).setCell ⟨b10, 1, none⟩ (.map (some x.2))) = y := ⟨_, rfl⟩
        rw [hy12]
        have hm12 : Mods [b10] w3 y12 := by rw [← hy12]; exact ((Mods.refl [b10] w3).setCell (p := ⟨b10, 0, none⟩) (by simp) _).setCell (p := ⟨b10, 1, none⟩) (by simp) _
        have hv12 := setOf (setOf (HN10.out) 0 (.int .i64 (x.1.size : Int))) 1 (.map (some x.2))
        rw [hy12] at hv12
        clear hy12 hc12_0 hf12_0 hc12_1 hf12_1
        have HBE : Hid (Below w2.heap.size w2 y12) := Lib.hid (HBE.out.trans (hm12.below (fun k hk => by have := HG10.out; have e := List.mem_singleton.1 hk; omega) HBE.out.size))
        have hSp := HSS.out _ HBE.out
        clear hHeld
        refine hK.out _ _ hSp (fun hHeld => ?_)
        clear hSp hK K
        try simp only [Act.put, List.setIfInBounds_toArray, List.set_cons_zero, List.set_cons_succ]
        have HN11 := Lib.hid ((hm12.block b11 (Array.getElem?_eq_some_iff.1 HN11.out).1 (fun h => by have e := List.mem_singleton.1 h; have := HNE10_11.out; omega)).trans HN11.out)
        simp only [List.setIfInBounds_toArray, List.set_cons_zero, List.set_cons_succ] at hv12
        have HN10 := Lib.hid hv12
        clear hv12 hm12
        refine wpAnyH_ready (rs := [13]) (by kernel_rfl) (by simp) ?_
        refine AllReadyH.cons rfl (fun K hK => ?_) (AllReadyH.nil)
        have hc13_0 := cellOf HN11.out 0 rfl
        have hf13_0 := frozenOf HN11.out 0
        have hc13_1 := cellOf HN11.out 1 rfl
        have hf13_1 := frozenOf HN11.out 1
        simp only [List.getElem_toArray, List.getElem_cons_zero, List.getElem_cons_succ]
        go_simp
        obtain ⟨y13, hy13⟩ : ∃ y, ((y12.setCell ⟨b11, 0, none⟩ (.int .i64 o.pl)).setCell ⟨b11, 1, none⟩ (.int .i64 o.count)) = y := ⟨_, rfl⟩
        rw [hy13]
        have hm13 : Mods [b11] y12 y13 := by rw [← hy13]; exact ((Mods.refl [b11] y12).setCell (p := ⟨b11, 0, none⟩) (by simp) _).setCell (p := ⟨b11, 1, none⟩) (by simp) _
        have hv13 := setOf (setOf (HN11.out) 0 (.int .i64 o.pl)) 1 (.int .i64 o.count)
        rw [hy13] at hv13
        clear hy13 hc13_0 hf13_0 hc13_1 hf13_1
        have HBE : Hid (Below w2.heap.size w2 y13) := Lib.hid (HBE.out.trans (hm13.below (fun k hk => by have := HG11.out; have e := List.mem_singleton.1 hk; omega) HBE.out.size))
        have hSp := HSS.out _ HBE.out
        clear hHeld
        refine hK.out _ _ hSp (fun hHeld => ?_)
        clear hSp hK K
        try simp only [Act.put, List.setIfInBounds_toArray, List.set_cons_zero, List.set_cons_succ]
        have HN10 := Lib.hid ((hm13.block b10 (Array.getElem?_eq_some_iff.1 HN10.out).1 (fun h => by have e := List.mem_singleton.1 h; have := HNE10_11.out; omega)).trans HN10.out)
        simp only [List.setIfInBounds_toArray, List.set_cons_zero, List.set_cons_succ] at hv13
        have HN11 := Lib.hid hv13
        clear hv13 hm13
        refine wpAnyH_done (by kernel_rfl) ?_ _
        have HEND := Lib.hid hHeld.2
        have HSE := Lib.hid hHeld.1
        clear hHeld
        clear HSE HSS
        go_wp2_with fail
        go_meet
        exact ⟨_, _, _, rfl, rfl, rfl, HG10.out, HG11.out, HNE10_11.out, HEND.out, HN10.out, HN11.out⟩
    · skip
      simp only [List.getElem_toArray, List.getElem_cons_zero, List.getElem_cons_succ]
      go_simp
      obtain ⟨b11, hw11⟩ : ∃ b, wd.heap.size = b := ⟨_, rfl⟩
      obtain ⟨y11, hy11⟩ : ∃ y, wd.alloc (.cells #[.int .i64 0, .int .i64 0] 75) = y := ⟨_, rfl⟩
      rw [hy11, hw11]
      have hx11 : Below wd.heap.size wd y11 := by rw [← hy11]; exact balloc (Below.refl _ _) _
      have HN11 : Hid (y11.heap[b11]? = some (.cells #[.int .i64 0, .int .i64 0] 75 (0, 0))) := Lib.hid (by rw [← hy11, ← hw11]; exact heap_alloc_new _ _)
      have HG11 : Hid (w2.heap.size ≤ b11) := Lib.hid (by have := HBE.out.size; omega)
      clear hy11 hw11
      have HBE := Lib.hid (bthen HBE.out hx11)
      have hSp := HSS.out _ HBE.out
      clear hHeld
      refine hK.out _ _ hSp (fun hHeld => ?_)
      clear hSp hK K
      try simp only [Act.put, List.setIfInBounds_toArray, List.set_cons_zero, List.set_cons_succ]
      clear hx11
      refine wpAnyH_ready (rs := [8, 10]) (by kernel_rfl) (by simp) ?_
      refine AllReadyH.cons rfl (fun K hK => ?_) (AllReadyH.cons rfl (fun K hK => ?_) (AllReadyH.nil))
      · skip
        simp only [List.getElem_toArray, List.getElem_cons_zero, List.getElem_cons_succ]
        go_simp
        refine (CP.out _).mono ?_
        rintro e w3 ⟨rfl, hb3⟩
        dsimp only
        have HBE := Lib.hid (bthen HBE.out hb3)
        have hSp := HSS.out _ HBE.out
        clear hHeld
        refine hK.out _ _ hSp (fun hHeld => ?_)
        clear hSp hK K
        try simp only [Act.put, List.setIfInBounds_toArray, List.set_cons_zero, List.set_cons_succ]
        have HN11 := Lib.hid ((hb3.block b11 (Array.getElem?_eq_some_iff.1 HN11.out).1).trans HN11.out)
        have HC8 := Lib.hid hb3
        clear hb3
        refine wpAnyH_take (i := 9) (v := ?_) rfl (by kernel_rfl) (by kernel_rfl) (by kernel_rfl) (fun _ _ _ h => h) (Or.inl ⟨by rfl, ?_⟩) (by assumption) ?_
        rotate_left
        · (intro w hSw; (try dsimp only at hSw); simp only [List.getElem_toArray, List.getElem_cons_zero, List.getElem_cons_succ]; go_simp; first | done | with_reducible rfl)
        simp only [List.getElem_toArray, List.getElem_cons_zero, List.getElem_cons_succ, Act.put, List.setIfInBounds_toArray, List.set_cons_zero, List.set_cons_succ]
        refine wpAnyH_ready (rs := [10]) (by kernel_rfl) (by simp) ?_
        refine AllReadyH.cons rfl (fun K hK => ?_) (AllReadyH.nil)
        simp only [List.getElem_toArray, List.getElem_cons_zero, List.getElem_cons_succ]
        go_simp
        obtain ⟨b10, hw10⟩ : ∃ b, w3.heap.size = b := ⟨_, rfl⟩
        obtain ⟨y10, hy10⟩ : ∃ y, w3.alloc (.cells #[.int .i64 0, .map none] 53) = y := ⟨_, rfl⟩
        rw [hy10, hw10]
        have hx10 : Below w3.heap.size w3 y10 := by rw [← hy10]; exact balloc (Below.refl _ _) _
        have HN10 : Hid (y10.heap[b10]? = some (.cells #[.int .i64 0, .map none] 53 (0, 0))) := Lib.hid (by rw [← hy10, ← hw10]; exact heap_alloc_new _ _)
        have HG10 : Hid (w2.heap.size ≤ b10) := Lib.hid (by have := HBE.out.size; omega)
        have HNE10_11 : Hid (b10 ≠ b11) := Lib.hid (by have := (Array.getElem?_eq_some_iff.1 HN11.out).1; omega)
        clear hy10 hw10
        have HBE := Lib.hid (bthen HBE.out hx10)
        have hSp := HSS.out _ HBE.out
        clear hHeld
        refine hK.out _ _ hSp (fun hHeld => ?_)
        clear hSp hK K
        try simp only [Act.put, List.setIfInBounds_toArray, List.set_cons_zero, List.set_cons_succ]
        have HN11 := Lib.hid ((hx10.block b11 (Array.getElem?_eq_some_iff.1 HN11.out).1).trans HN11.out)
        clear hx10
        refine wpAnyH_ready (rs := [12]) (by kernel_rfl) (by simp) ?_
        refine AllReadyH.cons rfl (fun K hK => ?_) (AllReadyH.nil)
        have hc12_0 := cellOf HN10.out 0 rfl
        have hf12_0 := frozenOf HN10.out 0
        have hc12_1 := cellOf HN10.out 1 rfl
        have hf12_1 := frozenOf HN10.out 1
        simp only [List.getElem_toArray, List.getElem_cons_zero, List.getElem_cons_succ]
        go_simp
        obtain ⟨y12, hy12⟩ : ∃ y, ((y10.setCell ⟨b10, 0, none⟩ (.int .i64 (x.1.size : Int))).setCell ⟨b10, 1, none⟩ (.map (some x.2))) = y := ⟨_, rfl⟩
        rw [hy12]
        have hm12 : Mods [b10] y10 y12 := by rw [← hy12]; exact ((Mods.refl [b10] y10).setCell (p := ⟨b10, 0, none⟩) (by simp) _).setCell (p := ⟨b10, 1, none⟩) (by simp) _
        have hv12 := setOf (setOf (HN10.out) 0 (.int .i64 (x.1.size : Int))) 1 (.map (some x.2))
        rw [hy12] at hv12
        clear hy12 hc12_0 hf12_0 hc12_1 hf12_1
        have HBE : Hid (Below w2.heap.size w2 y12) := Lib.hid (HBE.out.trans (hm12.below (fun k hk => by have := HG10.out; have e := List.mem_singleton.1 hk; omega) HBE.out.size))
        have hSp := HSS.out _ HBE.out
        clear hHeld
        refine hK.out _ _ hSp (fun hHeld => ?_)
        clear hSp hK K
        try simp only [Act.put, List.setIfInBounds_toArray, List.set_cons_zero, List.set_cons_succ]
        have HN11 := Lib.hid ((hm12.block b11 (Array.getElem?_eq_some_iff.1 HN11.out).1 (fun h => by have e := List.mem_singleton.1 h; have := HNE10_11.out; omega)).trans HN11.out)
        simp only [List.setIfInBounds_toArray, List.set_cons_zero, List.set_cons_succ] at hv12
        have HN10 := Lib.hid hv12
        clear hv12 hm12
        refine wpAnyH_ready (rs := [13]) (by kernel_rfl) (by simp) ?_
        refine AllReadyH.cons rfl (fun K hK => ?_) (AllReadyH.nil)
        have hc13_0 := cellOf HN11.out 0 rfl
        have hf13_0 := frozenOf HN11.out 0
        have hc13_1 := cellOf HN11.out 1 rfl
        have hf13_1 := frozenOf HN11.out 1
        simp only [List.getElem_toArray, List.getElem_cons_zero, List.getElem_cons_succ]
        go_simp
        obtain ⟨y13, hy13⟩ : ∃ y, ((y12.setCell ⟨b11, 0, none⟩ (.int .i64 o.pl)).setCell ⟨b11, 1, none⟩ (.int .i64 o.count)) = y := ⟨_, rfl⟩
        rw [hy13]
        have hm13 : Mods [b11] y12 y13 := by rw [← hy13]; exact ((Mods.refl [b11] y12).setCell (p := ⟨b11, 0, none⟩) (by simp) _).setCell (p := ⟨b11, 1, none⟩) (by simp) _
        have hv13 := setOf (setOf (HN11.out) 0 (.int .i64 o.pl)) 1 (.int .i64 o.count)
        rw [hy13] at hv13
        clear hy13 hc13_0 hf13_0 hc13_1 hf13_1
        have HBE : Hid (Below w2.heap.size w2 y13) := Lib.hid (HBE.out.trans (hm13.below (fun k hk => by have := HG11.out; have e := List.mem_singleton.1 hk; omega) HBE.out.size))
        have hSp := HSS.out _ HBE.out
        clear hHeld
        refine hK.out _ _ hSp (fun hHeld => ?_)
        clear hSp hK K
        try simp only [Act.put, List.setIfInBounds_toArray, List.set_cons_zero, List.set_cons_succ]
        have HN10 := Lib.hid ((hm13.block b10 (Array.getElem?_eq_some_iff.1 HN10.out).1 (fun h => by have e := List.mem_singleton.1 h; have := HNE10_11.out; omega)).trans HN10.out)
        simp only [List.setIfInBounds_toArray, List.set_cons_zero, List.set_cons_succ] at hv13
        have HN11 := Lib.hid hv13
        clear hv13 hm13
        refine wpAnyH_done (by kernel_rfl) ?_ _
        have HEND := Lib.hid hHeld.2
        have HSE := Lib.hid hHeld.1
        clear hHeld
        clear HSE HSS
        go_wp2_with fail
        go_meet
        exact ⟨_, _, _, rfl, rfl, rfl, HG10.out, HG11.out, HNE10_11.out, HEND.out, HN10.out, HN11.out⟩
      · skip
        simp only [List.getElem_toArray, List.getElem_cons_zero, List.getElem_cons_succ]
        go_simp
        obtain ⟨b10, hw10⟩ : ∃ b, y11.heap.size = b := ⟨_, rfl⟩
        obtain ⟨y10, hy10⟩ : ∃ y, y11.alloc (.cells #[.int .i64 0, .map none] 53) = y := ⟨_, rfl⟩
        rw [hy10, hw10]
        have hx10 : Below y11.heap.size y11 y10 := by rw [← hy10]; exact balloc (Below.refl _ _) _
        have HN10 : Hid (y10.heap[b10]? = some (.cells #[.int .i64 0, .map none] 53 (0, 0))) := Lib.hid (by rw [← hy10, ← hw10]; exact heap_alloc_new _ _)
        have HG10 : Hid (w2.heap.size ≤ b10) := Lib.hid (by have := HBE.out.size; omega)
        have HNE10_11 : Hid (b10 ≠ b11) := Lib.hid (by have := (Array.getElem?_eq_some_iff.1 HN11.out).1; omega)
        clear hy10 hw10
        have HBE := Lib.hid (bthen HBE.out hx10)
        have hSp := HSS.out _ HBE.out
        clear hHeld
        refine hK.out _ _ hSp (fun hHeld => ?_)
        clear hSp hK K
        try simp only [Act.put, List.setIfInBounds_toArray, List.set_cons_zero, List.set_cons_succ]
        have HN11 := Lib.hid ((hx10.block b11 (Array.getElem?_eq_some_iff.1 HN11.out).1).trans HN11.out)
        clear hx10
        refine wpAnyH_ready (rs := [8]) (by kernel_rfl) (by simp) ?_
        refine AllReadyH.cons rfl (fun K hK => ?_) (AllReadyH.nil)
        simp only [List.getElem_toArray, List.getElem_cons_zero, List.getElem_cons_succ]
        go_simp
        refine (CP.out _).mono ?_
        rintro e w3 ⟨rfl, hb3⟩
        dsimp only
        have HBE := Lib.hid (bthen HBE.out hb3)
        have hSp := HSS.out _ HBE.out
        clear hHeld
        refine hK.out _ _ hSp (fun hHeld => ?_)
        clear hSp hK K
        try simp only [Act.put, List.setIfInBounds_toArray, List.set_cons_zero, List.set_cons_succ]
        have HN11 := Lib.hid ((hb3.block b11 (Array.getElem?_eq_some_iff.1 HN11.out).1).trans HN11.out)
        have HN10 := Lib.hid ((hb3.block b10 (Array.getElem?_eq_some_iff.1 HN10.out).1).trans HN10.out)
        have HC8 := Lib.hid hb3
        clear hb3
        refine wpAnyH_take (i := 9) (v := ?_) rfl (by kernel_rfl) (by kernel_rfl) (by kernel_rfl) (fun _ _ _ h => h) (Or.inl ⟨by rfl, ?_⟩) (by assumption) ?_
        rotate_left
        · (intro w hSw; (try dsimp only at hSw); simp only [List.getElem_toArray, List.getElem_cons_zero, List.getElem_cons_succ]; go_simp; first | done | with_reducible rfl)
        simp only [List.getElem_toArray, List.getElem_cons_zero, List.getElem_cons_succ, Act.put, List.setIfInBounds_toArray, List.set_cons_zero, List.set_cons_succ]
        refine wpAnyH_ready (rs := [12]) (by kernel_rfl) (by simp) ?_
        refine AllReadyH.cons rfl (fun K hK => ?_) (AllReadyH.nil)
        have hc12_0 := cellOf HN10.out 0 rfl
        have hf12_0 := frozenOf HN10.out 0
        have hc12_1 := cellOf HN10.out 1 rfl
        have hf12_1 := frozenOf HN10.out 1
        simp only [List.getElem_toArray, List.getElem_cons_zero, List.getElem_cons_succ]
        go_simp
        obtain ⟨y12, hy12⟩ : ∃ y, ((w3.setCell ⟨b10, 0, none⟩ (.int .i64 (x.1.size : Int))).setCell ⟨b10, 1, none⟩ (.map (some x.2))) = y := ⟨_, rfl⟩
        rw [hy12]
        have hm12 : Mods [b10] w3 y12 := by rw [← hy12]; exact ((Mods.refl [b10] w3).setCell (p := ⟨b10, 0, none⟩) (by simp) _).setCell (p := ⟨b10, 1, none⟩) (by simp) _
        have hv12 := setOf (setOf (HN10.out) 0 (.int .i64 (x.1.size : Int))) 1 (.map (some x.2))
        rw [hy12] at hv12
        clear hy12 hc12_0 hf12_0 hc12_1 hf12_1
        have HBE : Hid (Below w2.heap.size w2 y12) := Lib.hid (HBE.out.trans (hm12.below (fun k hk => by have := HG10.out; have e := List.mem_singleton.1 hk; omega) HBE.out.size))
        have hSp := HSS.out _ HBE.out
        clear hHeld
        refine hK.out _ _ hSp (fun hHeld => ?_)
        clear hSp hK K
        try simp only [Act.put, List.setIfInBounds_toArray, List.set_cons_zero, List.set_cons_succ]
        have HN11 := Lib.hid ((hm12.block b11 (Array.getElem?_eq_some_iff.1 HN11.out).1 (fun h => by have e := List.mem_singleton.1 h; have := HNE10_11.out; omega)).trans HN11.out)
        simp only [List.setIfInBounds_toArray, List.set_cons_zero, List.set_cons_succ] at hv12
        have HN10 := Lib.hid hv12
        clear hv12 hm12
        refine wpAnyH_ready (rs := [13]) (by kernel_rfl) (by simp) ?_
        refine AllReadyH.cons rfl (fun K hK => ?_) (AllReadyH.nil)
        have hc13_0 := cellOf HN11.out 0 rfl
        have hf13_0 := frozenOf HN11.out 0
        have hc13_1 := cellOf HN11.out 1 rfl
        have hf13_1 := frozenOf HN11.out 1
        simp only [List.getElem_toArray, List.getElem_cons_zero, List.getElem_cons_succ]
        go_simp
        obtain ⟨y13, hy13⟩ : ∃ y, ((y12.setCell ⟨b11, 0, none⟩ (.int .i64 o.pl)).setCell ⟨b11, 1, none⟩ (.int .i64 o.count)) = y := ⟨_, rfl⟩
        rw [hy13]
        have hm13 : Mods [b11] y12 y13 := by rw [← hy13]; exact ((Mods.refl [b11] y12).setCell (p := ⟨b11, 0, none⟩) (by simp) _).setCell (p := ⟨b11, 1, none⟩) (by simp) _
        have hv13 := setOf (setOf (HN11.out) 0 (.int .i64 o.pl)) 1 (.int .i64 o.count)
        rw [hy13] at hv13
        clear hy13 hc13_0 hf13_0 hc13_1 hf13_1
        have HBE : Hid (Below w2.heap.size w2 y13) := Lib.hid (HBE.out.trans (hm13.below (fun k hk => by have := HG11.out; have e := List.mem_singleton.1 hk; omega) HBE.out.size))
        have hSp := HSS.out _ HBE.out
        clear hHeld
        refine hK.out _ _ hSp (fun hHeld => ?_)
        clear hSp hK K
        try simp only [Act.put, List.setIfInBounds_toArray, List.set_cons_zero, List.set_cons_succ]
        have HN10 := Lib.hid ((hm13.block b10 (Array.getElem?_eq_some_iff.1 HN10.out).1 (fun h => by have e := List.mem_singleton.1 h; have := HNE10_11.out; omega)).trans HN10.out)
        simp only [List.setIfInBounds_toArray, List.set_cons_zero, List.set_cons_succ] at hv13
        have HN11 := Lib.hid hv13
        clear hv13 hm13
        refine wpAnyH_done (by kernel_rfl) ?_ _
        have HEND := Lib.hid hHeld.2
        have HSE := Lib.hid hHeld.1
        clear hHeld
        clear HSE HSS
        go_wp2_with fail
        go_meet
        exact ⟨_, _, _, rfl, rfl, rfl, HG10.out, HG11.out, HNE10_11.out, HEND.out, HN10.out, HN11.out⟩
  case rest =>
    obtain ⟨W, b7, b8, rfl, rfl, rfl, hg7, hg8, hne, hbw, hn7, hn8⟩ := hcut
    obtain ⟨pn, hpn⟩ : ∃ pn : Nat, o.pl = (pn : Int) := ⟨o.pl.toNat, by have := HPL.out; omega⟩
    obtain ⟨cn, hcn⟩ : ∃ cn : Nat, o.count = (cn : Int) := ⟨o.count.toNat, by have := HCT.out; omega⟩
    have hp1 : pn ≤ 1048576 := by have := HPL.out; omega
    have hc1 : cn ≤ 1024 := by have := HCT.out; omega
    rw [hpn, hcn] at hn8
    have HE : Hid (dropA o.pl (o.pl + o.count) x.1.m = dropA (pn : Int) (((pn + cn : Nat)) : Int) x.1.m) := Lib.hid (by rw [hpn, hcn]; rfl)
    clear hpn hcn HPL HCT HPV CP
    have HBW := Lib.hid hbw
    have HN7 := Lib.hid hn7
    have HN8 := Lib.hid hn8
    have HDW := Lib.hid (HD2.out.below hbw)
    have HG7 := Lib.hid hg7
    have HG8 := Lib.hid hg8
    have HML := Lib.hid (HDW.out.vol _ (getA_some HG.out))
    have HXB : Hid (x.2 < w.heap.size) := Lib.hid ((HH.out.vol _ (getA_some HG.out)).lt)
    have HA2 := Lib.hid ((hbw.block _ (Array.getElem?_eq_some_iff.1 HBX.out.ans).1).trans HBX.out.ans)
    have HSW := Lib.hid HBX.out.sz
    have c80 := cellOf hn8 0 (v := .int .i64 (pn : Int)) rfl
    clear hbw hn7 hn8 hg7 hg8 hne HLK HX2 HLT
    go_wp2_with fail
    clear c80 t1
    go_loopw [9] (fun i wr => ∃ j : Nat, pn ≤ j ∧ j ≤ pn + cn ∧ i = .int .i64 (j : Int) ∧ MapL wr Try.prog 3 RBlk .i64 blkD x.2 (dropA (pn : Int) (j : Int) x.1.m) ∧ Mods [x.2] W wr) (fun i _ => pn + cn - (intOf i).toNat)
    case atStart => exact ⟨pn, Nat.le_refl _, by omega, rfl, by rw [dropA_none]; exact HML.out, Mods.refl _ _⟩
    case round =>
      obtain ⟨j, hj1, hj2, rfl, hml, hmod⟩ := hrel
      have HM := Lib.hid hml
      have HMO := Lib.hid hmod
      have HR7 := Lib.hid ((hmod.block b7 (Array.getElem?_eq_some_iff.1 HN7.out).1 (by have := HXB.out; have := HG7.out; have := HSW.out; simp; omega)).trans HN7.out)
      have HR8 := Lib.hid ((hmod.block b8 (Array.getElem?_eq_some_iff.1 HN8.out).1 (by have := HXB.out; have := HG8.out; have := HSW.out; simp; omega)).trans HN8.out)
      have c80 := cellOf HR8.out 0 (v := .int .i64 (pn : Int)) rfl
      have c81 := cellOf HR8.out 1 (v := .int .i64 (cn : Int)) rfl
      have c71 := cellOf HR7.out 1 (v := .map (some x.2)) rfl
      clear hml hmod
      by_cases hlt : j < pn + cn
      · obtain ⟨w5, hdel, hml5, hmod5⟩ := HM.out.del undInt undBlks (wfI64 (n := j) (by omega)) 0
        have HM5 := Lib.hid hml5
        have HO5 := Lib.hid hmod5
        clear hml5 hmod5
        go_wp2_with fail
        go_round
        case rel => exact ⟨j + 1, by omega, by omega, by go_num, by rw [show (((j + 1 : Nat)) : Int) = (j : Int) + 1 from rfl, ← dropA_del _ _ (by omega)]; exact HM5.out, HMO.out.trans HO5.out (fun i hi => .inl hi)⟩
        case measure => simp [intOf]; omega
      · obtain rfl : j = pn + cn := by omega
        have hne1 : w.heap.size + 1 ∉ [x.2] := by have := HXB.out; simp; omega
        have hxa := (HMO.out.block _ (Array.getElem?_eq_some_iff.1 HA2.out).1 hne1).trans HA2.out
        have HXA := Lib.hid hxa
        have e0 := cellOf hxa 0 (v := .int .i64 0) rfl
        have e1 := cellOf hxa 1 (v := .int .i64 0) rfl
        have e2 := cellOf hxa 2 (v := .slice none 0 0) rfl
        have f0 := frozenOf hxa 0
        have f1 := frozenOf hxa 1
        have f2 := frozenOf hxa 2
        clear hxa hne1 hlt
        go_wp2_with fail
        obtain ⟨hx4, hm4⟩ := set3 (x := .int .i64 0) (y := .int .i64 0) (z := .slice none 0 0) HXA.out
        have HD5 := HDW.out.volAt (n := o.vol) (v := x.1) (b := x.2) (m := dropA (pn : Int) ((pn + cn : Nat) : Int) x.1.m) HG.out HM.out HMO.out (dropA_ok (HDW.out.ok.vol (o.vol, x.1) (by unfold strip mapA; exact List.mem_map.2 ⟨_, getA_some HG.out, rfl⟩)) _ _)
        rw [← HE.out] at HD5
        refine bodyPost_ret (v := ansE 0 0) (resAns rfl _ _ _ _ _ _ rfl hx4) rfl ⟨rfl, HD5.kept hm4 (fun hh => ?_) (fun k hk hh => ?_), ?_⟩
        · have : B = w.heap.size + 1 := by simpa using hh
          have := HH.out.lt
          omega
        · have e : k = w.heap.size + 1 := by simpa using hh
          subst e
          rcases List.mem_cons.1 hk with e2 | hk2
          · have := HH.out.all.lt
            omega
          · obtain ⟨p, hp, he⟩ := List.mem_map.1 hk2
            rcases mem_putA hp with rfl | hp
            · have he2 : x.2 = w.heap.size + 1 := he
              have := HXB.out
              omega
            · have := (HH.out.vol p hp).lt
              omega
        · exact (((Mods.of_below (bthen HBX.out.bel HBW.out)).trans HMO.out (fun i hi => .inl hi))).trans hm4 (fun i hi => .inr (by
            have : i = w.heap.size + 1 := by simpa using hi
            omega))
end Go.Proofs.Ythkmihedkddnmaa
