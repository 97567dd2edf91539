/- Devices: read, walked. (Its head is printed by mkdev14.py.) -/
import Derived.Test.YthkmihedkddnmaaDev13
import Derived.Test.YthkmihedkddnmaaRoundD
import Derived.Test.YthkmihedkddnmaaPartItG
import Derived.Test.YthkmihedkddnmaaPartRef
namespace Go.Proofs.Ythkmihedkddnmaa
open Go.RowKit Go.Maps Wire Cmd
set_option linter.unusedVariables false
set_option linter.unusedSimpArgs false
attribute [local go_sem] Oper.semAt_some

/-- Part i, or the last one. -/
def gI (a c i : Nat) : Nat × PSpan := pItem a c (min i (pM a c - 1))
theorem gI_in {a c : Nat} {size : Nat} (hc : 1 ≤ c) (h : a + c ≤ 4 * size) (i : Nat) : SpIn size (gI a c i).2 := by
  have hp := pM_pos (a := a) hc
  have hi : min i (pM a c - 1) < pM a c := by omega
  refine ⟨?_, pFrom_lt_pTo hi, pTo_le⟩
  show a / 4 + min i (pM a c - 1) < size
  unfold pM at hi hp ⊢
  rw [if_neg (by omega)] at hi hp ⊢
  omega
theorem gI_all {a c : Nat} : ((List.range (pM a c)).map id).map (fun i => (gI a c i).2) = pSpans a c := by
  unfold pSpans
  rw [List.map_map]
  refine List.map_congr_left fun i hi => ?_
  have := List.mem_range.1 hi
  unfold gI pItem Function.comp
  dsimp only [id]
  rw [Nat.min_eq_left (by omega)]
theorem readM_len (m : List (Nat × List UInt8)) (hm : ∀ q ∈ m, q.2.length = 256) : ∀ sp : List PSpan, (readM m sp).length ≤ 256 * sp.length
  | [] => by simp [readM]
  | s :: sp => by
    have ih := readM_len m hm sp
    have e : readM m (s :: sp) = cutB (blkAt m s.blk) s.lo s.hi ++ readM m sp := rfl
    have h1 : (cutB (blkAt m s.blk) s.lo s.hi).length ≤ 256 := by
      unfold cutB
      have := blkAt_len hm s.blk
      simp only [List.length_take, List.length_drop]
      omega
    rw [e, List.length_append, List.length_cons]
    omega
set_option maxRecDepth 100000 in
set_option maxHeartbeats 6400000 in
theorem dread_in (n0 : Nat) (w : World) (B Ba : Nat) (l : List (Nat × (Vl × Nat))) (h : DevAt n0 w B Ba l) (o : Op0) (ao : Option Addr) (cap : Nat) (b : Int) (hn : o.data.length ≤ 9223372036854775807) (hmay : mayO o = true) (hk : o.k = 9) (x : Vl × Nat) (hg : getA o.vol l = some x)
    (hrow : o.pl + o.count ≤ 4 * (x.1.size : Int)) :
    CallsIn Fence.wide 5 Try.prog 29 #[.pointer (some ⟨B, 0, none⟩), .agg (oC o (.slice ao o.data.length cap)), .int .i64 b] w fun e w' => ∃ sv, e = .returned (.agg #[.int .i64 0, .int .i64 0, sv]) ∧
      w'.ownsRow w.heap.size 5 1 sv (readM x.1.m (pSpansI o.pl o.count)).length (bV (readM x.1.m (pSpansI o.pl o.count))) ∧ Below w.heap.size w w' := by
  have hro : Fence.wide.round = none := rfl
  have HH := Lib.hid h
  have HG := Lib.hid hg
  have HVOL := Lib.hid (may_vol hmay (by omega))
  have hpl := may_pl hmay (by omega)
  have hct := may_count hmay (by omega)
  have HPL := Lib.hid hpl
  have HCT := Lib.hid hct
  have HROW := Lib.hid hrow
  have HPV : Hid (partV o = .iface 74 (.agg #[.int .i64 o.pl, .int .i64 o.count])) := Lib.hid (by
    unfold partV
    rw [if_neg (by omega), if_neg (by omega), if_neg (by omega), if_pos (by omega)])
  obtain ⟨sl, hsl⟩ : ∃ s, Value.slice ao o.data.length cap = s := ⟨_, rfl⟩
  have CP : Hid (∀ X, Calls Try.prog 34 #[.agg (oC o sl)] X fun e w' => e = .returned (.iface 74 (.agg #[.int .i64 o.pl, .int .i64 o.count])) ∧ Below X.heap.size X w') := Lib.hid (fun X => by rw [← hsl, ← HPV.out]; exact part13_any o ao cap X hn)
  rw [hsl]
  clear hsl hpl hct h hk hmay hn hg hrow
  obtain ⟨w2, hw2⟩ : ∃ W, (w.alloc (.cells #[.int .i64 o.k, .int .u64 (o.vol : Int), .int .u64 (o.to : Int), .int .i64 o.size, .int .i64 o.pl, .int .i64 o.count, sl] 27)).alloc (.cells #[.int .i64 0, .int .i64 0, .slice none 0 0] 35) = W := ⟨_, rfl⟩
  have HBX : Hid (Boxes w w2 (oC o sl)) := Lib.hid (by rw [← hw2]; exact boxes w (oC o sl))
  have HD2 := Lib.hid (HH.out.below HBX.out.bel)
  have HX2 := Lib.hid HBX.out.op
  have HLT := Lib.hid (Array.getElem?_eq_some_iff.1 HX2.out).1
  have HLK : Hid (∀ X, Below w2.heap.size w2 X → (Instr.lookup 47 (.map (some Ba)) (.int .u64 (o.vol : Int)) false).run Try.prog X = .ok (.agg #[.int .i64 (x.1.size : Int), .map (some x.2)]) X) := Lib.hid (fun X hX => ((HD2.out.below hX).look (Nat.lt_trans HVOL.out.2 (by decide)) HG.out).2)
  rw [show (oC o sl) = #[.int .i64 o.k, .int .u64 (o.vol : Int), .int .u64 (o.to : Int), .int .i64 o.size, .int .i64 o.pl, .int .i64 o.count, sl] from rfl]
  have t1 := is_row
  refine callsIn_of_wp_marks Try.func29 rfl trivial ?_ hro
  refine wpIn_wide.2 ?_
  simp only [Try.ntmps29, List.size_toArray, List.length_cons, List.length_nil, Nat.reduceAdd, Nat.reduceSub, Array.replicate_succ, Array.replicate_zero, List.push_toArray, List.append_toArray, List.nil_append, List.cons_append]
  go_upto_region 1 with fail
  (try rw [hw2])
  clear hw2
  go_cut [7, 8] from 7 to 22 (fun p q wx => ∃ W b7 b8, W = wx ∧ p = .pointer (some ⟨b7, 0, none⟩) ∧ q = .pointer (some ⟨b8, 0, none⟩) ∧ w2.heap.size ≤ b7 ∧ w2.heap.size ≤ b8 ∧ b7 ≠ b8 ∧ Below w2.heap.size w2 W ∧ W.heap[b7]? = some (.cells #[.int .i64 (x.1.size : Int), .map (some x.2)] 53 (0, 0)) ∧ W.heap[b8]? = some (.cells #[.int .i64 o.pl, .int .i64 o.count] 74 (0, 0)))
  case first =>
    have HSS : Hid (∀ X, Below w2.heap.size w2 X → (X.cell? ⟨B, 0, none⟩ = some (.map (some Ba)) ∧ X.cell? ⟨w.heap.size, 0, none⟩ = some (.int .i64 o.k) ∧ X.cell? ⟨w.heap.size, 1, none⟩ = some (.int .u64 (o.vol : Int)) ∧ X.cell? ⟨w.heap.size, 2, none⟩ = some (.int .u64 (o.to : Int)) ∧ X.cell? ⟨w.heap.size, 3, none⟩ = some (.int .i64 o.size) ∧ X.cell? ⟨w.heap.size, 4, none⟩ = some (.int .i64 o.pl) ∧ X.cell? ⟨w.heap.size, 5, none⟩ = some (.int .i64 o.count) ∧ X.cell? ⟨w.heap.size, 6, none⟩ = some (sl)) ∧ Below w2.heap.size w2 X) := Lib.hid (fun X hb => ⟨⟨(World.cell?_of_block (hb.block _ (HD2.out.lt))).trans (HD2.out.cell), (World.cell?_of_block (hb.block _ (HLT.out))).trans (cellOf HX2.out 0 rfl), (World.cell?_of_block (hb.block _ (HLT.out))).trans (cellOf HX2.out 1 rfl), (World.cell?_of_block (hb.block _ (HLT.out))).trans (cellOf HX2.out 2 rfl), (World.cell?_of_block (hb.block _ (HLT.out))).trans (cellOf HX2.out 3 rfl), (World.cell?_of_block (hb.block _ (HLT.out))).trans (cellOf HX2.out 4 rfl), (World.cell?_of_block (hb.block _ (HLT.out))).trans (cellOf HX2.out 5 rfl), (World.cell?_of_block (hb.block _ (HLT.out))).trans (cellOf HX2.out 6 rfl)⟩, hb⟩)
    refine region_normal (S := fun X => (X.cell? ⟨B, 0, none⟩ = some (.map (some Ba)) ∧ X.cell? ⟨w.heap.size, 0, none⟩ = some (.int .i64 o.k) ∧ X.cell? ⟨w.heap.size, 1, none⟩ = some (.int .u64 (o.vol : Int)) ∧ X.cell? ⟨w.heap.size, 2, none⟩ = some (.int .u64 (o.to : Int)) ∧ X.cell? ⟨w.heap.size, 3, none⟩ = some (.int .i64 o.size) ∧ X.cell? ⟨w.heap.size, 4, none⟩ = some (.int .i64 o.pl) ∧ X.cell? ⟨w.heap.size, 5, none⟩ = some (.int .i64 o.count) ∧ X.cell? ⟨w.heap.size, 6, none⟩ = some (sl)) ∧ Below w2.heap.size w2 X) (by kernel_rfl) (HSS.out _ (Below.refl _ _).drew) (fun hHeld => ?_)
    have hbe : Below w2.heap.size w2 w2.drew := (Below.refl _ _).drew
    obtain ⟨wd, hwd⟩ : ∃ y, w2.drew = y := ⟨_, rfl⟩
    rw [hwd] at hHeld hbe ⊢
    have HBE := Lib.hid hbe
    have HS0 : Hid (w2.heap.size ≤ wd.heap.size) := Lib.hid HBE.out.size
    clear hwd hbe
    refine wpAnyH_take (i := 0) (v := ?_) rfl (by kernel_rfl) (by kernel_rfl) (by kernel_rfl) (fun _ _ _ h => (by cases h.1)) (Or.inl ⟨by rfl, ?_⟩) (by assumption) ?_
    rotate_left
    · (intro w hSw; (try dsimp only at hSw); simp only [List.getElem_toArray, List.getElem_cons_zero, List.getElem_cons_succ]; go_simp; first | done | with_reducible rfl)
    simp only [List.getElem_toArray, List.getElem_cons_zero, List.getElem_cons_succ, Act.put, List.setIfInBounds_toArray, List.set_cons_zero, List.set_cons_succ]
    refine wpAnyH_take (i := 4) (v := ?_) rfl (by kernel_rfl) (by kernel_rfl) (by kernel_rfl) (fun _ _ _ h => (by cases h.1)) (Or.inl ⟨by rfl, ?_⟩) (by assumption) ?_
    rotate_left
    · (intro w hSw; (try dsimp only at hSw); simp only [List.getElem_toArray, List.getElem_cons_zero, List.getElem_cons_succ]; go_simp; first | done | with_reducible rfl)
    simp only [List.getElem_toArray, List.getElem_cons_zero, List.getElem_cons_succ, Act.put, List.setIfInBounds_toArray, List.set_cons_zero, List.set_cons_succ]
    refine wpAnyH_take (i := 7) (v := ?_) rfl (by kernel_rfl) (by kernel_rfl) (by kernel_rfl) (fun _ _ _ h => (by cases h.1)) (Or.inl ⟨by rfl, ?_⟩) (by assumption) ?_
    rotate_left
    · (intro w hSw; (try dsimp only at hSw); simp only [List.getElem_toArray, List.getElem_cons_zero, List.getElem_cons_succ]; go_simp; first | done | with_reducible rfl)
    simp only [List.getElem_toArray, List.getElem_cons_zero, List.getElem_cons_succ, Act.put, List.setIfInBounds_toArray, List.set_cons_zero, List.set_cons_succ]
    refine wpAnyH_take (i := 1) (v := ?_) rfl (by kernel_rfl) (by kernel_rfl) (by kernel_rfl) (fun _ _ _ h => (by cases h.1)) (Or.inl ⟨by rfl, ?_⟩) (by assumption) ?_
    rotate_left
    · (intro w hSw; (try dsimp only at hSw); simp only [List.getElem_toArray, List.getElem_cons_zero, List.getElem_cons_succ]; go_simp; first | done | with_reducible rfl)
    simp only [List.getElem_toArray, List.getElem_cons_zero, List.getElem_cons_succ, Act.put, List.setIfInBounds_toArray, List.set_cons_zero, List.set_cons_succ]
    refine wpAnyH_take (i := 5) (v := ?_) rfl (by kernel_rfl) (by kernel_rfl) (by kernel_rfl) (fun _ _ _ h => (by cases h.1)) (Or.inl ⟨by rfl, ?_⟩) (by assumption) ?_
    rotate_left
    · (intro w hSw; (try dsimp only at hSw); simp only [List.getElem_toArray, List.getElem_cons_zero, List.getElem_cons_succ]; go_simp; first | done | with_reducible rfl)
    simp only [List.getElem_toArray, List.getElem_cons_zero, List.getElem_cons_succ, Act.put, List.setIfInBounds_toArray, List.set_cons_zero, List.set_cons_succ]
    refine wpAnyH_take (i := 2) (v := ?_) rfl (by kernel_rfl) (by kernel_rfl) (by kernel_rfl) (fun _ _ _ h => (by cases h.1)) (Or.inl ⟨by rfl, ?_⟩) (by assumption) ?_
    rotate_left
    · (intro w hSw; (try dsimp only at hSw); simp only [List.getElem_toArray, List.getElem_cons_zero, List.getElem_cons_succ]; go_simp; first | done | with_reducible rfl)
    simp only [List.getElem_toArray, List.getElem_cons_zero, List.getElem_cons_succ, Act.put, List.setIfInBounds_toArray, List.set_cons_zero, List.set_cons_succ]
    refine wpAnyH_take (i := 3) (v := ?_) rfl (by kernel_rfl) (by kernel_rfl) (by kernel_rfl) (fun _ _ _ h => (by cases h.1)) (Or.inl ⟨by rfl, ?_⟩) (by assumption) ?_
    rotate_left
    · (intro w hSw; (try dsimp only at hSw); simp only [List.getElem_toArray, List.getElem_cons_zero, List.getElem_cons_succ]; go_simp; first | done | with_reducible rfl)
    simp only [List.getElem_toArray, List.getElem_cons_zero, List.getElem_cons_succ, Act.put, List.setIfInBounds_toArray, List.set_cons_zero, List.set_cons_succ]
    refine wpAnyH_take (i := 6) (v := .agg #[.int .i64 (x.1.size : Int), .map (some x.2)]) rfl (by kernel_rfl) (by kernel_rfl) (by kernel_rfl) (fun _ _ _ h => (by cases h.1)) (Or.inl ⟨by rfl, ?_⟩) (by assumption) ?_
    · (intro w hSw; simp only [List.getElem_toArray, List.getElem_cons_zero, List.getElem_cons_succ]; (have h6 := HLK.out w hSw.2; go_simp; first | done | with_reducible rfl))
    simp only [List.getElem_toArray, List.getElem_cons_zero, List.getElem_cons_succ, Act.put, List.setIfInBounds_toArray, List.set_cons_zero, List.set_cons_succ]
    refine wpAnyH_ready (rs := [8, 10, 11]) (by kernel_rfl) (by simp) ?_
    refine AllReadyH.cons rfl (fun K hK => ?_) (AllReadyH.cons rfl (fun K hK => ?_) (AllReadyH.cons rfl (fun K hK => ?_) (AllReadyH.nil)))
    · skip
      simp only [List.getElem_toArray, List.getElem_cons_zero, List.getElem_cons_succ]
      go_simp
      refine (CP.out _).mono ?_
      rintro e w3 ⟨rfl, hb3⟩
      dsimp only
      have HBE := Lib.hid (bthen HBE.out hb3)
      have hSp := HSS.out _ HBE.out
      clear hHeld
      refine hK.out _ _ hSp (fun hHeld => ?_)
      clear hSp hK K
      try simp only [Act.put, List.setIfInBounds_toArray, List.set_cons_zero, List.set_cons_succ]
      have HC8 := Lib.hid hb3
      clear hb3
      refine wpAnyH_take (i := 9) (v := ?_) rfl (by kernel_rfl) (by kernel_rfl) (by kernel_rfl) (fun _ _ _ h => (by cases h.1)) (Or.inl ⟨by rfl, ?_⟩) (by assumption) ?_
      rotate_left
      · (intro w hSw; (try dsimp only at hSw); simp only [List.getElem_toArray, List.getElem_cons_zero, List.getElem_cons_succ]; go_simp; first | done | with_reducible rfl)
      simp only [List.getElem_toArray, List.getElem_cons_zero, List.getElem_cons_succ, Act.put, List.setIfInBounds_toArray, List.set_cons_zero, List.set_cons_succ]
      refine wpAnyH_ready (rs := [10, 11]) (by kernel_rfl) (by simp) ?_
      refine AllReadyH.cons rfl (fun K hK => ?_) (AllReadyH.cons rfl (fun K hK => ?_) (AllReadyH.nil))
      · skip
        simp only [List.getElem_toArray, List.getElem_cons_zero, List.getElem_cons_succ]
        go_simp
        obtain ⟨b10, hw10⟩ : ∃ b, w3.heap.size = b := ⟨_, rfl⟩
        obtain ⟨y10, hy10⟩ : ∃ y, w3.alloc (.cells #[.int .i64 0, .map none] 53) = y := ⟨_, rfl⟩
        rw [hy10, hw10]
        have hx10 : Below w3.heap.size w3 y10 := by rw [← hy10]; exact balloc (Below.refl _ _) _
        have HN10 : Hid (y10.heap[b10]? = some (.cells #[.int .i64 0, .map none] 53 (0, 0))) := Lib.hid (by rw [← hy10, ← hw10]; exact heap_alloc_new _ _)
        have HG10 : Hid (w2.heap.size ≤ b10) := Lib.hid (by have := HBE.out.size; omega)
        clear hy10 hw10
        have HBE := Lib.hid (bthen HBE.out hx10)
        have hSp := HSS.out _ HBE.out
        clear hHeld
        refine hK.out _ _ hSp (fun hHeld => ?_)
        clear hSp hK K
        try simp only [Act.put, List.setIfInBounds_toArray, List.set_cons_zero, List.set_cons_succ]
        clear hx10
        refine wpAnyH_ready (rs := [11]) (by kernel_rfl) (by simp) ?_
        refine AllReadyH.cons rfl (fun K hK => ?_) (AllReadyH.nil)
        simp only [List.getElem_toArray, List.getElem_cons_zero, List.getElem_cons_succ]
        go_simp
        obtain ⟨b11, hw11⟩ : ∃ b, y10.heap.size = b := ⟨_, rfl⟩
        obtain ⟨y11, hy11⟩ : ∃ y, y10.alloc (.cells #[.int .i64 0, .int .i64 0] 74) = y := ⟨_, rfl⟩
        rw [hy11, hw11]
        have hx11 : Below y10.heap.size y10 y11 := by rw [← hy11]; exact balloc (Below.refl _ _) _
        have HN11 : Hid (y11.heap[b11]? = some (.cells #[.int .i64 0, .int .i64 0] 74 (0, 0))) := Lib.hid (by rw [← hy11, ← hw11]; exact heap_alloc_new _ _)
        have HG11 : Hid (w2.heap.size ≤ b11) := Lib.hid (by have := HBE.out.size; omega)
        have HNE10_11 : Hid (b10 ≠ b11) := Lib.hid (by have := (Array.getElem?_eq_some_iff.1 HN10.out).1; omega)
        clear hy11 hw11
        have HBE := Lib.hid (bthen HBE.out hx11)
        have hSp := HSS.out _ HBE.out
        clear hHeld
        refine hK.out _ _ hSp (fun hHeld => ?_)
        clear hSp hK K
        try simp only [Act.put, List.setIfInBounds_toArray, List.set_cons_zero, List.set_cons_succ]
        have HN10 := Lib.hid ((hx11.block b10 (Array.getElem?_eq_some_iff.1 HN10.out).1).trans HN10.out)
        clear hx11
        refine wpAnyH_ready (rs := [12]) (by kernel_rfl) (by simp) ?_
        refine AllReadyH.cons rfl (fun K hK => ?_) (AllReadyH.nil)
        have hc12_0 := cellOf HN10.out 0 rfl
        have hf12_0 := frozenOf HN10.out 0
        have hc12_1 := cellOf HN10.out 1 rfl
        have hf12_1 := frozenOf HN10.out 1
        simp only [List.getElem_toArray, List.getElem_cons_zero, List.getElem_cons_succ]
        go_simp
        obtain ⟨y12, hy12⟩ : ∃ y, ((y11.setCell ⟨b10, 0, none⟩ (.int .i64 (x.1.size : Int))).setCell ⟨b10, 1, none⟩ (.map (some x.2))) = y := ⟨_, rfl⟩
        rw [hy12]
        have hm12 : Mods [b10] y11 y12 := by rw [← hy12]; exact ((Mods.refl [b10] y11).setCell (p := ⟨b10, 0, none⟩) (by simp) _).setCell (p := ⟨b10, 1, none⟩) (by simp) _
        have hv12 := setOf (setOf (HN10.out) 0 (.int .i64 (x.1.size : Int))) 1 (.map (some x.2))
        rw [hy12] at hv12
        clear hy12 hc12_0 hf12_0 hc12_1 hf12_1
        have HBE : Hid (Below w2.heap.size w2 y12) := Lib.hid (HBE.out.trans (hm12.below (fun k hk => by have := HG10.out; have e := List.mem_singleton.1 hk; omega) HBE.out.size))
        have hSp := HSS.out _ HBE.out
        clear hHeld
        refine hK.out _ _ hSp (fun hHeld => ?_)
        clear hSp hK K
        try simp only [Act.put, List.setIfInBounds_toArray, List.set_cons_zero, List.set_cons_succ]
        have HN11 := Lib.hid ((hm12.block b11 (Array.getElem?_eq_some_iff.1 HN11.out).1 (fun h => by have e := List.mem_singleton.1 h; have := HNE10_11.out; omega)).trans HN11.out)
        simp only [List.setIfInBounds_toArray, List.set_cons_zero, List.set_cons_succ] at hv12
        have HN10 := Lib.hid hv12
        clear hv12 hm12
        refine wpAnyH_ready (rs := [13]) (by kernel_rfl) (by simp) ?_
        refine AllReadyH.cons rfl (fun K hK => ?_) (AllReadyH.nil)
        have hc13_0 := cellOf HN11.out 0 rfl
        have hf13_0 := frozenOf HN11.out 0
        have hc13_1 := cellOf HN11.out 1 rfl
        have hf13_1 := frozenOf HN11.out 1
        simp only [List.getElem_toArray, List.getElem_cons_zero, List.getElem_cons_succ]
        go_simp
        obtain ⟨y13, hy13⟩ : ∃ y, ((y12.setCell ⟨b11, 0, none⟩ (.int .i64 o.pl)).setCell ⟨b11, 1, none⟩ (.int .i64 o.count)) = y := ⟨_, rfl⟩
        rw [hy13]
        have hm13 : Mods [b11] y12 y13 := by rw [← hy13]; exact ((Mods.refl [b11] y12).setCell (p := ⟨b11, 0, none⟩) (by simp) _).setCell (p := ⟨b11, 1, none⟩) (by simp) _
        have hv13 := setOf (setOf (HN11.out) 0 (.int .i64 o.pl)) 1 (.int .i64 o.count)
        rw [hy13] at hv13
        clear hy13 hc13_0 hf13_0 hc13_1 hf13_1
        have HBE : Hid (Below w2.heap.size w2 y13) := Lib.hid (HBE.out.trans (hm13.below (fun k hk => by have := HG11.out; have e := List.mem_singleton.1 hk; omega) HBE.out.size))
        have hSp := HSS.out _ HBE.out
        clear hHeld
        refine hK.out _ _ hSp (fun hHeld => ?_)
        clear hSp hK K
        try simp only [Act.put, List.setIfInBounds_toArray, List.set_cons_zero, List.set_cons_succ]
        have HN10 := Lib.hid ((hm13.block b10 (Array.getElem?_eq_some_iff.1 HN10.out).1 (fun h => by have e := List.mem_singleton.1 h; have := HNE10_11.out; omega)).trans HN10.out)
        simp only [List.setIfInBounds_toArray, List.set_cons_zero, List.set_cons_succ] at hv13
        have HN11 := Lib.hid hv13
        clear hv13 hm13
        refine wpAnyH_done (by kernel_rfl) ⟨rfl, ?_⟩ _
        have HEND := Lib.hid hHeld.2
        have HSE := Lib.hid hHeld.1
        clear hHeld
        clear HSE HSS
        go_wp2_with fail
        go_meet
        exact ⟨_, _, _, rfl, rfl, rfl, HG10.out, HG11.out, HNE10_11.out, HEND.out, HN10.out, HN11.out⟩
      · skip
        simp only [List.getElem_toArray, List.getElem_cons_zero, List.getElem_cons_succ]
        go_simp
        obtain ⟨b11, hw11⟩ : ∃ b, w3.heap.size = b := ⟨_, rfl⟩
        obtain ⟨y11, hy11⟩ : ∃ y, w3.alloc (.cells #[.int .i64 0, .int .i64 0] 74) = y := ⟨_, rfl⟩
        rw [hy11, hw11]
        have hx11 : Below w3.heap.size w3 y11 := by rw [← hy11]; exact balloc (Below.refl _ _) _
        have HN11 : Hid (y11.heap[b11]? = some (.cells #[.int .i64 0, .int .i64 0] 74 (0, 0))) := Lib.hid (by rw [← hy11, ← hw11]; exact heap_alloc_new _ _)
        have HG11 : Hid (w2.heap.size ≤ b11) := Lib.hid (by have := HBE.out.size; omega)
        clear hy11 hw11
        have HBE := Lib.hid (bthen HBE.out hx11)
        have hSp := HSS.out _ HBE.out
        clear hHeld
        refine hK.out _ _ hSp (fun hHeld => ?_)
        clear hSp hK K
        try simp only [Act.put, List.setIfInBounds_toArray, List.set_cons_zero, List.set_cons_succ]
        clear hx11
        refine wpAnyH_ready (rs := [10]) (by kernel_rfl) (by simp) ?_
        refine AllReadyH.cons rfl (fun K hK => ?_) (AllReadyH.nil)
        simp only [List.getElem_toArray, List.getElem_cons_zero, List.getElem_cons_succ]
        go_simp
        obtain ⟨b10, hw10⟩ : ∃ b, y11.heap.size = b := ⟨_, rfl⟩
        obtain ⟨y10, hy10⟩ : ∃ y, y11.alloc (.cells #[.int .i64 0, .map none] 53) = y := ⟨_, rfl⟩
        rw [hy10, hw10]
        have hx10 : Below y11.heap.size y11 y10 := by rw [← hy10]; exact balloc (Below.refl _ _) _
        have HN10 : Hid (y10.heap[b10]? = some (.cells #[.int .i64 0, .map none] 53 (0, 0))) := Lib.hid (by rw [← hy10, ← hw10]; exact heap_alloc_new _ _)
        have HG10 : Hid (w2.heap.size ≤ b10) := Lib.hid (by have := HBE.out.size; omega)
        have HNE10_11 : Hid (b10 ≠ b11) := Lib.hid (by have := (Array.getElem?_eq_some_iff.1 HN11.out).1; omega)
        clear hy10 hw10
        have HBE := Lib.hid (bthen HBE.out hx10)
        have hSp := HSS.out _ HBE.out
        clear hHeld
        refine hK.out _ _ hSp (fun hHeld => ?_)
        clear hSp hK K
        try simp only [Act.put, List.setIfInBounds_toArray, List.set_cons_zero, List.set_cons_succ]
        have HN11 := Lib.hid ((hx10.block b11 (Array.getElem?_eq_some_iff.1 HN11.out).1).trans HN11.out)
        clear hx10
        refine wpAnyH_ready (rs := [12]) (by kernel_rfl) (by simp) ?_
        refine AllReadyH.cons rfl (fun K hK => ?_) (AllReadyH.nil)
        have hc12_0 := cellOf HN10.out 0 rfl
        have hf12_0 := frozenOf HN10.out 0
        have hc12_1 := cellOf HN10.out 1 rfl
        have hf12_1 := frozenOf HN10.out 1
        simp only [List.getElem_toArray, List.getElem_cons_zero, List.getElem_cons_succ]
        go_simp
        obtain ⟨y12, hy12⟩ : ∃ y, ((y10.setCell ⟨b10, 0, none⟩ (.int .i64 (x.1.size : Int))).setCell ⟨b10, 1, none⟩ (.map (some x.2))) = y := ⟨_, rfl⟩
        rw [hy12]
        have hm12 : Mods [b10] y10 y12 := by rw [← hy12]; exact ((Mods.refl [b10] y10).setCell (p := ⟨b10, 0, none⟩) (by simp) _).setCell (p := ⟨b10, 1, none⟩) (by simp) _
        have hv12 := setOf (setOf (HN10.out) 0 (.int .i64 (x.1.size : Int))) 1 (.map (some x.2))
        rw [hy12] at hv12
        clear hy12 hc12_0 hf12_0 hc12_1 hf12_1
        have HBE : Hid (Below w2.heap.size w2 y12) := Lib.hid (HBE.out.trans (hm12.below (fun k hk => by have := HG10.out; have e := List.mem_singleton.1 hk; omega) HBE.out.size))
        have hSp := HSS.out _ HBE.out
        clear hHeld
        refine hK.out _ _ hSp (fun hHeld => ?_)
        clear hSp hK K
        try simp only [Act.put, List.setIfInBounds_toArray, List.set_cons_zero, List.set_cons_succ]
        have HN11 := Lib.hid ((hm12.block b11 (Array.getElem?_eq_some_iff.1 HN11.out).1 (fun h => by have e := List.mem_singleton.1 h; have := HNE10_11.out; omega)).trans HN11.out)
        simp only [List.setIfInBounds_toArray, List.set_cons_zero, List.set_cons_succ] at hv12
        have HN10 := Lib.hid hv12
        clear hv12 hm12
        refine wpAnyH_ready (rs := [13]) (by kernel_rfl) (by simp) ?_
        refine AllReadyH.cons rfl (fun K hK => ?_) (AllReadyH.nil)
        have hc13_0 := cellOf HN11.out 0 rfl
        have hf13_0 := frozenOf HN11.out 0
        have hc13_1 := cellOf HN11.out 1 rfl
        have hf13_1 := frozenOf HN11.out 1
        simp only [List.getElem_toArray, List.getElem_cons_zero, List.getElem_cons_succ]
        go_simp
        obtain ⟨y13, hy13⟩ : ∃ y, ((y12.setCell ⟨b11, 0, none⟩ (.int .i64 o.pl)).setCell ⟨b11, 1, none⟩ (.int .i64 o.count)) = y := ⟨_, rfl⟩
        rw [hy13]
        have hm13 : Mods [b11] y12 y13 := by rw [← hy13]; exact ((Mods.refl [b11] y12).setCell (p := ⟨b11, 0, none⟩) (by simp) _).setCell (p := ⟨b11, 1, none⟩) (by simp) _
        have hv13 := setOf (setOf (HN11.out) 0 (.int .i64 o.pl)) 1 (.int .i64 o.count)
        rw [hy13] at hv13
        clear hy13 hc13_0 hf13_0 hc13_1 hf13_1
        have HBE : Hid (Below w2.heap.size w2 y13) := Lib.hid (HBE.out.trans (hm13.below (fun k hk => by have := HG11.out; have e := List.mem_singleton.1 hk; omega) HBE.out.size))
        have hSp := HSS.out _ HBE.out
        clear hHeld
        refine hK.out _ _ hSp (fun hHeld => ?_)
        clear hSp hK K
        try simp only [Act.put, List.setIfInBounds_toArray, List.set_cons_zero, List.set_cons_succ]
        have HN10 := Lib.hid ((hm13.block b10 (Array.getElem?_eq_some_iff.1 HN10.out).1 (fun h => by have e := List.mem_singleton.1 h; have := HNE10_11.out; omega)).trans HN10.out)
        simp only [List.setIfInBounds_toArray, List.set_cons_zero, List.set_cons_succ] at hv13
        have HN11 := Lib.hid hv13
        clear hv13 hm13
        refine wpAnyH_done (by kernel_rfl) ⟨rfl, ?_⟩ _
        have HEND := Lib.hid hHeld.2
        have HSE := Lib.hid hHeld.1
        clear hHeld
        clear HSE HSS
        go_wp2_with fail
        go_meet
        exact ⟨_, _, _, rfl, rfl, rfl, HG10.out, HG11.out, HNE10_11.out, HEND.out, HN10.out, HN11.out⟩
    · skip
      simp only [List.getElem_toArray, List.getElem_cons_zero, List.getElem_cons_succ]
      go_simp
      obtain ⟨b10, hw10⟩ : ∃ b, wd.heap.size = b := ⟨_, rfl⟩
      obtain ⟨y10, hy10⟩ : ∃ y, wd.alloc (.cells #[.int .i64 0, .map none] 53) = y := ⟨_, rfl⟩
      rw [hy10, hw10]
      have hx10 : Below wd.heap.size wd y10 := by rw [← hy10]; exact balloc (Below.refl _ _) _
      have HN10 : Hid (y10.heap[b10]? = some (.cells #[.int .i64 0, .map none] 53 (0, 0))) := Lib.hid (by rw [← hy10, ← hw10]; exact heap_alloc_new _ _)
      have HG10 : Hid (w2.heap.size ≤ b10) := Lib.hid (by have := HBE.out.size; omega)
      clear hy10 hw10
      have HBE := Lib.hid (bthen HBE.out hx10)
      have hSp := HSS.out _ HBE.out
      clear hHeld
      refine hK.out _ _ hSp (fun hHeld => ?_)
      clear hSp hK K
      try simp only [Act.put, List.setIfInBounds_toArray, List.set_cons_zero, List.set_cons_succ]
      clear hx10
      refine wpAnyH_ready (rs := [8, 11]) (by kernel_rfl) (by simp) ?_
      refine AllReadyH.cons rfl (fun K hK => ?_) (AllReadyH.cons rfl (fun K hK => ?_) (AllReadyH.nil))
      · skip
        simp only [List.getElem_toArray, List.getElem_cons_zero, List.getElem_cons_succ]
        go_simp
        refine (CP.out _).mono ?_
        rintro e w3 ⟨rfl, hb3⟩
        dsimp only
        have HBE := Lib.hid (bthen HBE.out hb3)
        have hSp := HSS.out _ HBE.out
        clear hHeld
        refine hK.out _ _ hSp (fun hHeld => ?_)
        clear hSp hK K
        try simp only [Act.put, List.setIfInBounds_toArray, List.set_cons_zero, List.set_cons_succ]
        have HN10 := Lib.hid ((hb3.block b10 (Array.getElem?_eq_some_iff.1 HN10.out).1).trans HN10.out)
        have HC8 := Lib.hid hb3
        clear hb3
        refine wpAnyH_take (i := 9) (v := ?_) rfl (by kernel_rfl) (by kernel_rfl) (by kernel_rfl) (fun _ _ _ h => (by cases h.1)) (Or.inl ⟨by rfl, ?_⟩) (by assumption) ?_
        rotate_left
        · (intro w hSw; (try dsimp only at hSw); simp only [List.getElem_toArray, List.getElem_cons_zero, List.getElem_cons_succ]; go_simp; first | done | with_reducible rfl)
        simp only [List.getElem_toArray, List.getElem_cons_zero, List.getElem_cons_succ, Act.put, List.setIfInBounds_toArray, List.set_cons_zero, List.set_cons_succ]
        refine wpAnyH_ready (rs := [11]) (by kernel_rfl) (by simp) ?_
        refine AllReadyH.cons rfl (fun K hK => ?_) (AllReadyH.nil)
        simp only [List.getElem_toArray, List.getElem_cons_zero, List.getElem_cons_succ]
        go_simp
        obtain ⟨b11, hw11⟩ : ∃ b, w3.heap.size = b := ⟨_, rfl⟩
        obtain ⟨y11, hy11⟩ : ∃ y, w3.alloc (.cells #[.int .i64 0, .int .i64 0] 74) = y := ⟨_, rfl⟩
        rw [hy11, hw11]
        have hx11 : Below w3.heap.size w3 y11 := by rw [← hy11]; exact balloc (Below.refl _ _) _
        have HN11 : Hid (y11.heap[b11]? = some (.cells #[.int .i64 0, .int .i64 0] 74 (0, 0))) := Lib.hid (by rw [← hy11, ← hw11]; exact heap_alloc_new _ _)
        have HG11 : Hid (w2.heap.size ≤ b11) := Lib.hid (by have := HBE.out.size; omega)
        have HNE10_11 : Hid (b10 ≠ b11) := Lib.hid (by have := (Array.getElem?_eq_some_iff.1 HN10.out).1; omega)
        clear hy11 hw11
        have HBE := Lib.hid (bthen HBE.out hx11)
        have hSp := HSS.out _ HBE.out
        clear hHeld
        refine hK.out _ _ hSp (fun hHeld => ?_)
        clear hSp hK K
        try simp only [Act.put, List.setIfInBounds_toArray, List.set_cons_zero, List.set_cons_succ]
        have HN10 := Lib.hid ((hx11.block b10 (Array.getElem?_eq_some_iff.1 HN10.out).1).trans HN10.out)
        clear hx11
        refine wpAnyH_ready (rs := [12]) (by kernel_rfl) (by simp) ?_
        refine AllReadyH.cons rfl (fun K hK => ?_) (AllReadyH.nil)
        have hc12_0 := cellOf HN10.out 0 rfl
        have hf12_0 := frozenOf HN10.out 0
        have hc12_1 := cellOf HN10.out 1 rfl
        have hf12_1 := frozenOf HN10.out 1
        simp only [List.getElem_toArray, List.getElem_cons_zero, List.getElem_cons_succ]
        go_simp
        obtain ⟨y12, hy12⟩ : ∃ y, ((y11.setCell ⟨b10, 0, none⟩ (.int .i64 (x.1.size : Int))).setCell ⟨b10, 1, none⟩ (.map (some x.2))) = y := ⟨_, rfl⟩
        rw [hy12]
        have hm12 : Mods [b10] y11 y12 := by rw [← hy12]; exact ((Mods.refl [b10] y11).setCell (p := ⟨b10, 0, none⟩) (by simp) _).setCell (p := ⟨b10, 1, none⟩) (by simp) _
        have hv12 := setOf (setOf (HN10.out) 0 (.int .i64 (x.1.size : Int))) 1 (.map (some x.2))
        rw [hy12] at hv12
        clear hy12 hc12_0 hf12_0 hc12_1 hf12_1
        have HBE : Hid (Below w2.heap.size w2 y12) := Lib.hid (HBE.out.trans (hm12.below (fun k hk => by have := HG10.out; have e := List.mem_singleton.1 hk; omega) HBE.out.size))
        have hSp := HSS.out _ HBE.out
        clear hHeld
        refine hK.out _ _ hSp (fun hHeld => ?_)
        clear hSp hK K
        try simp only [Act.put, List.setIfInBounds_toArray, List.set_cons_zero, List.set_cons_succ]
        have HN11 := Lib.hid ((hm12.block b11 (Array.getElem?_eq_some_iff.1 HN11.out).1 (fun h => by have e := List.mem_singleton.1 h; have := HNE10_11.out; omega)).trans HN11.out)
        simp only [List.setIfInBounds_toArray, List.set_cons_zero, List.set_cons_succ] at hv12
        have HN10 := Lib.hid hv12
        clear hv12 hm12
        refine wpAnyH_ready (rs := [13]) (by kernel_rfl) (by simp) ?_
        refine AllReadyH.cons rfl (fun K hK => ?_) (AllReadyH.nil)
        have hc13_0 := cellOf HN11.out 0 rfl
        have hf13_0 := frozenOf HN11.out 0
        have hc13_1 := cellOf HN11.out 1 rfl
        have hf13_1 := frozenOf HN11.out 1
        simp only [List.getElem_toArray, List.getElem_cons_zero, List.getElem_cons_succ]
        go_simp
        obtain ⟨y13, hy13⟩ : ∃ y, ((y12.setCell ⟨b11, 0, none⟩ (.int .i64 o.pl)).setCell ⟨b11, 1, none⟩ (.int .i64 o.count)) = y := ⟨_, rfl⟩
        rw [hy13]
        have hm13 : Mods [b11] y12 y13 := by rw [← hy13]; exact ((Mods.refl [b11] y12).setCell (p := ⟨b11, 0, none⟩) (by simp) _).setCell (p := ⟨b11, 1, none⟩) (by simp) _
        have hv13 := setOf (setOf (HN11.out) 0 (.int .i64 o.pl)) 1 (.int .i64 o.count)
        rw [hy13] at hv13
        clear hy13 hc13_0 hf13_0 hc13_1 hf13_1
        have HBE : Hid (Below w2.heap.size w2 y13) := Lib.hid (HBE.out.trans (hm13.below (fun k hk => by have := HG11.out; have e := List.mem_singleton.1 hk; omega) HBE.out.size))
        have hSp := HSS.out _ HBE.out
        clear hHeld
        refine hK.out _ _ hSp (fun hHeld => ?_)
        clear hSp hK K
        try simp only [Act.put, List.setIfInBounds_toArray, List.set_cons_zero, List.set_cons_succ]
        have HN10 := Lib.hid ((hm13.block b10 (Array.getElem?_eq_some_iff.1 HN10.out).1 (fun h => by have e := List.mem_singleton.1 h; have := HNE10_11.out; omega)).trans HN10.out)
        simp only [List.setIfInBounds_toArray, List.set_cons_zero, List.set_cons_succ] at hv13
        have HN11 := Lib.hid hv13
        clear hv13 hm13
        refine wpAnyH_done (by kernel_rfl) ⟨rfl, ?_⟩ _
        have HEND := Lib.hid hHeld.2
        have HSE := Lib.hid hHeld.1
        clear hHeld
        clear HSE HSS
        go_wp2_with fail
        go_meet
        exact ⟨_, _, _, rfl, rfl, rfl, HG10.out, HG11.out, HNE10_11.out, HEND.out, HN10.out, HN11.out⟩
      · skip
        simp only [List.getElem_toArray, List.getElem_cons_zero, List.getElem_cons_succ]
        go_simp
        obtain ⟨b11, hw11⟩ : ∃ b, y10.heap.size = b := ⟨_, rfl⟩
        obtain ⟨y11, hy11⟩ : ∃ y, y10.alloc (.cells #[.int .i64 0, .int .i64 0] 74) = y := ⟨_, rfl⟩
        rw [hy11, hw11]
        have hx11 : Below y10.heap.size y10 y11 := by rw [← hy11]; exact balloc (Below.refl _ _) _
        have HN11 : Hid (y11.heap[b11]? = some (.cells #[.int .i64 0, .int .i64 0] 74 (0, 0))) := Lib.hid (by rw [← hy11, ← hw11]; exact heap_alloc_new _ _)
        have HG11 : Hid (w2.heap.size ≤ b11) := Lib.hid (by have := HBE.out.size; omega)
        have HNE10_11 : Hid (b10 ≠ b11) := Lib.hid (by have := (Array.getElem?_eq_some_iff.1 HN10.out).1; omega)
        clear hy11 hw11
        have HBE := Lib.hid (bthen HBE.out hx11)
        have hSp := HSS.out _ HBE.out
        clear hHeld
        refine hK.out _ _ hSp (fun hHeld => ?_)
        clear hSp hK K
        try simp only [Act.put, List.setIfInBounds_toArray, List.set_cons_zero, List.set_cons_succ]
        have HN10 := Lib.hid ((hx11.block b10 (Array.getElem?_eq_some_iff.1 HN10.out).1).trans HN10.out)
        clear hx11
        refine wpAnyH_ready (rs := [8]) (by kernel_rfl) (by simp) ?_
        refine AllReadyH.cons rfl (fun K hK => ?_) (AllReadyH.nil)
        simp only [List.getElem_toArray, List.getElem_cons_zero, List.getElem_cons_succ]
        go_simp
        refine (CP.out _).mono ?_
        rintro e w3 ⟨rfl, hb3⟩
        dsimp only
        have HBE := Lib.hid (bthen HBE.out hb3)
        have hSp := HSS.out _ HBE.out
        clear hHeld
        refine hK.out _ _ hSp (fun hHeld => ?_)
        clear hSp hK K
        try simp only [Act.put, List.setIfInBounds_toArray, List.set_cons_zero, List.set_cons_succ]
        have HN10 := Lib.hid ((hb3.block b10 (Array.getElem?_eq_some_iff.1 HN10.out).1).trans HN10.out)
        have HN11 := Lib.hid ((hb3.block b11 (Array.getElem?_eq_some_iff.1 HN11.out).1).trans HN11.out)
        have HC8 := Lib.hid hb3
        clear hb3
        refine wpAnyH_take (i := 9) (v := ?_) rfl (by kernel_rfl) (by kernel_rfl) (by kernel_rfl) (fun _ _ _ h => (by cases h.1)) (Or.inl ⟨by rfl, ?_⟩) (by assumption) ?_
        rotate_left
        · (intro w hSw; (try dsimp only at hSw); simp only [List.getElem_toArray, List.getElem_cons_zero, List.getElem_cons_succ]; go_simp; first | done | with_reducible rfl)
        simp only [List.getElem_toArray, List.getElem_cons_zero, List.getElem_cons_succ, Act.put, List.setIfInBounds_toArray, List.set_cons_zero, List.set_cons_succ]
        refine wpAnyH_ready (rs := [12]) (by kernel_rfl) (by simp) ?_
        refine AllReadyH.cons rfl (fun K hK => ?_) (AllReadyH.nil)
        have hc12_0 := cellOf HN10.out 0 rfl
        have hf12_0 := frozenOf HN10.out 0
        have hc12_1 := cellOf HN10.out 1 rfl
        have hf12_1 := frozenOf HN10.out 1
        simp only [List.getElem_toArray, List.getElem_cons_zero, List.getElem_cons_succ]
        go_simp
        obtain ⟨y12, hy12⟩ : ∃ y, ((w3.setCell ⟨b10, 0, none⟩ (.int .i64 (x.1.size : Int))).setCell ⟨b10, 1, none⟩ (.map (some x.2))) = y := ⟨_, rfl⟩
        rw [hy12]
        have hm12 : Mods [b10] w3 y12 := by rw [← hy12]; exact ((Mods.refl [b10] w3).setCell (p := ⟨b10, 0, none⟩) (by simp) _).setCell (p := ⟨b10, 1, none⟩) (by simp) _
        have hv12 := setOf (setOf (HN10.out) 0 (.int .i64 (x.1.size : Int))) 1 (.map (some x.2))
        rw [hy12] at hv12
        clear hy12 hc12_0 hf12_0 hc12_1 hf12_1
        have HBE : Hid (Below w2.heap.size w2 y12) := Lib.hid (HBE.out.trans (hm12.below (fun k hk => by have := HG10.out; have e := List.mem_singleton.1 hk; omega) HBE.out.size))
        have hSp := HSS.out _ HBE.out
        clear hHeld
        refine hK.out _ _ hSp (fun hHeld => ?_)
        clear hSp hK K
        try simp only [Act.put, List.setIfInBounds_toArray, List.set_cons_zero, List.set_cons_succ]
        have HN11 := Lib.hid ((hm12.block b11 (Array.getElem?_eq_some_iff.1 HN11.out).1 (fun h => by have e := List.mem_singleton.1 h; have := HNE10_11.out; omega)).trans HN11.out)
        simp only [List.setIfInBounds_toArray, List.set_cons_zero, List.set_cons_succ] at hv12
        have HN10 := Lib.hid hv12
        clear hv12 hm12
        refine wpAnyH_ready (rs := [13]) (by kernel_rfl) (by simp) ?_
        refine AllReadyH.cons rfl (fun K hK => ?_) (AllReadyH.nil)
        have hc13_0 := cellOf HN11.out 0 rfl
        have hf13_0 := frozenOf HN11.out 0
        have hc13_1 := cellOf HN11.out 1 rfl
        have hf13_1 := frozenOf HN11.out 1
        simp only [List.getElem_toArray, List.getElem_cons_zero, List.getElem_cons_succ]
        go_simp
        obtain ⟨y13, hy13⟩ : ∃ y, ((y12.setCell ⟨b11, 0, none⟩ (.int .i64 o.pl)).setCell ⟨b11, 1, none⟩ (.int .i64 o.count)) = y := ⟨_, rfl⟩
        rw [hy13]
        have hm13 : Mods [b11] y12 y13 := by rw [← hy13]; exact ((Mods.refl [b11] y12).setCell (p := ⟨b11, 0, none⟩) (by simp) _).setCell (p := ⟨b11, 1, none⟩) (by simp) _
        have hv13 := setOf (setOf (HN11.out) 0 (.int .i64 o.pl)) 1 (.int .i64 o.count)
        rw [hy13] at hv13
        clear hy13 hc13_0 hf13_0 hc13_1 hf13_1
        have HBE : Hid (Below w2.heap.size w2 y13) := Lib.hid (HBE.out.trans (hm13.below (fun k hk => by have := HG11.out; have e := List.mem_singleton.1 hk; omega) HBE.out.size))
        have hSp := HSS.out _ HBE.out
        clear hHeld
        refine hK.out _ _ hSp (fun hHeld => ?_)
        clear hSp hK K
        try simp only [Act.put, List.setIfInBounds_toArray, List.set_cons_zero, List.set_cons_succ]
        have HN10 := Lib.hid ((hm13.block b10 (Array.getElem?_eq_some_iff.1 HN10.out).1 (fun h => by have e := List.mem_singleton.1 h; have := HNE10_11.out; omega)).trans HN10.out)
        simp only [List.setIfInBounds_toArray, List.set_cons_zero, List.set_cons_succ] at hv13
        have HN11 := Lib.hid hv13
        clear hv13 hm13
        refine wpAnyH_done (by kernel_rfl) ⟨rfl, ?_⟩ _
        have HEND := Lib.hid hHeld.2
        have HSE := Lib.hid hHeld.1
        clear hHeld
        clear HSE HSS
        go_wp2_with fail
        go_meet
        exact ⟨_, _, _, rfl, rfl, rfl, HG10.out, HG11.out, HNE10_11.out, HEND.out, HN10.out, HN11.out⟩
    · skip
      simp only [List.getElem_toArray, List.getElem_cons_zero, List.getElem_cons_succ]
      go_simp
      obtain ⟨b11, hw11⟩ : ∃ b, wd.heap.size = b := ⟨_, rfl⟩
      obtain ⟨y11, hy11⟩ : ∃ y, wd.alloc (.cells #[.int .i64 0, .int .i64 0] 74) = y := ⟨_, rfl⟩
      rw [hy11, hw11]
      have hx11 : Below wd.heap.size wd y11 := by rw [← hy11]; exact balloc (Below.refl _ _) _
      have HN11 : Hid (y11.heap[b11]? = some (.cells #[.int .i64 0, .int .i64 0] 74 (0, 0))) := Lib.hid (by rw [← hy11, ← hw11]; exact heap_alloc_new _ _)
      have HG11 : Hid (w2.heap.size ≤ b11) := Lib.hid (by have := HBE.out.size; omega)
      clear hy11 hw11
      have HBE := Lib.hid (bthen HBE.out hx11)
      have hSp := HSS.out _ HBE.out
      clear hHeld
      refine hK.out _ _ hSp (fun hHeld => ?_)
      clear hSp hK K
      try simp only [Act.put, List.setIfInBounds_toArray, List.set_cons_zero, List.set_cons_succ]
      clear hx11
      refine wpAnyH_ready (rs := [8, 10]) (by kernel_rfl) (by simp) ?_
      refine AllReadyH.cons rfl (fun K hK => ?_) (AllReadyH.cons rfl (fun K hK => ?_) (AllReadyH.nil))
      · skip
        simp only [List.getElem_toArray, List.getElem_cons_zero, List.getElem_cons_succ]
        go_simp
        refine (CP.out _).mono ?_
        rintro e w3 ⟨rfl, hb3⟩
        dsimp only
        have HBE := Lib.hid (bthen HBE.out hb3)
        have hSp := HSS.out _ HBE.out
        clear hHeld
        refine hK.out _ _ hSp (fun hHeld => ?_)
        clear hSp hK K
        try simp only [Act.put, List.setIfInBounds_toArray, List.set_cons_zero, List.set_cons_succ]
        have HN11 := Lib.hid ((hb3.block b11 (Array.getElem?_eq_some_iff.1 HN11.out).1).trans HN11.out)
        have HC8 := Lib.hid hb3
        clear hb3
        refine wpAnyH_take (i := 9) (v := ?_) rfl (by kernel_rfl) (by kernel_rfl) (by kernel_rfl) (fun _ _ _ h => (by cases h.1)) (Or.inl ⟨by rfl, ?_⟩) (by assumption) ?_
        rotate_left
        · (intro w hSw; (try dsimp only at hSw); simp only [List.getElem_toArray, List.getElem_cons_zero, List.getElem_cons_succ]; go_simp; first | done | with_reducible rfl)
        simp only [List.getElem_toArray, List.getElem_cons_zero, List.getElem_cons_succ, Act.put, List.setIfInBounds_toArray, List.set_cons_zero, List.set_cons_succ]
        refine wpAnyH_ready (rs := [10]) (by kernel_rfl) (by simp) ?_
        refine AllReadyH.cons rfl (fun K hK => ?_) (AllReadyH.nil)
        simp only [List.getElem_toArray, List.getElem_cons_zero, List.getElem_cons_succ]
        go_simp
        obtain ⟨b10, hw10⟩ : ∃ b, w3.heap.size = b := ⟨_, rfl⟩
        obtain ⟨y10, hy10⟩ : ∃ y, w3.alloc (.cells #[.int .i64 0, .map none] 53) = y := ⟨_, rfl⟩
        rw [hy10, hw10]
        have hx10 : Below w3.heap.size w3 y10 := by rw [← hy10]; exact balloc (Below.refl _ _) _
        have HN10 : Hid (y10.heap[b10]? = some (.cells #[.int .i64 0, .map none] 53 (0, 0))) := Lib.hid (by rw [← hy10, ← hw10]; exact heap_alloc_new _ _)
        have HG10 : Hid (w2.heap.size ≤ b10) := Lib.hid (by have := HBE.out.size; omega)
        have HNE10_11 : Hid (b10 ≠ b11) := Lib.hid (by have := (Array.getElem?_eq_some_iff.1 HN11.out).1; omega)
        clear hy10 hw10
        have HBE := Lib.hid (bthen HBE.out hx10)
        have hSp := HSS.out _ HBE.out
        clear hHeld
        refine hK.out _ _ hSp (fun hHeld => ?_)
        clear hSp hK K
        try simp only [Act.put, List.setIfInBounds_toArray, List.set_cons_zero, List.set_cons_succ]
        have HN11 := Lib.hid ((hx10.block b11 (Array.getElem?_eq_some_iff.1 HN11.out).1).trans HN11.out)
        clear hx10
        refine wpAnyH_ready (rs := [12]) (by kernel_rfl) (by simp) ?_
        refine AllReadyH.cons rfl (fun K hK => ?_) (AllReadyH.nil)
        have hc12_0 := cellOf HN10.out 0 rfl
        have hf12_0 := frozenOf HN10.out 0
        have hc12_1 := cellOf HN10.out 1 rfl
        have hf12_1 := frozenOf HN10.out 1
        simp only [List.getElem_toArray, List.getElem_cons_zero, List.getElem_cons_succ]
        go_simp
        obtain ⟨y12, hy12⟩ : ∃ y, ((y10.setCell ⟨b10, 0, none⟩ (.int .i64 (x.1.size : Int))).setCell ⟨b10, 1, none⟩ (.map (some x.2))) = y := ⟨_, rfl⟩
        rw [hy12]
        have hm12 : Mods [b10] y10 y12 := by rw [← hy12]; exact ((Mods.refl [b10] y10).setCell (p := ⟨b10, 0, none⟩) (by simp) _).setCell (p := ⟨b10, 1, none⟩) (by simp) _
        have hv12 := setOf (setOf (HN10.out) 0 (.int .i64 (x.1.size : Int))) 1 (.map (some x.2))
        rw [hy12] at hv12
        clear hy12 hc12_0 hf12_0 hc12_1 hf12_1
        have HBE : Hid (Below w2.heap.size w2 y12) := Lib.hid (HBE.out.trans (hm12.below (fun k hk => by have := HG10.out; have e := List.mem_singleton.1 hk; omega) HBE.out.size))
        have hSp := HSS.out _ HBE.out
        clear hHeld
        refine hK.out _ _ hSp (fun hHeld => ?_)
        clear hSp hK K
        try simp only [Act.put, List.setIfInBounds_toArray, List.set_cons_zero, List.set_cons_succ]
        have HN11 := Lib.hid ((hm12.block b11 (Array.getElem?_eq_some_iff.1 HN11.out).1 (fun h => by have e := List.mem_singleton.1 h; have := HNE10_11.out; omega)).trans HN11.out)
        simp only [List.setIfInBounds_toArray, List.set_cons_zero, List.set_cons_succ] at hv12
        have HN10 := Lib.hid hv12
        clear hv12 hm12
        refine wpAnyH_ready (rs := [13]) (by kernel_rfl) (by simp) ?_
        refine AllReadyH.cons rfl (fun K hK => ?_) (AllReadyH.nil)
        have hc13_0 := cellOf HN11.out 0 rfl
        have hf13_0 := frozenOf HN11.out 0
        have hc13_1 := cellOf HN11.out 1 rfl
        have hf13_1 := frozenOf HN11.out 1
        simp only [List.getElem_toArray, List.getElem_cons_zero, List.getElem_cons_succ]
        go_simp
        obtain ⟨y13, hy13⟩ : ∃ y, ((y12.setCell ⟨b11, 0, none⟩ (.int .i64 o.pl)).setCell ⟨b11, 1, none⟩ (.int .i64 o.count)) = y := ⟨_, rfl⟩
        rw [hy13]
        have hm13 : Mods [b11] y12 y13 := by rw [← hy13]; exact ((Mods.refl [b11] y12).setCell (p := ⟨b11, 0, none⟩) (by simp) _).setCell (p := ⟨b11, 1, none⟩) (by simp) _
        have hv13 := setOf (setOf (HN11.out) 0 (.int .i64 o.pl)) 1 (.int .i64 o.count)
        rw [hy13] at hv13
        clear hy13 hc13_0 hf13_0 hc13_1 hf13_1
        have HBE : Hid (Below w2.heap.size w2 y13) := Lib.hid (HBE.out.trans (hm13.below (fun k hk => by have := HG11.out; have e := List.mem_singleton.1 hk; omega) HBE.out.size))
        have hSp := HSS.out _ HBE.out
        clear hHeld
        refine hK.out _ _ hSp (fun hHeld => ?_)
        clear hSp hK K
        try simp only [Act.put, List.setIfInBounds_toArray, List.set_cons_zero, List.set_cons_succ]
        have HN10 := Lib.hid ((hm13.block b10 (Array.getElem?_eq_some_iff.1 HN10.out).1 (fun h => by have e := List.mem_singleton.1 h; have := HNE10_11.out; omega)).trans HN10.out)
        simp only [List.setIfInBounds_toArray, List.set_cons_zero, List.set_cons_succ] at hv13
        have HN11 := Lib.hid hv13
        clear hv13 hm13
        refine wpAnyH_done (by kernel_rfl) ⟨rfl, ?_⟩ _
        have HEND := Lib.hid hHeld.2
        have HSE := Lib.hid hHeld.1
        clear hHeld
        clear HSE HSS
        go_wp2_with fail
        go_meet
        exact ⟨_, _, _, rfl, rfl, rfl, HG10.out, HG11.out, HNE10_11.out, HEND.out, HN10.out, HN11.out⟩
      · skip
        simp only [List.getElem_toArray, List.getElem_cons_zero, List.getElem_cons_succ]
        go_simp
        obtain ⟨b10, hw10⟩ : ∃ b, y11.heap.size = b := ⟨_, rfl⟩
        obtain ⟨y10, hy10⟩ : ∃ y, y11.alloc (.cells #[.int .i64 0, .map none] 53) = y := ⟨_, rfl⟩
        rw [hy10, hw10]
        have hx10 : Below y11.heap.size y11 y10 := by rw [← hy10]; exact balloc (Below.refl _ _) _
        have HN10 : Hid (y10.heap[b10]? = some (.cells #[.int .i64 0, .map none] 53 (0, 0))) := Lib.hid (by rw [← hy10, ← hw10]; exact heap_alloc_new _ _)
        have HG10 : Hid (w2.heap.size ≤ b10) := Lib.hid (by have := HBE.out.size; omega)
        have HNE10_11 : Hid (b10 ≠ b11) := Lib.hid (by have := (Array.getElem?_eq_some_iff.1 HN11.out).1; omega)
        clear hy10 hw10
        have HBE := Lib.hid (bthen HBE.out hx10)
        have hSp := HSS.out _ HBE.out
        clear hHeld
        refine hK.out _ _ hSp (fun hHeld => ?_)
        clear hSp hK K
        try simp only [Act.put, List.setIfInBounds_toArray, List.set_cons_zero, List.set_cons_succ]
        have HN11 := Lib.hid ((hx10.block b11 (Array.getElem?_eq_some_iff.1 HN11.out).1).trans HN11.out)
        clear hx10
        refine wpAnyH_ready (rs := [8]) (by kernel_rfl) (by simp) ?_
        refine AllReadyH.cons rfl (fun K hK => ?_) (AllReadyH.nil)
        simp only [List.getElem_toArray, List.getElem_cons_zero, List.getElem_cons_succ]
        go_simp
        refine (CP.out _).mono ?_
        rintro e w3 ⟨rfl, hb3⟩
        dsimp only
        have HBE := Lib.hid (bthen HBE.out hb3)
        have hSp := HSS.out _ HBE.out
        clear hHeld
        refine hK.out _ _ hSp (fun hHeld => ?_)
        clear hSp hK K
        try simp only [Act.put, List.setIfInBounds_toArray, List.set_cons_zero, List.set_cons_succ]
        have HN11 := Lib.hid ((hb3.block b11 (Array.getElem?_eq_some_iff.1 HN11.out).1).trans HN11.out)
        have HN10 := Lib.hid ((hb3.block b10 (Array.getElem?_eq_some_iff.1 HN10.out).1).trans HN10.out)
        have HC8 := Lib.hid hb3
        clear hb3
        refine wpAnyH_take (i := 9) (v := ?_) rfl (by kernel_rfl) (by kernel_rfl) (by kernel_rfl) (fun _ _ _ h => (by cases h.1)) (Or.inl ⟨by rfl, ?_⟩) (by assumption) ?_
        rotate_left
        · (intro w hSw; (try dsimp only at hSw); simp only [List.getElem_toArray, List.getElem_cons_zero, List.getElem_cons_succ]; go_simp; first | done | with_reducible rfl)
        simp only [List.getElem_toArray, List.getElem_cons_zero, List.getElem_cons_succ, Act.put, List.setIfInBounds_toArray, List.set_cons_zero, List.set_cons_succ]
        refine wpAnyH_ready (rs := [12]) (by kernel_rfl) (by simp) ?_
        refine AllReadyH.cons rfl (fun K hK => ?_) (AllReadyH.nil)
        have hc12_0 := cellOf HN10.out 0 rfl
        have hf12_0 := frozenOf HN10.out 0
        have hc12_1 := cellOf HN10.out 1 rfl
        have hf12_1 := frozenOf HN10.out 1
        simp only [List.getElem_toArray, List.getElem_cons_zero, List.getElem_cons_succ]
        go_simp
        obtain ⟨y12, hy12⟩ : ∃ y, ((w3.setCell ⟨b10, 0, none⟩ (.int .i64 (x.1.size : Int))).setCell ⟨b10, 1, none⟩ (.map (some x.2))) = y := ⟨_, rfl⟩
        rw [hy12]
        have hm12 : Mods [b10] w3 y12 := by rw [← hy12]; exact ((Mods.refl [b10] w3).setCell (p := ⟨b10, 0, none⟩) (by simp) _).setCell (p := ⟨b10, 1, none⟩) (by simp) _
        have hv12 := setOf (setOf (HN10.out) 0 (.int .i64 (x.1.size : Int))) 1 (.map (some x.2))
        rw [hy12] at hv12
        clear hy12 hc12_0 hf12_0 hc12_1 hf12_1
        have HBE : Hid (Below w2.heap.size w2 y12) := Lib.hid (HBE.out.trans (hm12.below (fun k hk => by have := HG10.out; have e := List.mem_singleton.1 hk; omega) HBE.out.size))
        have hSp := HSS.out _ HBE.out
        clear hHeld
        refine hK.out _ _ hSp (fun hHeld => ?_)
        clear hSp hK K
        try simp only [Act.put, List.setIfInBounds_toArray, List.set_cons_zero, List.set_cons_succ]
        have HN11 := Lib.hid ((hm12.block b11 (Array.getElem?_eq_some_iff.1 HN11.out).1 (fun h => by have e := List.mem_singleton.1 h; have := HNE10_11.out; omega)).trans HN11.out)
        simp only [List.setIfInBounds_toArray, List.set_cons_zero, List.set_cons_succ] at hv12
        have HN10 := Lib.hid hv12
        clear hv12 hm12
        refine wpAnyH_ready (rs := [13]) (by kernel_rfl) (by simp) ?_
        refine AllReadyH.cons rfl (fun K hK => ?_) (AllReadyH.nil)
        have hc13_0 := cellOf HN11.out 0 rfl
        have hf13_0 := frozenOf HN11.out 0
        have hc13_1 := cellOf HN11.out 1 rfl
        have hf13_1 := frozenOf HN11.out 1
        simp only [List.getElem_toArray, List.getElem_cons_zero, List.getElem_cons_succ]
        go_simp
        obtain ⟨y13, hy13⟩ : ∃ y, ((y12.setCell ⟨b11, 0, none⟩ (.int .i64 o.pl)).setCell ⟨b11, 1, none⟩ (.int .i64 o.count)) = y := ⟨_, rfl⟩
        rw [hy13]
        have hm13 : Mods [b11] y12 y13 := by rw [← hy13]; exact ((Mods.refl [b11] y12).setCell (p := ⟨b11, 0, none⟩) (by simp) _).setCell (p := ⟨b11, 1, none⟩) (by simp) _
        have hv13 := setOf (setOf (HN11.out) 0 (.int .i64 o.pl)) 1 (.int .i64 o.count)
        rw [hy13] at hv13
        clear hy13 hc13_0 hf13_0 hc13_1 hf13_1
        have HBE : Hid (Below w2.heap.size w2 y13) := Lib.hid (HBE.out.trans (hm13.below (fun k hk => by have := HG11.out; have e := List.mem_singleton.1 hk; omega) HBE.out.size))
        have hSp := HSS.out _ HBE.out
        clear hHeld
        refine hK.out _ _ hSp (fun hHeld => ?_)
        clear hSp hK K
        try simp only [Act.put, List.setIfInBounds_toArray, List.set_cons_zero, List.set_cons_succ]
        have HN10 := Lib.hid ((hm13.block b10 (Array.getElem?_eq_some_iff.1 HN10.out).1 (fun h => by have e := List.mem_singleton.1 h; have := HNE10_11.out; omega)).trans HN10.out)
        simp only [List.setIfInBounds_toArray, List.set_cons_zero, List.set_cons_succ] at hv13
        have HN11 := Lib.hid hv13
        clear hv13 hm13
        refine wpAnyH_done (by kernel_rfl) ⟨rfl, ?_⟩ _
        have HEND := Lib.hid hHeld.2
        have HSE := Lib.hid hHeld.1
        clear hHeld
        clear HSE HSS
        go_wp2_with fail
        go_meet
        exact ⟨_, _, _, rfl, rfl, rfl, HG10.out, HG11.out, HNE10_11.out, HEND.out, HN10.out, HN11.out⟩
  case rest =>
    obtain ⟨W, b7, b8, rfl, rfl, rfl, hg7, hg8, hne, hbw, hn7, hn8⟩ := hcut
    have HBW := Lib.hid hbw
    have HN7 := Lib.hid hn7
    have HN8 := Lib.hid hn8
    have HDW := Lib.hid (HD2.out.below hbw)
    have HG7 := Lib.hid hg7
    have HG8 := Lib.hid hg8
    have HML := Lib.hid (HDW.out.vol _ (getA_some HG.out))
    have HXB : Hid (x.2 < w.heap.size) := Lib.hid ((HH.out.vol _ (getA_some HG.out)).lt)
    have HA2 := Lib.hid ((hbw.block _ (Array.getElem?_eq_some_iff.1 HBX.out.ans).1).trans HBX.out.ans)
    have HSW := Lib.hid HBX.out.sz
    obtain ⟨pn, hpn⟩ : ∃ pn : Nat, o.pl = (pn : Int) := ⟨o.pl.toNat, by have := HPL.out; omega⟩
    obtain ⟨cn, hcn⟩ : ∃ cn : Nat, o.count = (cn : Int) := ⟨o.count.toNat, by have := HCT.out; omega⟩
    have hp1 : pn ≤ 1048576 := by have := HPL.out; omega
    have hc1 : 1 ≤ cn ∧ cn ≤ 1024 := by have := HCT.out; omega
    have HSPI : Hid (∀ i, SpIn x.1.size (gI pn cn i).2) := Lib.hid (gI_in hc1.1 (by have := HROW.out; omega))
    have HE : Hid (pSpansI o.pl o.count = pSpans pn cn) := Lib.hid (by
      have ho : pOk o.pl o.count = true := by simp only [pOk, Bool.and_eq_true, decide_eq_true_eq]; omega
      unfold pSpansI
      rw [if_pos ho, hpn, hcn]
      rfl)
    rw [hpn, hcn] at hn8
    have c80 := cellOf hn8 0 (v := .int .i64 (pn : Int)) rfl
    have c81 := cellOf hn8 1 (v := .int .i64 (cn : Int)) rfl
    have HN8 := Lib.hid hn8
    clear hpn hcn
    have hl8 : b8 < W.heap.size := (Array.getElem?_eq_some_iff.1 hn8).1
    clear hbw hn7 hn8 hg7 hg8 hne HLK HX2 HLT t1
    go_wp2_with fail
    refine (over_any _ _ _).mono ?_
    rintro e w4 ⟨rfl, rfl⟩
    go_wp2_with fail
    have b0 := Boxed.new W 25 (.slice none 0 0)
    have c1 := newCell (W.alloc (.cells #[.slice none 0 0] 25)) (.int .i64 (pn : Int)) 3
    have c2 := newCell ((W.alloc (.cells #[.slice none 0 0] 25)).alloc (.cells #[.int .i64 (pn : Int)] 3)) (.int .i64 (cn : Int)) 3
    simp only [World.size_alloc] at c1 c2
    have b2 := (b0.alloc (.cells #[.int .i64 (pn : Int)] 3)).alloc (.cells #[.int .i64 (cn : Int)] 3)
    have hB0 : Below W.heap.size W (((W.alloc (.cells #[.slice none 0 0] 25)).alloc (.cells #[.int .i64 (pn : Int)] 3)).alloc (.cells #[.int .i64 (cn : Int)] 3)) := balloc (balloc (balloc (Below.refl _ _) _) _) _
    have hlen : pM pn cn ≤ 1024 := Nat.le_trans pM_le hc1.2
    have HMOK := Lib.hid (HDW.out.ok.vol (o.vol, x.1) (by unfold strip mapA; exact List.mem_map.2 ⟨_, getA_some HG.out, rfl⟩))
    have HLW : Hid (w.heap.size + 2 ≤ W.heap.size ∧ b7 < W.heap.size) := Lib.hid ⟨by have := HSW.out; have := HBW.out.size; omega, (Array.getElem?_eq_some_iff.1 HN7.out).1⟩
    clear c80 c81 hl8
    refine wpIn_wide.1 (wpIn_rangeFunc_ownH (n := 5) hro (by omega) (gf := 50) (lb := #[.pointer (some ⟨W.heap.size + 1, 0, none⟩), .pointer (some ⟨W.heap.size + 1 + 1, 0, none⟩)]) rfl trivial (enters_of Try.func50 (by kernel_rfl) rfl)
      (over_stopsG (gI pn cn) id Fence.wide (5 - 1) trivial hro (by omega) (W.heap.size + 1) pn cn (fun i hi => by unfold gI; rw [Nat.min_eq_left (by show i ≤ _; omega)]; rfl) (by omega) hc1.1 _ (by simp) (FpOut W.heap.size) (fun Y o k hW h => FpOut.alloc (by simp at hW; omega) o h)
        (fun Y hW => ⟨fun k hk => by have h1 := FpOut.start (by simp; omega) b2.cell Y hW hk; have := hW.size; simp at this; omega,
          fun hk => by have h1 := FpOut.start (by simp; omega) b2.cell Y hW hk; omega, fun hk => by have h1 := FpOut.start (by simp; omega) b2.cell Y hW hk; omega⟩) (cellAlloc _ c1.1) c2.1)
      KpF.trans (KpF.put (FpOut.put (by simp; omega))) (Below.refl _ _) (fun _ => rfl)
      (fun pre Y => (∃ v, Boxed Y W.heap.size 25 v ∧ Y.ownsRow W.heap.size 5 1 v (readM x.1.m (pre.map fun i => (gI pn cn i).2)).length (bV (readM x.1.m (pre.map fun i => (gI pn cn i).2))) ∧ True) ∧ Below W.heap.size W Y)
      (fun _ _ _ => False)
      (OwnFrom.and (Own.from (holdsRow_own W.heap.size W.heap.size 25 5 1 (fun pre : List Nat => (readM x.1.m (pre.map fun i => (gI pn cn i).2)).length) (fun pre => bV (readM x.1.m (pre.map fun i => (gI pn cn i).2))) (fun _ _ => True)) _) (ownFrom_below (Nat.le_refl _) (by simp; omega)))
      (fun _ _ _ _ _ hs _ _ => hs)
      ⟨⟨_, b2, World.ownsRow_nil _ _ _ _, trivial⟩, hB0⟩
      (fun y a' Y => ∃ Bs, W.heap.size < Bs ∧ Y.heap[Bs]? = some (.cells #[.int .i64 (gI pn cn y).2.blk, .int .i64 (gI pn cn y).2.lo, .int .i64 (gI pn cn y).2.hi] 81 (0, 0)) ∧ a' = { tmps := #[.pointer (some ⟨B, 0, none⟩), .agg #[.int .i64 o.k, .int .u64 (o.vol : Int), .int .u64 (o.to : Int), .int .i64 o.size, .int .i64 o.pl, .int .i64 o.count, sl], .int .i64 b, undef, .pointer (some ⟨w.heap.size, 0, none⟩), undef, .pointer (some ⟨w.heap.size + 1, 0, none⟩), .pointer (some ⟨b7, 0, none⟩), .pointer (some ⟨b8, 0, none⟩), .pointer (some ⟨W.heap.size, 0, none⟩), u10, .pointer (some ⟨Bs, 0, none⟩), u12, u13, u14, u15, u16, u17, u18, u19, u20, u21, .pointer (some ⟨b8, 0, none⟩), .int .i64 (pn : Int), .pointer (some ⟨b8, 1, none⟩), .int .i64 (cn : Int), .func (.func 50) #[] #[.pointer (some ⟨W.heap.size + 1, 0, none⟩), .pointer (some ⟨W.heap.size + 1 + 1, 0, none⟩)], .int .i64 (gI pn cn y).1, spanV (gI pn cn y).2, undef, undef, undef, undef, undef, undef, undef, undef, undef, undef, undef], defers := [] })
      (fun y a' _ A C row hs hg hr => by
        obtain ⟨Bs, h1, h2, h3⟩ := hs
        exact ⟨Bs, h1, rowKept h2 hg (fun r e => (hr r e).2), h3⟩) ?assign ?body ?done ?stop)
    case assign =>
      rintro l pre y Y K ⟨⟨v, hv, hrow, hpre⟩, hB⟩ hK
      have hlt := hv.lt
      have hsz := hB.size
      simp [itemVs, spanV]
      gi_wp2
      exact hK _ _ ((KeepsOthers.alloc _ _).from _) (KpF.alloc (KpF.refl _ _) _ (fun k h => FpOut.alloc hlt _ h)) ⟨⟨v, hv.alloc _, hrow.alloc _, hpre⟩, balloc hB _⟩ ⟨Y.heap.size, hlt, heap_alloc_new Y _, rfl⟩
    case body =>
      rintro l pre y a' Y hl ⟨r, hr⟩ ⟨⟨v, hv, hrow, _⟩, hB⟩ ⟨Bs, hBs, hs, rfl⟩ hlt
      obtain ⟨s, hsg⟩ : ∃ s, (gI pn cn y).2 = s := ⟨_, rfl⟩
      have HSI1 : Hid (s.blk < 256 ∧ s.lo < s.hi ∧ s.hi ≤ 4) := Lib.hid (by have h1 := HSPI.out y; rw [hsg] at h1; have h2 := HMOK.out.size; have h3 : x.1.size ≤ 256 := h2; unfold SpIn at h1; omega)
      have HSG := Lib.hid hsg
      rw [hsg] at hs ⊢
      clear hsg
      have HV := Lib.hid hv
      have HROWB := Lib.hid hrow
      have HBY := Lib.hid hB
      have HS := Lib.hid hs
      have HLT := Lib.hid hlt
      have HBK := Lib.hid (blkAt_len (m := x.1.m) HMOK.out.blk s.blk)
      have HN7Y := Lib.hid ((hB.block b7 HLW.out.2).trans HN7.out)
      have HMY := Lib.hid (HML.out.below hB)
      have HNX : Hid (∀ i, i < W.heap.size → i ∉ (W.heap.size :: ob v)) := Lib.hid (fun i hi hh => by
        rcases List.mem_cons.1 hh with h | h
        · omega
        · have := ownsRow_ge HROWB.out i h
          omega)
      have HNS : Hid (Bs ∉ (W.heap.size :: ob v)) := Lib.hid (fun hh => by
        rcases List.mem_cons.1 hh with h | h
        · omega
        · exact ob_tag HROWB.out HS.out (by decide) h)
      have HLEN : Hid (((readM x.1.m (pre.map fun i => (gI pn cn i).2)).length + (s.hi - s.lo) * 64) * 1 ≤ 140737488355328) := Lib.hid (by
        have h1 := readM_len x.1.m HMOK.out.blk (pre.map fun i => (gI pn cn i).2)
        rw [List.length_map] at h1
        have := HSI1.out
        omega)
      have HRS : Hid (readM x.1.m ((pre ++ [y]).map fun i => (gI pn cn i).2) = readM x.1.m (pre.map fun i => (gI pn cn i).2) ++ cutB (blkAt x.1.m s.blk) s.lo s.hi) := Lib.hid (by
        rw [List.map_append, List.map_cons, List.map_nil, HSG.out, readM_snoc])
      have HCL : Hid ((cutB (blkAt x.1.m s.blk) s.lo s.hi).length = (s.hi - s.lo) * 64) := Lib.hid (by
        have := HSI1.out
        unfold cutB
        simp only [List.length_take, List.length_drop, HBK.out]
        omega)
      obtain ⟨R, hR⟩ : ∃ R, readM x.1.m (pre.map fun i => (gI pn cn i).2) = R := ⟨_, rfl⟩
      rw [hR] at HROWB HLEN HRS
      clear hv hrow hB hs hlt b0 b2 c1 c2 hB0 hR hr
      gi_wp2
      have HSS : Hid (∀ X, Mods (W.heap.size :: ob v) Y X → (X.cell? ⟨b7, 1, none⟩ = some (.map (some x.2)) ∧ X.cell? ⟨Bs, 0, none⟩ = some (.int .i64 (s.blk : Int)) ∧ X.cell? ⟨Bs, 1, none⟩ = some (.int .i64 (s.lo : Int)) ∧ X.cell? ⟨Bs, 2, none⟩ = some (.int .i64 (s.hi : Int))) ∧ Mods (W.heap.size :: ob v) Y X) := Lib.hid (fun X hb => ⟨⟨(World.cell?_of_block (hb.block _ ((Array.getElem?_eq_some_iff.1 HN7Y.out).1) (HNX.out b7 HLW.out.2))).trans (cellOf HN7Y.out 1 rfl), (World.cell?_of_block (hb.block _ ((Array.getElem?_eq_some_iff.1 HS.out).1) (HNS.out))).trans (cellOf HS.out 0 rfl), (World.cell?_of_block (hb.block _ ((Array.getElem?_eq_some_iff.1 HS.out).1) (HNS.out))).trans (cellOf HS.out 1 rfl), (World.cell?_of_block (hb.block _ ((Array.getElem?_eq_some_iff.1 HS.out).1) (HNS.out))).trans (cellOf HS.out 2 rfl)⟩, hb⟩)
      refine region_round (S := fun X => (X.cell? ⟨b7, 1, none⟩ = some (.map (some x.2)) ∧ X.cell? ⟨Bs, 0, none⟩ = some (.int .i64 (s.blk : Int)) ∧ X.cell? ⟨Bs, 1, none⟩ = some (.int .i64 (s.lo : Int)) ∧ X.cell? ⟨Bs, 2, none⟩ = some (.int .i64 (s.hi : Int))) ∧ Mods (W.heap.size :: ob v) Y X) (by kernel_rfl) (by kernel_rfl) (HSS.out _ (Mods.of_below (Below.refl _ _).drew)) (fun hHeld => ?_)
      have hbe : Below Y.heap.size Y Y.drew := (Below.refl _ _).drew
      obtain ⟨wd, hwd⟩ : ∃ y, Y.drew = y := ⟨_, rfl⟩
      rw [hwd] at hHeld hbe ⊢
      have HBE := Lib.hid hbe
      have HS0 : Hid (Y.heap.size ≤ wd.heap.size) := Lib.hid HBE.out.size
      clear hwd hbe
      refine wpAnyH_take (i := 1) (v := ?_) rfl (by kernel_rfl) (by kernel_rfl) (by kernel_rfl) (fun _ _ _ h => (by cases h.1)) (Or.inl ⟨by rfl, ?_⟩) (by assumption) ?_
      rotate_left
      · (intro w hSw; (try dsimp only at hSw); simp only [List.getElem_toArray, List.getElem_cons_zero, List.getElem_cons_succ]; go_simp; first | done | with_reducible rfl)
      simp only [List.getElem_toArray, List.getElem_cons_zero, List.getElem_cons_succ, Act.put, List.setIfInBounds_toArray, List.set_cons_zero, List.set_cons_succ]
      refine wpAnyH_take (i := 3) (v := ?_) rfl (by kernel_rfl) (by kernel_rfl) (by kernel_rfl) (fun _ _ _ h => (by cases h.1)) (Or.inl ⟨by rfl, ?_⟩) (by assumption) ?_
      rotate_left
      · (intro w hSw; (try dsimp only at hSw); simp only [List.getElem_toArray, List.getElem_cons_zero, List.getElem_cons_succ]; go_simp; first | done | with_reducible rfl)
      simp only [List.getElem_toArray, List.getElem_cons_zero, List.getElem_cons_succ, Act.put, List.setIfInBounds_toArray, List.set_cons_zero, List.set_cons_succ]
      refine wpAnyH_take (i := 6) (v := ?_) rfl (by kernel_rfl) (by kernel_rfl) (by kernel_rfl) (fun _ _ _ h => (by cases h.1)) (Or.inl ⟨by rfl, ?_⟩) (by assumption) ?_
      rotate_left
      · (intro w hSw; (try dsimp only at hSw); simp only [List.getElem_toArray, List.getElem_cons_zero, List.getElem_cons_succ]; go_simp; first | done | with_reducible rfl)
      simp only [List.getElem_toArray, List.getElem_cons_zero, List.getElem_cons_succ, Act.put, List.setIfInBounds_toArray, List.set_cons_zero, List.set_cons_succ]
      refine wpAnyH_take (i := 2) (v := ?_) rfl (by kernel_rfl) (by kernel_rfl) (by kernel_rfl) (fun _ _ _ h => (by cases h.1)) (Or.inl ⟨by rfl, ?_⟩) (by assumption) ?_
      rotate_left
      · (intro w hSw; (try dsimp only at hSw); simp only [List.getElem_toArray, List.getElem_cons_zero, List.getElem_cons_succ]; go_simp; first | done | with_reducible rfl)
      simp only [List.getElem_toArray, List.getElem_cons_zero, List.getElem_cons_succ, Act.put, List.setIfInBounds_toArray, List.set_cons_zero, List.set_cons_succ]
      refine wpAnyH_take (i := 4) (v := ?_) rfl (by kernel_rfl) (by kernel_rfl) (by kernel_rfl) (fun _ _ _ h => (by cases h.1)) (Or.inl ⟨by rfl, ?_⟩) (by assumption) ?_
      rotate_left
      · (intro w hSw; (try dsimp only at hSw); simp only [List.getElem_toArray, List.getElem_cons_zero, List.getElem_cons_succ]; go_simp; first | done | with_reducible rfl)
      simp only [List.getElem_toArray, List.getElem_cons_zero, List.getElem_cons_succ, Act.put, List.setIfInBounds_toArray, List.set_cons_zero, List.set_cons_succ]
      refine wpAnyH_take (i := 5) (v := bA (blkAt x.1.m s.blk)) rfl (by kernel_rfl) (by kernel_rfl) (by kernel_rfl) (fun _ _ _ h => (by cases h.1)) (Or.inl ⟨by rfl, ?_⟩) (by assumption) ?_
      · (intro w hSw; simp only [List.getElem_toArray, List.getElem_cons_zero, List.getElem_cons_succ]; (have h6 := (HMY.out.mods hSw.2 (HNX.out x.2 (by have h1 := HXB.out; have h2 := HLW.out.1; omega))).blk (n := s.blk) (by have := HSI1.out; omega); go_simp; first | done | with_reducible rfl))
      simp only [List.getElem_toArray, List.getElem_cons_zero, List.getElem_cons_succ, Act.put, List.setIfInBounds_toArray, List.set_cons_zero, List.set_cons_succ]
      refine wpAnyH_ready (rs := [0, 7]) (by kernel_rfl) (by simp) ?_
      refine AllReadyH.cons rfl (fun K hK => ?_) (AllReadyH.cons rfl (fun K hK => ?_) (AllReadyH.nil))
      · skip
        have hrd := (World.cell?_of_block (HBE.out.block W.heap.size HV.out.lt)).trans HV.out.cell
        simp only [List.getElem_toArray, List.getElem_cons_zero, List.getElem_cons_succ]
        go_simp
        clear hrd
        have hSp := HSS.out _ (Mods.of_below HBE.out)
        clear hHeld
        refine hK.out _ _ hSp (fun hHeld => ?_)
        clear hSp hK K
        try simp only [Act.put, List.setIfInBounds_toArray, List.set_cons_zero, List.set_cons_succ]
        refine wpAnyH_ready (rs := [7]) (by kernel_rfl) (by simp) ?_
        refine AllReadyH.cons rfl (fun K hK => ?_) (AllReadyH.nil)
        simp only [List.getElem_toArray, List.getElem_cons_zero, List.getElem_cons_succ]
        go_simp
        refine (cut_ok (blkAt x.1.m s.blk) HBK.out (s.blk : Int) s.lo s.hi HSI1.out.2.1 HSI1.out.2.2 _).mono ?_
        rintro e w7 ⟨v7, rfl, ho7, hb7⟩
        dsimp only
        have HBE := Lib.hid (bthen HBE.out hb7)
        have hSp := HSS.out _ (Mods.of_below HBE.out)
        clear hHeld
        refine hK.out _ _ hSp (fun hHeld => ?_)
        clear hSp hK K
        try simp only [Act.put, List.setIfInBounds_toArray, List.set_cons_zero, List.set_cons_succ]
        have HC7 := Lib.hid hb7
        clear hb7
        refine wpAnyH_ready (rs := [8]) (by kernel_rfl) (by simp) ?_
        refine AllReadyH.cons rfl (fun K hK => ?_) (AllReadyH.nil)
        simp only [List.getElem_toArray, List.getElem_cons_zero, List.getElem_cons_succ]
        rw [if_pos (by rfl)]
        refine wp_apps _ _ 25 rfl W.heap.size 5 _ 1 1 Try.underlying25 infoByte rfl (by decide) (by decide) v _ _ (by rfl) (ownsRow_below HROWB.out HBE.out) _ ((s.hi - s.lo) * 64) _ (by rfl) (Rd.of_own ho7) (bV_one _) HLEN.out (Nat.le_trans HBY.out.size HBE.out.size) ?_
        intro v8 w8 ho8 hb8 hg8 hs8 hn8
        refine hK.out _ _ ?_ (fun hHeld => ?_)
        · exact HSS.out _ ((Mods.of_below HBE.out).trans (Chg.of_grown hg8 hs8).1 (fun i hi => .inl (List.mem_cons_of_mem _ hi)))
        clear hK K
        try simp only [Act.put, List.setIfInBounds_toArray, List.set_cons_zero, List.set_cons_succ]
        have hm8 : Mods (W.heap.size :: ob v) Y w8 := (Mods.of_below HBE.out).trans (Chg.of_grown hg8 hs8).1 (fun i hi => .inl (List.mem_cons_of_mem _ hi))
        have hvw : Boxed w7 W.heap.size 25 v := (HBE.out.block W.heap.size HV.out.lt).trans HV.out
        have hrw9 := ownsRow_below HROWB.out HBE.out
        obtain ⟨ao8, cap8, hv8, _⟩ := Rd.of_own ho8
        subst hv8
        obtain ⟨hbx, hkp, hbx2⟩ := KpF.app hvw (by decide) hrw9 hg8 hs8 ho8
        have HKF := Lib.hid ((KpF.ofBelow HV.out.lt HBE.out).trans hkp)
        have HKP := Lib.hid (keeps_app (C := W.heap.size + 1 + 1 + 1) (u := .slice ao8 (R.length + (s.hi - s.lo) * 64) cap8) HBE.out hvw hrw9 hg8 hbx)
        have HBX2 := Lib.hid hbx2
        have HO8 := Lib.hid ho8
        have HBX1 := Lib.hid hbx
        have HM8 := Lib.hid hm8
        clear hvw hrw9 hbx hkp hbx2 ho8 hb8 hg8 hs8 hn8 hm8
        refine wpAnyH_ready (rs := [9]) (by kernel_rfl) (by simp) ?_
        refine AllReadyH.cons rfl (fun K hK => ?_) (AllReadyH.nil)
        have hc9 := HBX1.out.cell
        have hf9 := HBX1.out.frozen
        simp only [List.getElem_toArray, List.getElem_cons_zero, List.getElem_cons_succ]
        go_simp
        refine hK.out _ _ ?_ (fun hHeld => ?_)
        · exact HSS.out _ (HM8.out.setCell (p := ⟨W.heap.size, 0, none⟩) (List.mem_cons_self ..) _)
        clear hK K
        try simp only [Act.put, List.setIfInBounds_toArray, List.set_cons_zero, List.set_cons_succ]
        refine wpAnyH_done (by kernel_rfl) ⟨rfl, ?_⟩ _
        have HEND := Lib.hid hHeld.2
        have HSE := Lib.hid hHeld.1
        clear hHeld
        clear HSE HSS
        gi_wp2
        refine ⟨?_, HKF.out, ⟨_, HBX2.out, ?_, trivial⟩, ?_⟩
        · have := HKP.out
          simpa using this
        · rw [HRS.out, List.length_append, HCL.out, show bV (R ++ cutB (blkAt x.1.m s.blk) s.lo s.hi) = bV R ++ bV (cutB (blkAt x.1.m s.blk) s.lo s.hi) from by unfold bV; rw [List.map_append]]
          exact ownsRow_at HO8.out (fun k hk => Below.heap_setCell _ ⟨W.heap.size, 0, none⟩ _ k (fun e => by
            have e2 : k = W.heap.size := e
            rw [e2] at hk
            exact ob_tag HO8.out (show w8.heap[W.heap.size]? = some (.cells #[v] 25 (0, 0)) from HBX1.out) (by decide) hk))
        · exact HBY.out.trans (HEND.out.below (fun k hk => by
            rcases List.mem_cons.1 hk with h | h
            · omega
            · exact ownsRow_ge HROWB.out k h) HBY.out.size)
      · skip
        simp only [List.getElem_toArray, List.getElem_cons_zero, List.getElem_cons_succ]
        go_simp
        refine (cut_ok (blkAt x.1.m s.blk) HBK.out (s.blk : Int) s.lo s.hi HSI1.out.2.1 HSI1.out.2.2 _).mono ?_
        rintro e w7 ⟨v7, rfl, ho7, hb7⟩
        dsimp only
        have HBE := Lib.hid (bthen HBE.out hb7)
        have hSp := HSS.out _ (Mods.of_below HBE.out)
        clear hHeld
        refine hK.out _ _ hSp (fun hHeld => ?_)
        clear hSp hK K
        try simp only [Act.put, List.setIfInBounds_toArray, List.set_cons_zero, List.set_cons_succ]
        have HC7 := Lib.hid hb7
        clear hb7
        refine wpAnyH_ready (rs := [0]) (by kernel_rfl) (by simp) ?_
        refine AllReadyH.cons rfl (fun K hK => ?_) (AllReadyH.nil)
        have hrd := (World.cell?_of_block (HBE.out.block W.heap.size HV.out.lt)).trans HV.out.cell
        simp only [List.getElem_toArray, List.getElem_cons_zero, List.getElem_cons_succ]
        go_simp
        clear hrd
        have hSp := HSS.out _ (Mods.of_below HBE.out)
        clear hHeld
        refine hK.out _ _ hSp (fun hHeld => ?_)
        clear hSp hK K
        try simp only [Act.put, List.setIfInBounds_toArray, List.set_cons_zero, List.set_cons_succ]
        refine wpAnyH_ready (rs := [8]) (by kernel_rfl) (by simp) ?_
        refine AllReadyH.cons rfl (fun K hK => ?_) (AllReadyH.nil)
        simp only [List.getElem_toArray, List.getElem_cons_zero, List.getElem_cons_succ]
        rw [if_pos (by rfl)]
        refine wp_apps _ _ 25 rfl W.heap.size 5 _ 1 1 Try.underlying25 infoByte rfl (by decide) (by decide) v _ _ (by rfl) (ownsRow_below HROWB.out HBE.out) _ ((s.hi - s.lo) * 64) _ (by rfl) (Rd.of_own ho7) (bV_one _) HLEN.out (Nat.le_trans HBY.out.size HBE.out.size) ?_
        intro v8 w8 ho8 hb8 hg8 hs8 hn8
        refine hK.out _ _ ?_ (fun hHeld => ?_)
        · exact HSS.out _ ((Mods.of_below HBE.out).trans (Chg.of_grown hg8 hs8).1 (fun i hi => .inl (List.mem_cons_of_mem _ hi)))
        clear hK K
        try simp only [Act.put, List.setIfInBounds_toArray, List.set_cons_zero, List.set_cons_succ]
        have hm8 : Mods (W.heap.size :: ob v) Y w8 := (Mods.of_below HBE.out).trans (Chg.of_grown hg8 hs8).1 (fun i hi => .inl (List.mem_cons_of_mem _ hi))
        have hvw : Boxed w7 W.heap.size 25 v := (HBE.out.block W.heap.size HV.out.lt).trans HV.out
        have hrw9 := ownsRow_below HROWB.out HBE.out
        obtain ⟨ao8, cap8, hv8, _⟩ := Rd.of_own ho8
        subst hv8
        obtain ⟨hbx, hkp, hbx2⟩ := KpF.app hvw (by decide) hrw9 hg8 hs8 ho8
        have HKF := Lib.hid ((KpF.ofBelow HV.out.lt HBE.out).trans hkp)
        have HKP := Lib.hid (keeps_app (C := W.heap.size + 1 + 1 + 1) (u := .slice ao8 (R.length + (s.hi - s.lo) * 64) cap8) HBE.out hvw hrw9 hg8 hbx)
        have HBX2 := Lib.hid hbx2
        have HO8 := Lib.hid ho8
        have HBX1 := Lib.hid hbx
        have HM8 := Lib.hid hm8
        clear hvw hrw9 hbx hkp hbx2 ho8 hb8 hg8 hs8 hn8 hm8
        refine wpAnyH_ready (rs := [9]) (by kernel_rfl) (by simp) ?_
        refine AllReadyH.cons rfl (fun K hK => ?_) (AllReadyH.nil)
        have hc9 := HBX1.out.cell
        have hf9 := HBX1.out.frozen
        simp only [List.getElem_toArray, List.getElem_cons_zero, List.getElem_cons_succ]
        go_simp
        refine hK.out _ _ ?_ (fun hHeld => ?_)
        · exact HSS.out _ (HM8.out.setCell (p := ⟨W.heap.size, 0, none⟩) (List.mem_cons_self ..) _)
        clear hK K
        try simp only [Act.put, List.setIfInBounds_toArray, List.set_cons_zero, List.set_cons_succ]
        refine wpAnyH_done (by kernel_rfl) ⟨rfl, ?_⟩ _
        have HEND := Lib.hid hHeld.2
        have HSE := Lib.hid hHeld.1
        clear hHeld
        clear HSE HSS
        gi_wp2
        refine ⟨?_, HKF.out, ⟨_, HBX2.out, ?_, trivial⟩, ?_⟩
        · have := HKP.out
          simpa using this
        · rw [HRS.out, List.length_append, HCL.out, show bV (R ++ cutB (blkAt x.1.m s.blk) s.lo s.hi) = bV R ++ bV (cutB (blkAt x.1.m s.blk) s.lo s.hi) from by unfold bV; rw [List.map_append]]
          exact ownsRow_at HO8.out (fun k hk => Below.heap_setCell _ ⟨W.heap.size, 0, none⟩ _ k (fun e => by
            have e2 : k = W.heap.size := e
            rw [e2] at hk
            exact ob_tag HO8.out (show w8.heap[W.heap.size]? = some (.cells #[v] 25 (0, 0)) from HBX1.out) (by decide) hk))
        · exact HBY.out.trans (HEND.out.below (fun k hk => by
            rcases List.mem_cons.1 hk with h | h
            · omega
            · exact ownsRow_ge HROWB.out k h) HBY.out.size)
    case done =>
      rintro D ys Y hD rfl ⟨⟨v, hv, hrow, _⟩, hB⟩ hK
      obtain ⟨ao9, cap9, rfl, _, _, _, _⟩ := Rd.of_own hrow
      have hvc := hv.cell
      have hxa := (hB.block _ (Array.getElem?_eq_some_iff.1 HA2.out).1).trans HA2.out
      have HXA := Lib.hid hxa
      have e0 := cellOf hxa 0 (v := .int .i64 0) rfl
      have e1 := cellOf hxa 1 (v := .int .i64 0) rfl
      have e2 := cellOf hxa 2 (v := .slice none 0 0) rfl
      have f0 := frozenOf hxa 0
      have f1 := frozenOf hxa 1
      have f2 := frozenOf hxa 2
      have HBY := Lib.hid hB
      have HROWY := Lib.hid hrow
      have HDK := Lib.hid hK
      have HDS := Lib.hid hD
      clear hxa hB hrow hK b0 b2 c1 c2 hB0 hv
      have HDK2 := Lib.hid HDK.out
      obtain ⟨n9, hn9⟩ : ∃ n9, (readM x.1.m (((List.range (pM pn cn)).map id).map fun i => (gI pn cn i).2)).length = n9 := ⟨_, rfl⟩
      rw [hn9] at hvc
      have HN9 := Lib.hid hn9
      clear hn9 hD
      go_wp2_with fail
      obtain ⟨hx4, hm4⟩ := set3 (x := .int .i64 0) (y := .int .i64 0) (z := .slice ao9 n9 cap9) HXA.out
      obtain ⟨Z, hZ⟩ : ∃ Z, (((Y.setCell ⟨w.heap.size + 1, 0, none⟩ (.int .i64 0)).setCell ⟨w.heap.size + 1, 1, none⟩ (.int .i64 0)).setCell ⟨w.heap.size + 1, 2, none⟩ (.slice ao9 n9 cap9)) = Z := ⟨_, rfl⟩
      rw [hZ] at hx4 hm4 ⊢
      have hDW : w.heap.size + 1 < D := by have h1 := HDS.out; have h2 := HLW.out.1; simp at h1; omega
      have hK4 : Z.heap[D]? = some (.deferred (some [])) := (hm4.block D (Array.getElem?_eq_some_iff.1 HDK.out).1 (by simp; omega)).trans HDK.out
      have hrow4 : Z.ownsRow W.heap.size 5 1 (.slice ao9 n9 cap9) n9 (bV (readM x.1.m (pSpans pn cn))) := by
        have h1 := HROWY.out
        rw [HN9.out, gI_all] at h1
        refine ownsRow_at h1 (fun k hk => hm4.block k (ownsRow_lt h1 k hk) (fun hh => ?_))
        have e : k = w.heap.size + 1 := by simpa using hh
        have := ownsRow_ge h1 k hk
        have := HLW.out.1
        omega
      have HN9' : Hid ((readM x.1.m (pSpans pn cn)).length = n9) := Lib.hid (by rw [← gI_all]; exact HN9.out)
      refine ⟨by simp, .inl ⟨_, _, rfl, run_takeDeferred hK4, ?_⟩⟩
      refine ⟨_, resAns rfl _ _ (w.heap.size + 1) _ _ _ rfl ((World.putObj_heap_other (by omega)).trans hx4), _, rfl, ?_, ?_⟩
      · rw [HE.out, HN9'.out]
        exact ownsRow_base (ownsRow_putObj hrow4 _ hK4 rfl) (by have := HLW.out.1; omega)
      · have hBZ : Below w.heap.size w Z := ((bthen HBX.out.bel HBW.out).trans (HBY.out.mono (by have := HLW.out.1; omega))).trans (hm4.below (fun k hk => by have e := List.mem_singleton.1 hk; omega) (by have h1 := HBY.out.size; have h2 := HLW.out.1; omega))
        exact hBZ.trans (belowK_b (w := w) (Nat.le_refl _) Z D _ _ (by omega) hK4 rfl rfl)
    case stop =>
      rintro D c pre Y _ _ h _
      exact h.elim
theorem dread_at (n0 : Nat) (w : World) (B Ba : Nat) (l : List (Nat × (Vl × Nat))) (h : DevAt n0 w B Ba l) (o : Op0) (ao : Option Addr) (cap : Nat) (b : Int) (hn : o.data.length ≤ 9223372036854775807) (hmay : mayO o = true) (hk : o.k = 9) (x : Vl × Nat) (hg : getA o.vol l = some x)
    (hrow : o.pl + o.count ≤ 4 * (x.1.size : Int)) :
    Calls Try.prog 29 #[.pointer (some ⟨B, 0, none⟩), .agg (oC o (.slice ao o.data.length cap)), .int .i64 b] w fun e w' => ∃ sv, e = .returned (.agg #[.int .i64 0, .int .i64 0, sv]) ∧
      w'.ownsRow w.heap.size 5 1 sv (readM x.1.m (pSpansI o.pl o.count)).length (bV (readM x.1.m (pSpansI o.pl o.count))) ∧ Below w.heap.size w w' :=
  callsIn_wide.1 (dread_in n0 w B Ba l h o ao cap b hn hmay hk x hg hrow)
end Go.Proofs.Ythkmihedkddnmaa
