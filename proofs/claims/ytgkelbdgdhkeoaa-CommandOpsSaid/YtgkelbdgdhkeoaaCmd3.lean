/- What clients ask: May, walked. -/
import Derived.Deep.LoopGhost
import Derived.Lib.OthersKept
import Derived.Test.YtgkelbdgdhkeoaaCmd2
import Derived.Test.YtgkelbdgdhkeoaaChg
namespace Go.Proofs.Ytgkelbdgdhkeoaa
open Go.RowKit
set_option linter.unusedVariables false
set_option linter.unusedSimpArgs false
open Wire Cmd

theorem setC_heap {w : World} {b i : Nat} {cs : Array Value} {t : TypeId} {v : Value} (h : w.heap[b]? = some (.cells cs t (0, 0))) : (w.setCell ⟨b, i, none⟩ v).heap[b]? = some (.cells (cs.setIfInBounds i v) t (0, 0)) := by
  simp [World.setCell, Array.getElem?_modify, h]
theorem cellIs {w : World} {b i : Nat} {cs : Array Value} {t : TypeId} {fr : Nat × Nat} {v : Value} (h : w.heap[b]? = some (.cells cs t fr)) (hv : cs[i]? = some v) : w.cell? ⟨b, i, none⟩ = some v := by rw [cell_of_row w b i cs t fr h]; exact hv
theorem chs_str (l : List UInt8) : chs (strB l) = l := by simp [chs, strB]
theorem str_size (l : List UInt8) : (strB l).size = l.length := by rw [← chs_len, chs_str]

/-- What a round of May knows of memory: the iterator stands at pos, q letters are done. -/
structure MayM (B K : Nat) (w : World) (o : Op0) (sl : Value) (pos q : Nat) (W : World) : Prop where
  it : W.heap[K]? = some (.stringIter (strB (nm o.k)) pos)
  bx : W.heap[B]? = some (.cells (oC o sl) 26 (0, 0))
  br : ∃ sb, W.heap[B + 1]? = some (.cells (oC (bare o ((nm o.k).take q)) sb) 26 (0, 0)) ∧ Rd w 1 sb (bare o ((nm o.k).take q)).data.length (bV (bare o ((nm o.k).take q)).data)
  below : Below B w W
  kb : B + 1 < K
theorem MayM.mono {B K : Nat} {w : World} {o : Op0} {sl : Value} {pos q : Nat} {W W' : World} (h : MayM B K w o sl pos q W) (hb : Below W.heap.size W W') : MayM B K w o sl pos q W' := by
  obtain ⟨h1, h2, ⟨sb, h3, h4⟩, h5, h6⟩ := h
  have hk := (Array.getElem?_eq_some_iff.1 h1).1
  exact ⟨(hb.block _ hk).trans h1, (hb.block _ (by omega)).trans h2, ⟨sb, (hb.block _ (by omega)).trans h3, h4⟩, h5.trans (hb.mono (by omega)), h6⟩
theorem MayM.next {B K : Nat} {w : World} {o : Op0} {sl : Value} {pos q p' : Nat} {W : World} (h : MayM B K w o sl pos q W) : MayM B K w o sl p' q (W.iterAt K (strB (nm o.k)) p') := by
  obtain ⟨h1, h2, ⟨sb, h3, h4⟩, h5, h6⟩ := h
  exact ⟨Lib.iterAt_heap W K _ pos p' h1, (Lib.iterAt_other _ _ _ _ _ (by omega)).trans h2, ⟨sb, (Lib.iterAt_other _ _ _ _ _ (by omega)).trans h3, h4⟩, Lib.below_iterAt h5 (by omega) _ _, h6⟩
theorem MayM.store {B K : Nat} {w : World} {o : Op0} {sl : Value} {pos q : Nat} {W : World} (h : MayM B K w o sl pos q W) {c : UInt8} (hc : (nm o.k)[q]? = some c) (i : Nat) (v : Value)
    (hs : ∀ b sb, ∃ sb', (oC b sb).setIfInBounds i v = oC (setL b (c.toNat : Int) o) sb' ∧ (Rd w 1 sb b.data.length (bV b.data) → Rd w 1 sb' (setL b (c.toNat : Int) o).data.length (bV (setL b (c.toNat : Int) o).data))) :
    MayM B K w o sl pos (q + 1) (W.setCell ⟨B + 1, i, none⟩ v) := by
  obtain ⟨h1, h2, ⟨sb, h3, h4⟩, h5, h6⟩ := h
  obtain ⟨sb', e, hr⟩ := hs (bare o ((nm o.k).take q)) sb
  have hb : bare o ((nm o.k).take (q + 1)) = setL (bare o ((nm o.k).take q)) (c.toNat : Int) o := by
    rw [List.take_add_one, hc]; exact bare_snoc _ _ _
  refine ⟨(Below.heap_setCell W ⟨B + 1, i, none⟩ v K (by simp; omega)).trans h1, (Below.heap_setCell W ⟨B + 1, i, none⟩ v B (by simp)).trans h2, ⟨sb', ?_, ?_⟩, h5.setCell (p := ⟨B + 1, i, none⟩) (by simp) v, h6⟩
  · rw [setC_heap h3, hb, e]
  · rw [hb]; exact hr h4

set_option maxRecDepth 100000 in
set_option maxHeartbeats 6400000 in
theorem mayO_any (o : Op0) (ok : o.Ok) (sl : Value) (w : World) (hd : Rd w 1 sl o.data.length (bV o.data)) :
    Calls Try.prog 22 #[.agg (oC o sl)] w fun e w' => e = .returned (.bool (mayO o)) ∧ Below w.heap.size w w' := by
  have HD := Lib.hid hd
  have HOK := Lib.hid ok
  have hk1 := ok.k.1
  have hk2 := ok.k.2
  obtain ⟨B, hB⟩ : ∃ B, w.heap.size = B := ⟨_, rfl⟩
  clear ok
  obtain ⟨ao, cap, rfl, _⟩ := hd
  have hoC : oC o (.slice ao o.data.length cap) = #[.int .i64 o.k, .int .u64 (o.vol : Int), .int .u64 (o.to : Int), .int .i64 o.size, .int .i64 o.pl, .int .i64 o.count, (.slice ao o.data.length cap)] := rfl
  have HOC := Lib.hid hoC
  rw [hoC]
  clear hoC
  go_enter Try.func22, Try.ntmps22
  go_wp2_with fail
  have HBS : Hid (Below w.heap.size w ((w.alloc (.cells #[.int .i64 o.k, .int .u64 (o.vol : Int), .int .u64 (o.to : Int), .int .i64 o.size, .int .i64 o.pl, .int .i64 o.count, (.slice ao o.data.length cap)] 26)).alloc (.cells #[.int .i64 o.k, .int .u64 0, .int .u64 0, .int .i64 0, .int .i64 0, .int .i64 0, .slice none 0 0] 26))) := Lib.hid (balloc (balloc (Below.refl _ _) _) _)
  have HB0 : Hid (((w.alloc (.cells #[.int .i64 o.k, .int .u64 (o.vol : Int), .int .u64 (o.to : Int), .int .i64 o.size, .int .i64 o.pl, .int .i64 o.count, (.slice ao o.data.length cap)] 26)).alloc (.cells #[.int .i64 o.k, .int .u64 0, .int .u64 0, .int .i64 0, .int .i64 0, .int .i64 0, .slice none 0 0] 26)).heap[B]? = some (.cells (oC o (.slice ao o.data.length cap)) 26 (0, 0)) ∧
      ((w.alloc (.cells #[.int .i64 o.k, .int .u64 (o.vol : Int), .int .u64 (o.to : Int), .int .i64 o.size, .int .i64 o.pl, .int .i64 o.count, (.slice ao o.data.length cap)] 26)).alloc (.cells #[.int .i64 o.k, .int .u64 0, .int .u64 0, .int .i64 0, .int .i64 0, .int .i64 0, .slice none 0 0] 26)).heap[B + 1]? = some (.cells (oC (bare0 o) (.slice none 0 0)) 26 (0, 0))) := Lib.hid (by
    subst hB
    refine ⟨?_, ?_⟩
    · rw [Below.heap_alloc _ _ _ (by simp)]; exact heap_alloc_new w _
    · have := heap_alloc_new (w.alloc (.cells #[.int .i64 o.k, .int .u64 (o.vol : Int), .int .u64 (o.to : Int), .int .i64 o.size, .int .i64 o.pl, .int .i64 o.count, (.slice ao o.data.length cap)] 26)) (.cells #[.int .i64 o.k, .int .u64 0, .int .u64 0, .int .i64 0, .int .i64 0, .int .i64 0, .slice none 0 0] 26)
      rw [World.size_alloc] at this
      exact this)
  refine (names_any _ _).mono ?_
  rintro e w1 ⟨rfl, hb1⟩
  obtain ⟨K, hK⟩ : ∃ K, w1.heap.size = K := ⟨_, rfl⟩
  have HI : Hid (MayM B K w o (.slice ao o.data.length cap) 0 0 (w1.iter (strB (nm o.k)) 0)) := Lib.hid (by
    have hs1 := hb1.size
    rw [World.size_alloc, World.size_alloc, hB] at hs1
    have hbi : Below w1.heap.size w1 (w1.iter (strB (nm o.k)) 0) := balloc (Below.refl _ _) _
    refine ⟨hK ▸ World.iter_heap w1 _ 0, ?_, ⟨.slice none 0 0, ?_, ?_⟩, ?_, by omega⟩
    · exact (hbi.block B (by omega)).trans ((hb1.block B (by rw [World.size_alloc, World.size_alloc, hB]; omega)).trans HB0.out.1)
    · exact (hbi.block (B + 1) (by omega)).trans ((hb1.block (B + 1) (by rw [World.size_alloc, World.size_alloc, hB]; omega)).trans HB0.out.2)
    · exact Rd.of_own (World.ownsRow_nil w 0 5 1)
    · have := bthen (bthen HBS.out hb1) hbi
      rwa [hB] at this)
  clear hb1
  go_wp2_with fail
  generalize w1.iter (strB (nm o.k)) 0 = w2 at HI ⊢
  have HB := Lib.hid hB
  clear hB hK
  have hsz3 : (strB (nm o.k)).size ≤ 3 := by rw [str_size]; exact nm_len _
  have HL := Lib.hid (nm_low o.k)
  have HCS := Lib.hid (chs_str (nm o.k))
  have HSS := Lib.hid (str_size (nm o.k))
  generalize hs : strB (nm o.k) = s at *
  have HS := Lib.hid hs
  clear hs
  go_loopg [] s.size (fun g wr => ∃ pos : Nat, pos ≤ s.size ∧ g = s.size - pos ∧ MayM B K w o (.slice ao o.data.length cap) pos pos wr ∧ ((nm o.k).take pos).all (fun c => wIn (c.toNat : Int) o) = true)
  case atStart => exact ⟨0, by omega, by omega, HI.out, rfl⟩
  case round =>
    obtain ⟨pos, hp, hg, hm, hall⟩ := hrel
    have HG := Lib.hid hg
    have HM := Lib.hid hm
    have HALL := Lib.hid hall
    have hit : wr.heap[K]? = some (.stringIter s pos) := by rw [← HS.out]; exact hm.it
    clear hg hm hall
    by_cases hlt : pos < s.size
    · obtain ⟨c, hc⟩ : ∃ c, (s[pos]'hlt) = c := ⟨_, rfl⟩
      have hget : (nm o.k)[pos]? = some c := by
        have h1 := chs_get hlt
        rw [HCS.out, hc] at h1; exact h1
      have hlow : c.toNat < 128 := HL.out c (List.mem_of_getElem? hget)
      have hdec : Utf8.decode s pos = (c.toNat, 1) := by rw [← hc]; exact decode_ascii s pos hlt (by rw [hc]; exact hlow)
      have hnx := fun ty => Lib.run_next_any_at (P := Try.prog) wr K s pos ty hit hlt
      simp only [hdec] at hnx
      have HM2 : Hid (MayM B K w o (.slice ao o.data.length cap) (pos + 1) pos (wr.iterAt K s (pos + 1))) := Lib.hid (by rw [← HS.out]; exact HM.out.next)
      obtain ⟨wr2, hwr2⟩ : ∃ W, wr.iterAt K s (pos + 1) = W := ⟨_, rfl⟩
      rw [hwr2] at hnx HM2
      have hbx2 := HM2.out.bx
      have c0 : wr2.cell? ⟨B, 0, none⟩ = some (.int .i64 o.k) := cellIs hbx2 rfl
      have c1 : wr2.cell? ⟨B, 1, none⟩ = some (.int .u64 (o.vol : Int)) := cellIs hbx2 rfl
      have c2 : wr2.cell? ⟨B, 2, none⟩ = some (.int .u64 (o.to : Int)) := cellIs hbx2 rfl
      have c3 : wr2.cell? ⟨B, 3, none⟩ = some (.int .i64 o.size) := cellIs hbx2 rfl
      have c4 : wr2.cell? ⟨B, 4, none⟩ = some (.int .i64 o.pl) := cellIs hbx2 rfl
      have c5 : wr2.cell? ⟨B, 5, none⟩ = some (.int .i64 o.count) := cellIs hbx2 rfl
      have c6 : wr2.cell? ⟨B, 6, none⟩ = some (.slice ao o.data.length cap) := cellIs hbx2 rfl
      have CW := within_any (c.toNat : Int) o (.slice ao o.data.length cap) wr2 (HD.out.below (by have := HM2.out.below; rw [HB.out]; exact this))
      rw [HOC.out] at CW
      obtain ⟨bw, hbw⟩ : ∃ b, wIn (c.toNat : Int) o = b := ⟨_, rfl⟩
      rw [hbw] at CW
      have HBW := Lib.hid hbw
      have HGET := Lib.hid hget
      clear hwr2 hbx2 hit hdec hc hbw
      go_wp2_with fail
      refine CW.mono ?_
      rintro e w3 ⟨rfl, hb3⟩
      have HM3 := Lib.hid (HM2.out.mono hb3)
      clear hb3 hnx c0 c1 c2 c3 c4 c5 c6 CW
      cases bw with
      | false =>
        have HE : Hid (mayO o = false) := Lib.hid (by
          unfold mayO
          have : (nm o.k).all (fun c => wIn (c.toNat : Int) o) = false := by
            rw [Bool.eq_false_iff]
            intro h
            have := List.all_eq_true.1 h c (List.mem_of_getElem? HGET.out)
            rw [HBW.out] at this; cases this
          rw [this]; rfl)
        clear hget
        go_wp2_with fail
        go_ret
        exact ⟨by rw [HE.out]; rfl, by rw [HB.out]; exact HM3.out.below⟩
      | true =>
        have HA2 : Hid (((nm o.k).take (pos + 1)).all (fun c => wIn (c.toNat : Int) o) = true) := Lib.hid (by
          rw [List.take_add_one, HGET.out]
          simp only [Option.toList_some, List.all_append, HALL.out, Bool.true_and, List.all_cons, List.all_nil, Bool.and_true]
          exact HBW.out)
        have hbx3 := HM3.out.bx
        obtain ⟨sb, hbr3, _⟩ := HM3.out.br
        have c1 : w3.cell? ⟨B, 1, none⟩ = some (.int .u64 (o.vol : Int)) := cellIs hbx3 rfl
        have c2 : w3.cell? ⟨B, 2, none⟩ = some (.int .u64 (o.to : Int)) := cellIs hbx3 rfl
        have c3 : w3.cell? ⟨B, 3, none⟩ = some (.int .i64 o.size) := cellIs hbx3 rfl
        have c4 : w3.cell? ⟨B, 4, none⟩ = some (.int .i64 o.pl) := cellIs hbx3 rfl
        have c5 : w3.cell? ⟨B, 5, none⟩ = some (.int .i64 o.count) := cellIs hbx3 rfl
        have c6 : w3.cell? ⟨B, 6, none⟩ = some (.slice ao o.data.length cap) := cellIs hbx3 rfl
        clear hbx3
        have goal0 : True := trivial
        by_cases h118 : (c.toNat : Int) = 118
        · have g118 : ((c.toNat : Int) == 118) = true := beqI h118
          have HST : Hid (MayM B K w o (.slice ao o.data.length cap) (pos + 1) (pos + 1) (w3.setCell ⟨B + 1, 1, none⟩ (.int .u64 (o.vol : Int)))) := Lib.hid (HM3.out.store hget 1 _ (fun b sb => ⟨sb, by unfold setL; simp [h118, oC], fun h => by have e : (setL b (c.toNat : Int) o).data = b.data := (by unfold setL; simp [h118]); rw [e]; exact h⟩))
          have hcl : ∃ u, w3.cell? ⟨B + 1, 1, none⟩ = some u := ⟨_, cellIs hbr3 rfl⟩
          have hfz : w3.frozen? ⟨B + 1, 1, none⟩ = false := frozenOf hbr3 1
          obtain ⟨u, hcl⟩ := hcl
          clear hbr3 hget
          go_wp2_with fail
          go_roundg (s.size - (pos + 1))
          case rel => exact ⟨pos + 1, by omega, rfl, HST.out, HA2.out⟩
          case measure => have := HG.out; omega
        by_cases h116 : (c.toNat : Int) = 116
        · have g116 : ((c.toNat : Int) == 116) = true := beqI h116
          have g118 : ((c.toNat : Int) == 118) = false := bneI h118
          have HST : Hid (MayM B K w o (.slice ao o.data.length cap) (pos + 1) (pos + 1) (w3.setCell ⟨B + 1, 2, none⟩ (.int .u64 (o.to : Int)))) := Lib.hid (HM3.out.store hget 2 _ (fun b sb => ⟨sb, by unfold setL; simp [h116, oC], fun h => by have e : (setL b (c.toNat : Int) o).data = b.data := (by unfold setL; simp [h116]); rw [e]; exact h⟩))
          have hcl : ∃ u, w3.cell? ⟨B + 1, 2, none⟩ = some u := ⟨_, cellIs hbr3 rfl⟩
          have hfz : w3.frozen? ⟨B + 1, 2, none⟩ = false := frozenOf hbr3 2
          obtain ⟨u, hcl⟩ := hcl
          clear hbr3 hget
          go_wp2_with fail
          go_roundg (s.size - (pos + 1))
          case rel => exact ⟨pos + 1, by omega, rfl, HST.out, HA2.out⟩
          case measure => have := HG.out; omega
        by_cases h115 : (c.toNat : Int) = 115
        · have g115 : ((c.toNat : Int) == 115) = true := beqI h115
          have g118 : ((c.toNat : Int) == 118) = false := bneI h118
          have g116 : ((c.toNat : Int) == 116) = false := bneI h116
          have HST : Hid (MayM B K w o (.slice ao o.data.length cap) (pos + 1) (pos + 1) (w3.setCell ⟨B + 1, 3, none⟩ (.int .i64 o.size))) := Lib.hid (HM3.out.store hget 3 _ (fun b sb => ⟨sb, by unfold setL; simp [h115, oC], fun h => by have e : (setL b (c.toNat : Int) o).data = b.data := (by unfold setL; simp [h115]); rw [e]; exact h⟩))
          have hcl : ∃ u, w3.cell? ⟨B + 1, 3, none⟩ = some u := ⟨_, cellIs hbr3 rfl⟩
          have hfz : w3.frozen? ⟨B + 1, 3, none⟩ = false := frozenOf hbr3 3
          obtain ⟨u, hcl⟩ := hcl
          clear hbr3 hget
          go_wp2_with fail
          go_roundg (s.size - (pos + 1))
          case rel => exact ⟨pos + 1, by omega, rfl, HST.out, HA2.out⟩
          case measure => have := HG.out; omega
        by_cases h97 : (c.toNat : Int) = 97
        · have g97 : ((c.toNat : Int) == 97) = true := beqI h97
          have g118 : ((c.toNat : Int) == 118) = false := bneI h118
          have g116 : ((c.toNat : Int) == 116) = false := bneI h116
          have g115 : ((c.toNat : Int) == 115) = false := bneI h115
          have HST : Hid (MayM B K w o (.slice ao o.data.length cap) (pos + 1) (pos + 1) (w3.setCell ⟨B + 1, 4, none⟩ (.int .i64 o.pl))) := Lib.hid (HM3.out.store hget 4 _ (fun b sb => ⟨sb, by unfold setL; simp [h97, oC], fun h => by have e : (setL b (c.toNat : Int) o).data = b.data := (by unfold setL; simp [h97]); rw [e]; exact h⟩))
          have hcl : ∃ u, w3.cell? ⟨B + 1, 4, none⟩ = some u := ⟨_, cellIs hbr3 rfl⟩
          have hfz : w3.frozen? ⟨B + 1, 4, none⟩ = false := frozenOf hbr3 4
          obtain ⟨u, hcl⟩ := hcl
          clear hbr3 hget
          go_wp2_with fail
          go_roundg (s.size - (pos + 1))
          case rel => exact ⟨pos + 1, by omega, rfl, HST.out, HA2.out⟩
          case measure => have := HG.out; omega
        by_cases h99 : (c.toNat : Int) = 99
        · have g99 : ((c.toNat : Int) == 99) = true := beqI h99
          have g118 : ((c.toNat : Int) == 118) = false := bneI h118
          have g116 : ((c.toNat : Int) == 116) = false := bneI h116
          have g115 : ((c.toNat : Int) == 115) = false := bneI h115
          have g97 : ((c.toNat : Int) == 97) = false := bneI h97
          have HST : Hid (MayM B K w o (.slice ao o.data.length cap) (pos + 1) (pos + 1) (w3.setCell ⟨B + 1, 5, none⟩ (.int .i64 o.count))) := Lib.hid (HM3.out.store hget 5 _ (fun b sb => ⟨sb, by unfold setL; simp [h99, oC], fun h => by have e : (setL b (c.toNat : Int) o).data = b.data := (by unfold setL; simp [h99]); rw [e]; exact h⟩))
          have hcl : ∃ u, w3.cell? ⟨B + 1, 5, none⟩ = some u := ⟨_, cellIs hbr3 rfl⟩
          have hfz : w3.frozen? ⟨B + 1, 5, none⟩ = false := frozenOf hbr3 5
          obtain ⟨u, hcl⟩ := hcl
          clear hbr3 hget
          go_wp2_with fail
          go_roundg (s.size - (pos + 1))
          case rel => exact ⟨pos + 1, by omega, rfl, HST.out, HA2.out⟩
          case measure => have := HG.out; omega
        have g118 : ((c.toNat : Int) == 118) = false := bneI h118
        have g116 : ((c.toNat : Int) == 116) = false := bneI h116
        have g115 : ((c.toNat : Int) == 115) = false := bneI h115
        have g97 : ((c.toNat : Int) == 97) = false := bneI h97
        have g99 : ((c.toNat : Int) == 99) = false := bneI h99
        have HST : Hid (MayM B K w o (.slice ao o.data.length cap) (pos + 1) (pos + 1) (w3.setCell ⟨B + 1, 6, none⟩ (.slice ao o.data.length cap))) := Lib.hid (HM3.out.store hget 6 _ (fun b sb => ⟨(.slice ao o.data.length cap), by unfold setL; simp [h118, h116, h115, h97, h99, oC], fun h => by have e : (setL b (c.toNat : Int) o).data = o.data := (by unfold setL; simp [h118, h116, h115, h97, h99]); rw [e]; exact HD.out⟩))
        have hcl : ∃ u, w3.cell? ⟨B + 1, 6, none⟩ = some u := ⟨_, cellIs hbr3 rfl⟩
        have hfz : w3.frozen? ⟨B + 1, 6, none⟩ = false := frozenOf hbr3 6
        obtain ⟨u, hcl⟩ := hcl
        clear hbr3 hget
        go_wp2_with fail
        go_roundg (s.size - (pos + 1))
        case rel => exact ⟨pos + 1, by omega, rfl, HST.out, HA2.out⟩
        case measure => have := HG.out; omega
    · obtain rfl : pos = s.size := by omega
      have hnx := fun ty => Lib.run_next_end_at (P := Try.prog) wr K s s.size ty hit (by omega)
      have htk : (nm o.k).take s.size = nm o.k := List.take_of_length_le (by rw [HSS.out]; exact Nat.le_refl _)
      have HAL2 : Hid ((nm o.k).all (fun c => wIn (c.toNat : Int) o) = true) := Lib.hid (by have := HALL.out; rw [htk] at this; exact this)
      obtain ⟨sb, hbr, hrb⟩ := HM.out.br
      rw [htk] at hbr hrb
      have hbx := HM.out.bx
      have hbd : ∀ u, Rd w 1 u (o.data).length (bV o.data) → Rd wr 1 u o.data.length (bV o.data) := fun u h => h.below (by rw [HB.out]; exact HM.out.below)
      have hbd2 : Rd wr 1 sb (bare o (nm o.k)).data.length (bV (bare o (nm o.k)).data) := hrb.below (by rw [HB.out]; exact HM.out.below)
      have CS := same_any o (bare o (nm o.k)) (.slice ao o.data.length cap) sb wr (hbd _ HD.out) hbd2
      obtain ⟨aob, capb, rfl, _⟩ := hrb
      have c0 : wr.cell? ⟨B, 0, none⟩ = some (.int .i64 o.k) := cellIs hbx rfl
      have c1 : wr.cell? ⟨B, 1, none⟩ = some (.int .u64 (o.vol : Int)) := cellIs hbx rfl
      have c2 : wr.cell? ⟨B, 2, none⟩ = some (.int .u64 (o.to : Int)) := cellIs hbx rfl
      have c3 : wr.cell? ⟨B, 3, none⟩ = some (.int .i64 o.size) := cellIs hbx rfl
      have c4 : wr.cell? ⟨B, 4, none⟩ = some (.int .i64 o.pl) := cellIs hbx rfl
      have c5 : wr.cell? ⟨B, 5, none⟩ = some (.int .i64 o.count) := cellIs hbx rfl
      have c6 : wr.cell? ⟨B, 6, none⟩ = some (.slice ao o.data.length cap) := cellIs hbx rfl
      have hoB : oC (bare o (nm o.k)) (.slice aob (bare o (nm o.k)).data.length capb) = #[.int .i64 (bare o (nm o.k)).k, .int .u64 ((bare o (nm o.k)).vol : Int), .int .u64 ((bare o (nm o.k)).to : Int), .int .i64 (bare o (nm o.k)).size, .int .i64 (bare o (nm o.k)).pl, .int .i64 (bare o (nm o.k)).count, .slice aob (bare o (nm o.k)).data.length capb] := rfl
      rw [hoB] at CS hbr
      rw [HOC.out] at CS
      have HEQ : Hid (∀ x, opEq o (bare o (nm o.k)) = x → mayO o = ((decide (1 ≤ o.k) && decide (o.k ≤ 9)) && x)) := Lib.hid (fun x h => by unfold mayO; rw [HAL2.out, h]; rfl)
      generalize opEq o (bare o (nm o.k)) = q at *
      generalize bare o (nm o.k) = ob at *
      have d0 : wr.cell? ⟨B + 1, 0, none⟩ = some (.int .i64 ob.k) := cellIs hbr rfl
      have d1 : wr.cell? ⟨B + 1, 1, none⟩ = some (.int .u64 (ob.vol : Int)) := cellIs hbr rfl
      have d2 : wr.cell? ⟨B + 1, 2, none⟩ = some (.int .u64 (ob.to : Int)) := cellIs hbr rfl
      have d3 : wr.cell? ⟨B + 1, 3, none⟩ = some (.int .i64 ob.size) := cellIs hbr rfl
      have d4 : wr.cell? ⟨B + 1, 4, none⟩ = some (.int .i64 ob.pl) := cellIs hbr rfl
      have d5 : wr.cell? ⟨B + 1, 5, none⟩ = some (.int .i64 ob.count) := cellIs hbr rfl
      have d6 : wr.cell? ⟨B + 1, 6, none⟩ = some (.slice aob ob.data.length capb) := cellIs hbr rfl
      have HEQ2 := Lib.hid (HEQ.out q rfl)
      clear hbr hbx hit htk hbd hbd2 hoB
      by_cases k1 : 1 ≤ o.k
      · by_cases k9 : o.k ≤ 9
        · have HE : Hid (mayO o = q) := Lib.hid (by rw [HEQ2.out, decide_eq_true k1, decide_eq_true k9]; rfl)
          go_wp2_with fail
          refine CS.mono ?_
          rintro e w3 ⟨rfl, hb3⟩
          have HB3 := Lib.hid (HM.out.below.trans (hb3.mono (by have := HM.out.below.size; rw [HB.out] at this; exact this)))
          clear hb3
          go_wp2_with fail
          go_ret
          exact ⟨by rw [HE.out]; rfl, by rw [HB.out]; exact HB3.out⟩
        · have HE : Hid (mayO o = false) := Lib.hid (by rw [HEQ2.out, decide_eq_false k9, Bool.and_false]; rfl)
          have k9' : 9 < o.k := by omega
          clear k9
          go_wp2_with fail
          go_ret
          exact ⟨by rw [HE.out]; rfl, by rw [HB.out]; exact HM.out.below⟩
      · have HE : Hid (mayO o = false) := Lib.hid (by rw [HEQ2.out, decide_eq_false k1]; rfl)
        have k1' : o.k < 1 := by omega
        clear k1
        go_wp2_with fail
        go_ret
        exact ⟨by rw [HE.out]; rfl, by rw [HB.out]; exact HM.out.below⟩
end Go.Proofs.Ytgkelbdgdhkeoaa
