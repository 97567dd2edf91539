/- The law's acts, walked: Grow by some blocks. -/
import Derived.Deep.LoopGhost
import Derived.Deep.RegionHeldLaw
import Derived.Test.YtgokaoajpidhnaaCountGrow
import Derived.Test.YtgokaoajpidhnaaRowApp
import Derived.Test.YtgokaoajpidhnaaDo6
namespace Go.Proofs.Ytgokaoajpidhnaa
open Go.RowKit
set_option linter.unusedVariables false

/-- The reference, grown by j blocks. -/
def grK (A : M) (j : Nat) : M := { A with now := A.now ++ List.replicate j 0, was := A.was ++ List.replicate j 0 }
theorem grK_succ (A : M) (j : Nat) : (grK A j).now ++ [0] = (grK A (j + 1)).now ∧ (grK A j).was ++ [0] = (grK A (j + 1)).was := by
  simp [grK, List.replicate_succ']
theorem growM_ok {A : M} (ok : A.Ok) (m : Nat) (h : A.now.length + m ≤ 1000) : (growM A m).Ok := by
  refine ⟨by have := ok.pos; simp [growM]; omega, by simpa [growM] using h, by have := ok.len; simp [growM]; omega, by have := ok.at_; simp [growM]; omega, by have := ok.at_; simp [growM]; omega, ?_, ?_⟩
  all_goals
    intro k hk
    rcases List.mem_append.1 hk with h1 | h1
    · first | exact ok.now k h1 | exact ok.was k h1
    · have := (List.mem_replicate.1 h1).2; omega

/-- Behind both appends. -/
theorem Mods.cellx {F : List Nat} {w w' : World} {p : Addr} {v : Value} (h : Mods F w w') (hc : w.cell? p = some v) (hn : p.block ∉ F) : w'.cell? p = some v :=
  (World.cell?_of_block (h.block _ (World.block_lt_of_cell? w p hc) hn)).trans hc
theorem at0 {w0 W x1 : World} {F : List Nat} {p g1 g2 n1 c1 n2 c2 : Nat} {A : M} (m : Mods F w0 x1) (h : Below W.heap.size W w0) (R : RAt W p g1 g2 n1 c1 n2 c2 A) : RAt w0 p g1 g2 n1 c1 n2 c2 A ∧ Mods F w0 x1 ∧ Below W.heap.size W w0 := ⟨R.below h, m, h⟩
theorem gr_left {w w0 w1 wx w2 : World} {p g1 g2 n c1 c2 a ca b cb j : Nat} {A : M} (h0 : RAt w0 p g1 g2 n c1 n c2 (grK A j)) (hb0 : Below w.heap.size w w0) (m1 : Mods [g1] w0 w1) (hbx : Below w1.heap.size w1 wx) (m2 : Mods [g2] wx w2)
    (r1 : Row 3 .i64 w1 a (n + 1) ca ((grK A j).now ++ [0])) (ha : a = g1 ∨ w0.heap.size ≤ a) (r2 : Row 3 .i64 w2 b (n + 1) cb ((grK A j).was ++ [0])) (hb : b = g2 ∨ wx.heap.size ≤ b) :
    RAt ((w2.setCell ⟨p, 0, none⟩ (.slice (some ⟨a, 0, none⟩) (n + 1) ca)).setCell ⟨p, 1, none⟩ (.slice (some ⟨b, 0, none⟩) (n + 1) cb)) p a b (n + 1) ca (n + 1) cb (grK A (j + 1)) ∧
      Left [p, g1, g2] w ((w2.setCell ⟨p, 0, none⟩ (.slice (some ⟨a, 0, none⟩) (n + 1) ca)).setCell ⟨p, 1, none⟩ (.slice (some ⟨b, 0, none⟩) (n + 1) cb)) [p, a, b] ∧
      w2.heap[p]? = some (.cells #[.slice (some ⟨g1, 0, none⟩) n c1, .slice (some ⟨g2, 0, none⟩) n c2, .int .i64 (A.at_ : Int), .int .i64 (A.kept : Int)] 63 (0, 0)) := by
  have e := grK_succ A j
  rw [e.1] at r1
  rw [e.2] at r2
  have s0 := hb0.size
  have s1 := m1.size
  have sx := hbx.size
  have s2 := m2.size
  have l1 := h0.r1.lt
  have l2 := h0.r2.lt
  have lp := h0.lt
  have la := r1.lt
  have ne := h0.ne
  have np1 := h0.np1
  have np2 := h0.np2
  have hpa : p ≠ a := by omega
  have hpb : p ≠ b := by omega
  have hab : a ≠ b := by omega
  have hag2 : a ≠ g2 := by omega
  have here2 : w2.heap[p]? = w0.heap[p]? := ((m2.block p (by omega) (by simpa using np2)).trans (hbx.block p (by omega))).trans (m1.block p lp (by simpa using np1))
  have hr1 : Row 3 .i64 w2 a (n + 1) ca (grK A (j + 1)).now := r1.same ((m2.block a (by omega) (by simpa using hag2)).trans (hbx.block a la))
  refine ⟨⟨?_, ?_, ?_, hab, hpa, hpb⟩, ⟨?_, ?_⟩, here2.trans h0.here⟩
  · have := setOf (setOf (here2.trans h0.here) 0 (.slice (some ⟨a, 0, none⟩) (n + 1) ca)) 1 (.slice (some ⟨b, 0, none⟩) (n + 1) cb)
    simpa [grK] using this
  · exact (hr1.same (setOther _ _ (Ne.symm hpa))).same (setOther _ _ (Ne.symm hpa))
  · exact (r2.same (setOther _ _ (Ne.symm hpb))).same (setOther _ _ (Ne.symm hpb))
  · have hm : Mods [p, g1, g2] w w2 := (((Mods.of_below hb0).trans (m1.mono (G := [p, g1, g2]) (by simp)) (fun i hi => .inl hi)).thenBelow hbx).trans (m2.mono (G := [p, g1, g2]) (by simp)) (fun i hi => .inl hi)
    exact (hm.setCell (by simp) _).setCell (by simp) _
  · intro k hk
    simp only [List.mem_cons, List.not_mem_nil, or_false] at hk ⊢
    rcases hk with rfl | rfl | rfl
    · exact .inl (.inl rfl)
    · rcases ha with h | h
      · exact .inl (.inr (.inl h))
      · exact .inr (by omega)
    · rcases hb with h | h
      · exact .inl (.inr (.inr h))
      · exact .inr (by omega)

set_option maxRecDepth 100000 in
set_option maxHeartbeats 16000000 in
theorem do_grow_in {w : World} {p r : Nat} {A : M} {F G : List Nat} (h : Two w p r A F G) (L m : Nat) (hL : L = A.now.length) (hm : L + m ≤ 1000) :
    Calls Try.prog 36 #[pt p, pt r, .agg #[.int .i64 7, .int .i64 ((L + m : Nat) : Int)]] w fun e w' => e = .returned (.bool true) ∧ TwoP p r F G w w' := by
  have hbb := boxed_below w 7 ((L + m : Nat) : Int)
  have h0 := h.below hbb
  have bk := boxed_k w 7 ((L + m : Nat) : Int)
  have hr0 := h0.r
  have HLTG := Lib.hid (fun hk : w.heap.size ∈ G => Nat.lt_irrefl _ (h.r.lt _ hk))
  have HLT := Lib.hid (fun hk : w.heap.size ∈ F => Nat.lt_irrefl _ (h.a.lt _ hk))
  obtain ⟨g1, g2, c1, c2, hG, hrr⟩ := hr0
  have k0 := hrr.k0
  rw [← hL] at k0
  obtain ⟨b0, b1⟩ := bk
  have HPRE := Lib.hid (fun w' (h : TwoP p r F G (boxed w 7 ((L + m : Nat) : Int)) w') => h.pre hbb)
  have H0 := Lib.hid h0
  unfold boxed at *
  have C0 : ∀ W, IA W p A F → A.Ok → Calls Try.prog 51 #[pt p, .int .i64 ((L + m : Nat) : Int)] W _ := fun W hA ok => (by have := grow_in hA ok m (by omega); rw [← hL] at this; exact this)
  have HLL := Lib.hid (And.intro hL h0.ok.len)
  have HC0 := Lib.hid C0
  have hx1 : (0 : Int) ≤ ((L + m : Nat) : Int) := by omega
  have hd2 : decide (((L + m : Nat) : Int) < (L : Int)) = false := by simp; omega
  have hx3 : ((L + m : Nat) : Int) ≤ 1000 := by omega
  unfold pt at *
  clear h hrr hG hbb h0 hL C0
  generalize hN : ((L + m : Nat) : Int) = N at *
  have HN := Lib.hid hN
  clear hN
  go_enter Try.func36, Try.ntmps36
  go_wp2_with fail
  go_quiet (fail)
  have hbd := below_drewN (Below.refl (w.alloc (.cells #[.int .i64 7, .int .i64 N] 58)).heap.size (w.alloc (.cells #[.int .i64 7, .int .i64 N] 58))) nq
  have H1 := Lib.hid (H0.out.below hbd)
  have HB := Lib.hid hbd
  have c0 := (hbd.cell (p := ⟨w.heap.size, 0, none⟩) (by simp)).trans b0
  have c1' := (hbd.cell (p := ⟨w.heap.size, 1, none⟩) (by simp)).trans b1
  have hwl : w.heap.size < ((w.alloc (.cells #[.int .i64 7, .int .i64 N] 58)).drewN nq).heap.size := by simp
  generalize hW : (w.alloc (.cells #[.int .i64 7, .int .i64 N] 58)).drewN nq = W at hbd H1 HB c0 c1' hwl ⊢
  clear hW hbd k0 b0 b1 H0
  have C1 := HC0.out W H1.out.a H1.out.ok
  go_wp2_with fail
  refine C1.mono ?_
  rintro e w1 ⟨rfl, F1, hA, hl⟩
  have HA := Lib.hid (And.intro hA hl)
  obtain ⟨g1, g2, c1, c2, hG, hrr⟩ := (H1.out.one hA hl).1
  have HR := Lib.hid (And.intro hG hrr)
  have k0 := hrr.k0
  rw [← HLL.out.1] at k0
  have d1 := (hl.cell (p := ⟨w.heap.size, 1, none⟩) hwl HLT.out).trans c1'
  clear C1 hA hl hG hrr
  go_wp2_with fail
  go_quiet (fail)
  have hbq := below_drewN (Below.refl w1.heap.size w1) nq
  have HBQ := Lib.hid hbq
  have d2 := (hbq.cell (p := ⟨w.heap.size, 1, none⟩) (Nat.lt_of_lt_of_le hwl HA.out.2.1.size)).trans d1
  have hr2 := HR.out.2.below hbq
  have HR2 := Lib.hid hr2
  have hwl2 : w.heap.size < (w1.drewN nq).heap.size := Nat.lt_of_lt_of_le (Nat.lt_of_lt_of_le hwl HA.out.2.1.size) hbq.size
  generalize w1.drewN nq = W2 at hbq HBQ d2 hr2 HR2 hwl2 ⊢
  clear hbq hr2 k0 d1
  go_wp2_with fail
  go_loopg [249] m (fun g s wr => ∃ j : Nat, j ≤ m ∧ g = m - j ∧ ∃ a b ca cb, RAt wr r a b (L + j) ca (L + j) cb (grK A j) ∧ Left G W2 wr [r, a, b])
  case atStart =>
    refine ⟨0, by omega, by omega, g1, g2, c1, c2, ?_, ?_⟩
    · have := HR2.out
      rw [HLL.out.2, ← HLL.out.1] at this
      simpa [grK] using this
    · rw [HR.out.1]; exact Left.refl _ _
  case round =>
    obtain ⟨j, hj, hg, a, b, ca, cb, R, Lf⟩ := hrel
    have d3 := (Lf.cell (p := ⟨w.heap.size, 1, none⟩) hwl2 HLTG.out).trans d2
    have hwl3 : w.heap.size < wr.heap.size := Nat.lt_of_lt_of_le hwl2 Lf.1.size
    have k0 := R.k0
    by_cases hjm : j < m
    · have ht : (((L + j : Nat) : Int)) < N := by rw [← HN.out]; omega
      have HG := Lib.hid hg
      have HLF := Lib.hid Lf
      have HRR := Lib.hid R
      clear hg R Lf
      go_wp2_with fail
      go_quiet (fail)
      have hbq := below_drewN (Below.refl wr.heap.size wr) nq
      have HBQ2 := Lib.hid hbq
      have d4 := (hbq.cell (p := ⟨w.heap.size, 1, none⟩) hwl3).trans d3
      have r4 := HRR.out.below hbq
      generalize hW4 : wr.drewN nq = W4 at hbq HBQ2 d4 r4 ⊢
      have k0 := r4.k0
      have k1 := r4.k1
      have f0 := r4.fr 0
      have f1 := r4.fr 1
      have hla := r4.r1.lt
      have hlb := r4.r2.lt
      have hlr := r4.lt
      have HR4 := Lib.hid r4
      clear r4 hbq d3 hW4
      go_wp2_with fail
      (go_region_law (first
            | (refine step_row rfl _ _ 23 rfl 3 .i64 8 Try.underlying23 infoInt6 (by decide) (row := (HR4.out.below (by repeat (first | exact Below.refl _ _ | refine balloc ?_ _ | refine Below.drew ?_))).r1) rfl (k := 0) rfl (by go_simp) (by omega) ?_; intro a' ca' x1 r1 m1 ha; have p1 := m1.cellx (p := ⟨r, 1, none⟩) (v := .slice (some ⟨b, 0, none⟩) (L + j) cb) (by go_simp) (by have := HR4.out.np1; simpa using this); have hx1 := m1.size; have hR2 := (HR4.out.below (by repeat (first | exact Below.refl _ _ | refine balloc ?_ _ | refine Below.drew ?_))).r2.same (m1.block b (by simp; omega) (by have := HR4.out.ne; simpa using Ne.symm this)); have HX2 := Lib.hid hR2; have M1 := Lib.hid m1; have HR1 := Lib.hid r1; have HA1 := Lib.hid ha; have HH0 := Lib.hid (at0 m1 (by repeat (first | exact Below.refl _ _ | refine balloc ?_ _ | refine Below.drew ?_)) HR4.out); have hr1lt : r < x1.heap.size := World.block_lt_of_cell? x1 _ p1; have hb1lt := hR2.lt;  clear hR2 m1 r1 ha)
            | (refine step_row rfl _ _ 23 rfl 3 .i64 8 Try.underlying23 infoInt6 (by decide) (row := HX2.out.same (by first | rfl | (rw [Below.heap_alloc _ _ b (by omega)]; done))) rfl (k := 0) rfl (by first | (go_simp; done) | exact M1.out.cellx (by go_simp) (by simp; omega)) (by omega) ?_; intro b' cb' x2 r2 m2 hb; have hfin := gr_left HH0.out.1 HH0.out.2.2 M1.out (by repeat (first | exact Below.refl _ _ | refine balloc ?_ _ | refine Below.drew ?_)) m2 HR1.out HA1.out r2 hb; have y0 := cellOf hfin.2.2 0 rfl; have z0 := frozenOf hfin.2.2 0; have st := setOf hfin.2.2 0 (.slice (some ⟨a', 0, none⟩) (L + j + 1) ca'); have y1 := cellOf st 1 rfl; have z1 := frozenOf st 1; have HFIN := Lib.hid hfin; clear hfin st)))
      all_goals
        go_wp2_with fail
        go_roundg (m - (j + 1))
        case rel => exact ⟨j + 1, by omega, rfl, a', b', ca', cb', HFIN.out.1, (HLF.out.trans (Left.of_below HBQ2.out)).trans HFIN.out.2.1⟩
        case measure => have := HG.out; omega
    · obtain rfl : j = m := by omega
      have ht : ¬ (((L + j : Nat) : Int)) < N := by rw [← HN.out]; omega
      have HLF := Lib.hid Lf
      have HRR := Lib.hid R
      clear hg R Lf
      go_wp2_with fail
      go_quiet (fail)
      have hbq := below_drewN (Below.refl wr.heap.size wr) nq
      have HBQ2 := Lib.hid hbq
      have r4 := HRR.out.below hbq
      generalize hW4 : wr.drewN nq = W4 at hbq HBQ2 r4 ⊢
      have k2 := r4.k2
      have k3 := r4.k3
      have f3 := r4.fr 3
      have R5 := r4.setKept A.at_
      have e1 : grK A j = { grK A j with at_ := A.at_, kept := A.kept } := rfl
      have R6 : RA (W4.setCell ⟨r, 3, none⟩ (.int .i64 (A.at_ : Int))) r (growM A j) [r, a, b] := ⟨a, b, ca, cb, rfl, by
        have e2 : (growM A j).now.length = L + j := by rw [HLL.out.1]; simp [growM]
        have e3 : (growM A j).was.length = L + j := by have := HLL.out.2; rw [HLL.out.1]; simp [growM]; omega
        rw [e2, e3]
        exact R5⟩
      have LL : Left [r, a, b] wr (W4.setCell ⟨r, 3, none⟩ (.int .i64 (A.at_ : Int))) [r, a, b] := ⟨(Mods.of_below hbq).setCell (by simp) _, fun k hk => .inl hk⟩
      have HP := Lib.hid (H1.out.two HA.out.1 HA.out.2 R6 (((Left.of_below HBQ.out).trans HLF.out).trans LL) (growM_ok H1.out.ok j (by rw [← HLL.out.1]; omega)))
      dsimp only [grK] at k2 k3
      clear r4 R5 R6 LL hbq e1 d3 k0 hW4
      go_wp2_with fail
      go_ret
      exact ⟨rfl, HPRE.out _ (HP.out.pre HB.out)⟩
end Go.Proofs.Ytgokaoajpidhnaa
