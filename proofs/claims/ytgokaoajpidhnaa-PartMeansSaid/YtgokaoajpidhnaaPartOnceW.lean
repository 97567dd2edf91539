/- The law's own walk over part.Over, walked. -/
import Derived.Test.YtgokaoajpidhnaaPartOnce
import Derived.Test.YtgokaoajpidhnaaQuietRound
namespace Go.Proofs.Ytgokaoajpidhnaa
open Go.RowKit Go.Shelf
set_option linter.unusedVariables false
attribute [local go_sem] Oper.semAt_some

theorem keepsDrewN (W : World) (n : Nat) : KeepsOthers W (W.drewN n) := ⟨Nat.le_refl _, fun _ _ h _ => h⟩

theorem kpDrewN (p : Nat → Prop) (W : World) (n : Nat) : KpF (fun _ k => p k) W (W.drewN n) := ⟨Nat.le_refl _, fun g => g, fun _ _ _ _ ho _ => ho, fun _ _ h => h⟩

theorem seqNotNil (cs : Array Value) (w : World) : (binOp .eql 97 (.func (.func 90) #[] cs) .nilFunc).run Try.prog w = .ok (.bool false) w := by kernel_rfl

set_option maxRecDepth 100000 in
set_option maxHeartbeats 4000000 in
theorem once_in (a c most : Int) (hc0 : -9223372036854775808 ≤ c) (v : Value) (ws : List PSpan) (hb : ∀ s ∈ ws, s.lo ≤ 4 ∧ s.hi ≤ 4) (hlw : ws.length ≤ 1073741824) (hit : goodItems ws (pItemsI a c) 0) (hil : (pItemsI a c).length = ws.length) (w : World) (hv : Rd w 3 v ws.length (spansCells ws)) :
    CallsIn Fence.wide 5 Try.prog 24 #[.int .i64 a, .int .i64 c, v, .int .i64 most] w fun e w' => e = .returned (.bool true) ∧ Below w.heap.size w w' := by
  have hro : Fence.wide.round = none := rfl
  have h1 : 1 ≤ 5 := by omega
  obtain ⟨ao, cap, rfl, _, _, _, hcells⟩ := hv
  refine callsIn_of_wp_marks Try.func24 rfl trivial ?_ hro
  simp only [Try.ntmps24, List.size_toArray, List.length_cons, List.length_nil, Nat.reduceAdd, Nat.reduceSub, Array.replicate_succ, Array.replicate_zero, List.push_toArray, List.append_toArray, List.nil_append, List.cons_append]
  have hnn := seqNotNil
  gi_wp2_with (refine ⟨trivial, ?_⟩; gi_at_call 65; refine (over_in _ _ trivial hro _ _ _).mono ?_; rintro e w' ⟨rfl, rfl⟩)
  have b0 := Boxed.new w 29 (.slice ao ws.length cap)
  have b1 := Boxed.new (w.alloc (.cells #[.slice ao ws.length cap] 29)) 3 (.int .i64 most)
  have b2 := Boxed.new ((w.alloc (.cells #[.slice ao ws.length cap] 29)).alloc (.cells #[.int .i64 most] 3)) 4 (.bool false)
  have b3 := Boxed.new (((w.alloc (.cells #[.slice ao ws.length cap] 29)).alloc (.cells #[.int .i64 most] 3)).alloc (.cells #[.bool false] 4)) 3 (.int .i64 a)
  have b4 := Boxed.new ((((w.alloc (.cells #[.slice ao ws.length cap] 29)).alloc (.cells #[.int .i64 most] 3)).alloc (.cells #[.bool false] 4)).alloc (.cells #[.int .i64 a] 3)) 3 (.int .i64 c)
  have b5 := Boxed.new (((((w.alloc (.cells #[.slice ao ws.length cap] 29)).alloc (.cells #[.int .i64 most] 3)).alloc (.cells #[.bool false] 4)).alloc (.cells #[.int .i64 a] 3)).alloc (.cells #[.int .i64 c] 3)) 3 (.int .i64 0)
  have b6 := Boxed.new ((((((w.alloc (.cells #[.slice ao ws.length cap] 29)).alloc (.cells #[.int .i64 most] 3)).alloc (.cells #[.bool false] 4)).alloc (.cells #[.int .i64 a] 3)).alloc (.cells #[.int .i64 c] 3)).alloc (.cells #[.int .i64 0] 3)) 3 (.int .i64 0)
  simp only [World.size_alloc] at b1 b2 b3 b4 b5 b6
  replace b0 := ((((((b0.alloc (.cells #[.int .i64 most] 3)).alloc (.cells #[.bool false] 4)).alloc (.cells #[.int .i64 a] 3)).alloc (.cells #[.int .i64 c] 3)).alloc (.cells #[.int .i64 0] 3)).alloc (.cells #[.int .i64 0] 3))
  replace b1 := (((((b1.alloc (.cells #[.bool false] 4)).alloc (.cells #[.int .i64 a] 3)).alloc (.cells #[.int .i64 c] 3)).alloc (.cells #[.int .i64 0] 3)).alloc (.cells #[.int .i64 0] 3))
  replace b2 := ((((b2.alloc (.cells #[.int .i64 a] 3)).alloc (.cells #[.int .i64 c] 3)).alloc (.cells #[.int .i64 0] 3)).alloc (.cells #[.int .i64 0] 3))
  replace b3 := (((b3.alloc (.cells #[.int .i64 c] 3)).alloc (.cells #[.int .i64 0] 3)).alloc (.cells #[.int .i64 0] 3))
  replace b4 := ((b4.alloc (.cells #[.int .i64 0] 3)).alloc (.cells #[.int .i64 0] 3))
  replace b5 := (b5.alloc (.cells #[.int .i64 0] 3))
  replace b6 := b6
  have hB0 : Below w.heap.size w (((((((w.alloc (.cells #[.slice ao ws.length cap] 29)).alloc (.cells #[.int .i64 most] 3)).alloc (.cells #[.bool false] 4)).alloc (.cells #[.int .i64 a] 3)).alloc (.cells #[.int .i64 c] 3)).alloc (.cells #[.int .i64 0] 3)).alloc (.cells #[.int .i64 0] 3)) := balloc (balloc (balloc (balloc (balloc (balloc (balloc (Below.refl _ w) _) _) _) _) _) _) _
  have hs0 : (((((((w.alloc (.cells #[.slice ao ws.length cap] 29)).alloc (.cells #[.int .i64 most] 3)).alloc (.cells #[.bool false] 4)).alloc (.cells #[.int .i64 a] 3)).alloc (.cells #[.int .i64 c] 3)).alloc (.cells #[.int .i64 0] 3)).alloc (.cells #[.int .i64 0] 3)).heap.size = w.heap.size + 7 := by simp
  obtain ⟨W0, hW0⟩ : ∃ W0, (((((((w.alloc (.cells #[.slice ao ws.length cap] 29)).alloc (.cells #[.int .i64 most] 3)).alloc (.cells #[.bool false] 4)).alloc (.cells #[.int .i64 a] 3)).alloc (.cells #[.int .i64 c] 3)).alloc (.cells #[.int .i64 0] 3)).alloc (.cells #[.int .i64 0] 3)) = W0 := ⟨_, rfl⟩
  rw [hW0] at b0 b1 b2 b3 b4 b5 b6 hB0 hs0 ⊢
  clear hW0
  refine wpIn_rangeFunc_ownH hro h1 (gf := 90) (lb := #[.pointer (some ⟨w.heap.size + 1 + 1 + 1, 0, none⟩), .pointer (some ⟨w.heap.size + 1 + 1 + 1 + 1, 0, none⟩)]) rfl trivial (enters_of Try.func90 (by kernel_rfl) rfl)
    (overI_stops Fence.wide (5 - 1) trivial hro (by omega) (w.heap.size + 1 + 1 + 1) a c hc0 W0 (by omega) (fun _ k => k = w.heap.size + 1 + 1 ∨ k = w.heap.size + 1 + 1 + 1 + 1 + 1 ∨ k = w.heap.size + 1 + 1 + 1 + 1 + 1 + 1) (fun _ _ _ _ h => h)
      (fun W hW => ⟨fun k hk => by have := hW.size; omega, by omega, by omega⟩) b3.cell b4.cell)
    KpF.trans (KpF.put (fun _ _ _ _ _ _ _ _ h => h)) (Below.refl _ _) (fun _ => rfl)
    (fun pre W => (onceAt ws most pre 0 = none ∧ pre.length ≤ ws.length ∧ Boxed W (w.heap.size) 29 (.slice ao ws.length cap) ∧ Boxed W (w.heap.size + 1) 3 (.int .i64 most) ∧ Boxed W (w.heap.size + 1 + 1) 4 (.bool false) ∧ Boxed W (w.heap.size + 1 + 1 + 1 + 1 + 1) 3 (.int .i64 pre.length) ∧ Boxed W (w.heap.size + 1 + 1 + 1 + 1 + 1 + 1) 3 (.int .i64 (sumP (ws.take pre.length)))) ∧ Below w.heap.size w W)
    (fun c pre W => (c = .ret ∧ ∃ b, onceAt ws most pre 0 = some b ∧ Boxed W (w.heap.size + 1 + 1) 4 (.bool b)) ∧ Below w.heap.size w W)
    (OwnFrom.and (Own.from (fun s A B row hs hg hr => ⟨hs.1, hs.2.1, rowKept hs.2.2.1 hg hr, rowKept hs.2.2.2.1 hg hr, rowKept hs.2.2.2.2.1 hg hr, rowKept hs.2.2.2.2.2.1 hg hr, rowKept hs.2.2.2.2.2.2 hg hr⟩) _) (ownFrom_below (Nat.le_refl _) (by omega)))
    (fun c => OwnFrom.and (Own.from (fun s A B row hs hg hr => by obtain ⟨h1, b, h2, h3⟩ := hs; exact ⟨h1, b, h2, rowKept h3 hg hr⟩) _) (ownFrom_below (Nat.le_refl _) (by omega)))
    ⟨⟨rfl, by simp, b0, b1, b2, b5, by simpa [sumP] using b6⟩, hB0⟩
    (fun x a' W => ∃ Bs, w.heap.size + 6 < Bs ∧ W.heap[Bs]? = some (.cells #[.int .i64 x.2.blk, .int .i64 x.2.lo, .int .i64 x.2.hi] 28 (0, 0)) ∧ a' = { tmps := #[.int .i64 a, .int .i64 c, .slice ao ws.length cap, .int .i64 most, undef, undef, .pointer (some ⟨w.heap.size, 0, none⟩), .pointer (some ⟨w.heap.size + 1, 0, none⟩), .pointer (some ⟨w.heap.size + 1 + 1, 0, none⟩), .func (.func 90) #[] #[.pointer (some ⟨w.heap.size + 1 + 1 + 1, 0, none⟩), .pointer (some ⟨w.heap.size + 1 + 1 + 1 + 1, 0, none⟩)], .pointer (some ⟨w.heap.size + 1 + 1 + 1 + 1 + 1, 0, none⟩), .pointer (some ⟨w.heap.size + 1 + 1 + 1 + 1 + 1 + 1, 0, none⟩), .int .i64 x.1, .pointer (some ⟨Bs, 0, none⟩), .int .i64 a, .int .i64 c, .func (.func 90) #[] #[.pointer (some ⟨w.heap.size + 1 + 1 + 1, 0, none⟩), .pointer (some ⟨w.heap.size + 1 + 1 + 1 + 1, 0, none⟩)], .func (.func 90) #[] #[.pointer (some ⟨w.heap.size + 1 + 1 + 1, 0, none⟩), .pointer (some ⟨w.heap.size + 1 + 1 + 1 + 1, 0, none⟩)], .bool false, .func (.func 90) #[] #[.pointer (some ⟨w.heap.size + 1 + 1 + 1, 0, none⟩), .pointer (some ⟨w.heap.size + 1 + 1 + 1 + 1, 0, none⟩)], .int .i64 x.1, spanV x.2, undef, undef, undef, undef, undef, undef, undef, undef, undef, undef, undef, undef, undef, undef, undef, undef, undef, undef, undef, undef, undef, undef, undef, undef, undef, undef, undef, undef, undef, undef, undef, undef, undef], defers := [] })
    (fun x a' _ A B row hs hg hr => by
      obtain ⟨Bs, h1, h2, h3⟩ := hs
      exact ⟨Bs, h1, rowKept h2 hg (fun r e => (hr r e).2), h3⟩) ?assign ?body ?done ?stop
  case assign =>
    rintro l pre x W K ⟨⟨ho, hpl, i0, i1, i2, i5, i6⟩, hB⟩ hK
    have hlt := i6.lt
    simp [itemVs, spanV]
    gi_wp2
    refine hK _ _ ((KeepsOthers.alloc _ _).from _) (KpF.alloc (KpF.refl _ _) _ (fun k h => h)) ⟨⟨ho, hpl, i0.alloc _, i1.alloc _, i2.alloc _, i5.alloc _, i6.alloc _⟩, balloc hB _⟩ ⟨W.heap.size, by omega, heap_alloc_new W _, rfl⟩
  case body =>
    rintro l pre x a' W hl ⟨r, hr⟩ ⟨⟨ho, hpl, i0, i1, i2, i5, i6⟩, hB⟩ ⟨Bs, hBs, hs, rfl⟩ hlt
    have s0 : W.cell? ⟨Bs, 0, none⟩ = some (.int .i64 x.2.blk) := by rw [cell_of_row W Bs 0 _ _ _ hs]; rfl
    have s1 : W.cell? ⟨Bs, 1, none⟩ = some (.int .i64 x.2.lo) := by rw [cell_of_row W Bs 1 _ _ _ hs]; rfl
    have s2 : W.cell? ⟨Bs, 2, none⟩ = some (.int .i64 x.2.hi) := by rw [cell_of_row W Bs 2 _ _ _ hs]; rfl
    have c0 := i0.cell
    have c1 := i1.cell
    have c2 := i2.cell
    have c5 := i5.cell
    have c6 := i6.cell
    have f2 := i2.frozen
    have f5 := i5.frozen
    have f6 := i6.frozen
    have hsz := hB.size
    have HO := Lib.hid (onceAt_snoc ws most pre 0 x ho)
    rw [hil] at hlt
    rw [Nat.zero_add] at HO
    obtain ⟨y, hy⟩ : ∃ y, ws[pre.length]? = some y := ⟨_, List.getElem?_eq_getElem hlt⟩
    obtain ⟨bw, off, rfl, hbw, y0, y1, y2⟩ := rd_span hcells hy
    have y0' := (hB.cell (p := ⟨bw, off + pre.length * 3, none⟩) hbw).trans y0
    have y1' := (hB.cell (p := ⟨bw, off + pre.length * 3 + 1, none⟩) hbw).trans y1
    have y2' := (hB.cell (p := ⟨bw, off + pre.length * 3 + 2, none⟩) hbw).trans y2
    have HY := Lib.hid hy
    have hyb := hb y (List.mem_of_getElem? hy)
    have hsb := sumP_bound (l := ws.take pre.length) (fun s hs => hb s (List.mem_of_mem_take hs))
    have htl : ((ws.take pre.length).length : Int) ≤ ws.length := by rw [List.length_take]; omega
    obtain ⟨sm, hsm⟩ : ∃ sm, sm = sumP (ws.take pre.length) := ⟨_, rfl⟩
    have hsucc : sumP (ws.take (pre.length + 1)) = sumP (ws.take pre.length) + ((y.hi : Int) - y.lo) := by
      rw [List.take_add_one, hy]; exact sumP_snoc _ _
    rw [← hsm] at i6 c6 HO hsb hsucc
    have HSM := Lib.hid hsm
    have HSU := Lib.hid hsucc
    have hs1 : -4294967296 ≤ sm := by omega
    have hs2 : sm ≤ 4294967296 := by omega
    clear hsm hsucc hsb htl hy y0 y1 y2 hcells hb hit ho
    obtain ⟨xn, xb, xl, xh⟩ := x
    obtain ⟨yb, yl, yh⟩ := y
    dsimp only at *
    obtain ⟨hyl, hyh⟩ := hyb
    have hlt' : (pre.length : Int) < ws.length := by omega
    have hg1 : decide (ws.length ≤ pre.length) = false := by simp; omega
    have hg2 : decide ((ws.length : Int) ≤ (pre.length : Int)) = false := by simp; omega
    by_cases hall : (xb = yb ∧ xl = yl ∧ xh = yh) ∧ (xn : Int) = sm
    · obtain ⟨⟨rfl, rfl, rfl⟩, hn⟩ := hall
      subst hn
      by_cases hm : (pre.length : Int) + 1 = most
      · have hmb : (((pre.length : Int) + 1) == most) = true := by simpa using hm
        have HM := Lib.hid hm
        clear hm
        gi_wp2
        refine quiet_round (by kernel_rfl) (by kernel_rfl) (by kernel_rfl) ?_
        repeat (gi_big_quiet_step (fail))
        refine wpQuietIn_nil ?_
        intro _ hw'
        obtain ⟨nq, hw''⟩ := hw'
        subst hw''
        gi_wp2
        refine ⟨((((keepsDrewN W nq).trans (KeepsOthers.setCell _ _ _)).trans (KeepsOthers.setCell _ _ _)).trans (KeepsOthers.setCell _ _ _)).from _, ⟨rfl, true, ?_, ?_⟩, ?_⟩
        · rw [HO.out, if_pos (by simp [HY.out]), if_pos HM.out]
        · exact Boxed.set _ (Boxed.other (Boxed.other (show Boxed (W.drewN nq) _ _ _ from i2) (by omega) _) (by omega) _)
        · exact (((below_drewN hB _).setCell (p := ⟨w.heap.size + 1 + 1 + 1 + 1 + 1 + 1, 0, none⟩) (by simp; omega) _).setCell (p := ⟨w.heap.size + 1 + 1 + 1 + 1 + 1, 0, none⟩) (by simp; omega) _).setCell (p := ⟨w.heap.size + 1 + 1, 0, none⟩) (by simp; omega) _
      · have hmb : (((pre.length : Int) + 1) == most) = false := by simpa using hm
        have HM := Lib.hid hm
        clear hm
        gi_wp2
        refine quiet_round (by kernel_rfl) (by kernel_rfl) (by kernel_rfl) ?_
        repeat (gi_big_quiet_step (fail))
        refine wpQuietIn_nil ?_
        intro _ hw'
        obtain ⟨nq, hw''⟩ := hw'
        subst hw''
        gi_wp2
        refine ⟨(((keepsDrewN W nq).trans (KeepsOthers.setCell _ _ _)).trans (KeepsOthers.setCell _ _ _)).from _, ?_, ⟨?_, ?_, ?_, ?_, ?_, ?_, ?_⟩, ?_⟩
        · exact ((kpDrewN (fun k => k = w.heap.size + 1 + 1 ∨ k = w.heap.size + 1 + 1 + 1 + 1 + 1 ∨ k = w.heap.size + 1 + 1 + 1 + 1 + 1 + 1) W nq).trans (KpF.setCell (Fp := fun _ k => k = w.heap.size + 1 + 1 ∨ k = w.heap.size + 1 + 1 + 1 + 1 + 1 ∨ k = w.heap.size + 1 + 1 + 1 + 1 + 1 + 1) _ _ (Or.inr (Or.inr rfl)) (fun k h => h))).trans (KpF.setCell (Fp := fun _ k => k = w.heap.size + 1 + 1 ∨ k = w.heap.size + 1 + 1 + 1 + 1 + 1 ∨ k = w.heap.size + 1 + 1 + 1 + 1 + 1 + 1) _ _ (Or.inr (Or.inl rfl)) (fun k h => h))
        · rw [HO.out, if_pos (by simp [HY.out]), if_neg HM.out]
        · simp; omega
        · exact Boxed.other (Boxed.other (show Boxed (W.drewN nq) _ _ _ from i0) (by omega) _) (by omega) _
        · exact Boxed.other (Boxed.other (show Boxed (W.drewN nq) _ _ _ from i1) (by omega) _) (by omega) _
        · exact Boxed.other (Boxed.other (show Boxed (W.drewN nq) _ _ _ from i2) (by omega) _) (by omega) _
        · have hpl1 : (((pre ++ [(xn, (⟨xb, xl, xh⟩ : PSpan))]).length : Nat) : Int) = (pre.length : Int) + 1 := by simp
          rw [hpl1]
          exact Boxed.set _ (Boxed.other (show Boxed (W.drewN nq) _ _ _ from i5) (by omega) _)
        · have hpl1 : (pre ++ [(xn, (⟨xb, xl, xh⟩ : PSpan))]).length = pre.length + 1 := by simp
          rw [hpl1, HSU.out, show (xn : Int) + ((xh : Int) - xl) = xn + xh - xl from by omega]
          exact Boxed.other (Boxed.set _ (show Boxed (W.drewN nq) _ _ _ from i6)) (by omega) _
        · exact ((below_drewN hB _).setCell (p := ⟨w.heap.size + 1 + 1 + 1 + 1 + 1 + 1, 0, none⟩) (by simp; omega) _).setCell (p := ⟨w.heap.size + 1 + 1 + 1 + 1 + 1, 0, none⟩) (by simp; omega) _
    · have HALL := Lib.hid hall
      by_cases e0 : xb = yb
      · subst e0
        by_cases e1 : xl = yl
        · subst e1
          by_cases e2 : xh = yh
          · subst e2
            have e3 : ((xn : Int) != sm) = true := by simp at hall ⊢; exact hall
            clear hall
            gi_wp2
            refine quiet_round (by kernel_rfl) (by kernel_rfl) (by kernel_rfl) ?_
            repeat (gi_big_quiet_step (fail))
            refine wpQuietIn_nil ?_
            intro _ hw'
            obtain ⟨nq, hw''⟩ := hw'
            subst hw''
            gi_wp2
            refine ⟨((keepsDrewN W nq).trans (KeepsOthers.setCell _ _ _)).from _, ⟨rfl, false, by rw [HO.out]; exact if_neg (fun h => HALL.out (by simpa [HY.out, eq_comm] using h)), (show Boxed (W.drewN nq) _ _ _ from i2).set _⟩, (below_drewN hB _).setCell (p := ⟨w.heap.size + 1 + 1, 0, none⟩) (by simp; omega) _⟩
          · have e3 : ((xh : Int) == (yh : Int)) = false := by simp; omega
            clear hall
            gi_wp2
            refine quiet_round (by kernel_rfl) (by kernel_rfl) (by kernel_rfl) ?_
            repeat (gi_big_quiet_step (fail))
            refine wpQuietIn_nil ?_
            intro _ hw'
            obtain ⟨nq, hw''⟩ := hw'
            subst hw''
            gi_wp2
            refine ⟨((keepsDrewN W nq).trans (KeepsOthers.setCell _ _ _)).from _, ⟨rfl, false, by rw [HO.out]; exact if_neg (fun h => HALL.out (by simpa [HY.out, eq_comm] using h)), (show Boxed (W.drewN nq) _ _ _ from i2).set _⟩, (below_drewN hB _).setCell (p := ⟨w.heap.size + 1 + 1, 0, none⟩) (by simp; omega) _⟩
        · have e3 : ((xl : Int) == (yl : Int)) = false := by simp; omega
          clear hall
          gi_wp2
          refine quiet_round (by kernel_rfl) (by kernel_rfl) (by kernel_rfl) ?_
          repeat (gi_big_quiet_step (fail))
          refine wpQuietIn_nil ?_
          intro _ hw'
          obtain ⟨nq, hw''⟩ := hw'
          subst hw''
          gi_wp2
          refine ⟨((keepsDrewN W nq).trans (KeepsOthers.setCell _ _ _)).from _, ⟨rfl, false, by rw [HO.out]; exact if_neg (fun h => HALL.out (by simpa [HY.out, eq_comm] using h)), (show Boxed (W.drewN nq) _ _ _ from i2).set _⟩, (below_drewN hB _).setCell (p := ⟨w.heap.size + 1 + 1, 0, none⟩) (by simp; omega) _⟩
      · have e3 : ((xb : Int) == (yb : Int)) = false := by simp; omega
        clear hall
        gi_wp2
        refine quiet_round (by kernel_rfl) (by kernel_rfl) (by kernel_rfl) ?_
        repeat (gi_big_quiet_step (fail))
        refine wpQuietIn_nil ?_
        intro _ hw'
        obtain ⟨nq, hw''⟩ := hw'
        subst hw''
        gi_wp2
        refine ⟨((keepsDrewN W nq).trans (KeepsOthers.setCell _ _ _)).from _, ⟨rfl, false, by rw [HO.out]; exact if_neg (fun h => HALL.out (by simpa [HY.out, eq_comm] using h)), (show Boxed (W.drewN nq) _ _ _ from i2).set _⟩, (below_drewN hB _).setCell (p := ⟨w.heap.size + 1 + 1, 0, none⟩) (by simp; omega) _⟩
  case done =>
    rintro D ys W hD rfl ⟨⟨ho, hpl, i0, i1, i2, i5, i6⟩, hB⟩ hK
    have c0 := i0.cell
    have c2 := i2.cell
    have c5 := i5.cell
    have f2 := i2.frozen
    rw [hil] at c5
    gi_wp2
    have hK' := (KeepsOthers.setCell W ⟨w.heap.size + 1 + 1, 0, none⟩ (.bool true)).same D _ hK rfl
    refine ⟨by simp, .inl ⟨_, _, rfl, run_takeDeferred hK', ?_⟩⟩
    have hc5 := cell_kept (World.cell?_setCell_same' W ⟨w.heap.size + 1 + 1, 0, none⟩ (.bool true) (by rw [c2]; rfl)) (grownBy_putObj' _ D (.deferred none)) (fun r e => by cases e; exact ⟨_, hK', rfl⟩)
    refine ⟨.bool true, ?_, rfl, (hB.setCell (p := ⟨w.heap.size + 1 + 1, 0, none⟩) (by simp; omega) _).trans (belowK_b (w := w) (Nat.le_refl _) _ D _ _ (by omega) hK' rfl rfl)⟩
    simp [results, Try.f24, go_sem, hc5]
  case stop =>
    rintro D c pre W hD hpre ⟨⟨rfl, b, ho, i2⟩, hB⟩ hK
    have hb := onceAt_good (most := most) hit pre hpre
    obtain rfl : b = true := by cases b <;> simp_all
    have c2 := i2.cell
    gi_wp2
    refine ⟨by simp, .inl ⟨_, _, rfl, run_takeDeferred hK, ?_⟩⟩
    have hc5 := cell_kept c2 (grownBy_putObj' _ D (.deferred none)) (fun r e => by cases e; exact ⟨_, hK, rfl⟩)
    refine ⟨.bool true, ?_, rfl, hB.trans (belowK_b (w := w) (Nat.le_refl _) W D _ _ (by omega) hK rfl rfl)⟩
    simp [results, Try.f24, go_sem, hc5]
end Go.Proofs.Ytgokaoajpidhnaa
