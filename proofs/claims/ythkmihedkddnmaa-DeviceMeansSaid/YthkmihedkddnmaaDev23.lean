/- Devices: maps.Equal at a volume's blocks, walked. -/
import Derived.Test.YthkmihedkddnmaaDev22
namespace Go.Proofs.Ythkmihedkddnmaa
open Go.RowKit Go.Maps Wire Cmd
set_option linter.unusedVariables false
set_option linter.unusedSimpArgs false

theorem ris_sub {α : Type} : ∀ {m l : List (Nat × α)}, Ris l → Ris m → (∀ p ∈ l, p ∈ m) → l.length ≤ m.length ∧ (l.length = m.length → l = m)
  | [], [], _, _, _ => ⟨Nat.le_refl _, fun _ => rfl⟩
  | [], x :: l, _, _, h => absurd (h x (List.mem_cons_self ..)) (by simp)
  | y :: m, [], _, _, _ => ⟨Nat.zero_le _, fun h => by cases h⟩
  | y :: m, x :: l, hl, hm, h => by
    obtain ⟨h1, h2⟩ := List.pairwise_cons.1 hl
    obtain ⟨k1, k2⟩ := List.pairwise_cons.1 hm
    by_cases hxy : x = y
    · subst hxy
      have hs : ∀ p ∈ l, p ∈ m := fun p hp => by
        rcases List.mem_cons.1 (h p (List.mem_cons_of_mem _ hp)) with e | hq
        · have := h1 p hp
          rw [e] at this
          omega
        · exact hq
      obtain ⟨i1, i2⟩ := ris_sub h2 k2 hs
      refine ⟨Nat.succ_le_succ i1, fun e => by rw [i2 (Nat.succ.inj e)]⟩
    · have hx : x ∈ m := by
        rcases List.mem_cons.1 (h x (List.mem_cons_self ..)) with e | hq
        · exact absurd e hxy
        · exact hq
      have hs : ∀ p ∈ x :: l, p ∈ m := fun p hp => by
        rcases List.mem_cons.1 (h p hp) with e | hq
        · have a1 := k1 x hx
          rcases List.mem_cons.1 hp with e2 | hp2
          · exact absurd (e2.symm.trans e) hxy
          · have := h1 p hp2
            rw [e] at this
            omega
        · exact hq
      obtain ⟨i1, _⟩ := ris_sub hl k2 hs
      exact ⟨Nat.le_succ_of_le i1, fun e => absurd e (by simp only [List.length_cons] at i1 ⊢; omega)⟩
theorem ris_all {α : Type} {l m : List (Nat × α)} (hl : Ris l) (hm : Ris m) (hn : l.length = m.length) (h : ∀ p ∈ l, getA p.1 m = some p.2) : l = m :=
  (ris_sub hl hm (fun p hp => getA_some (h p hp))).2 hn
section
variable {P : Program} {ops : Array Oper} {rest : List Oper} {o : Oper} {a : Act} {Q : Exit → Act → World → Prop} {w : World}
theorem wpList_yes (hw : Region.wanted o (yielded ops a.tmps) = true) (h : ∀ K : Act → World → Prop, (∀ a w, wpList P ops Q rest a w → K a w) → o.wp P a w K Q) : wpList P ops Q (o :: rest) a w :=
  wpList_step fun K hK => by simp only [hw, if_true]; exact h K hK
theorem wpList_load_yes (hw : Region.wanted o (yielded ops a.tmps) = true) (ty : TypeId) (x : Operand) (ho : o.op = .load ty x) (b of : Nat) (hx : a.eval x = .pointer (some ⟨b, of, none⟩)) (cs : List Value) (d : TypeDesc) (hc : w.rangeAt b of cs)
    (hu : P.underlying ty = some d) (hd : d.isRow = true) (hi : (P.info? ty).map (·.size) = some cs.length)
    (h : wpList P ops Q rest (a.put o.dst (.agg cs.toArray)) w) : wpList P ops Q (o :: rest) a w := by
  refine wpList_yes hw fun K hK => ?_
  unfold Oper.wp execOp
  simp only [ho, hx, Instr.loadAt, Instr.sureAddr, Sem.run_bind, Sem.run_pure, Result.andThen_ok, run_loadVar_mid w b of ty cs d hc hu hd hi]
  exact hK _ _ h
end
theorem keyI_inv {key : Value} {kl : Lit} (h : keyOf Try.prog 3 key = some kl) : ∃ x : Int, key = .int .i64 x := by
  obtain ⟨x, rfl, _⟩ := Maps.keyOf_int_inv undInt h
  exact ⟨x, rfl⟩
theorem MapL.blkAtOk {w : World} {b : Nat} {m : List (Nat × List UInt8)} (h : MapL w Try.prog 3 RBlk .i64 blkD b m) {n : Nat} (hn : n < 9223372036854775808) :
    (Instr.lookup 51 (.map (some b)) (.int .i64 (n : Int)) true).run Try.prog w = .ok (.tuple #[bA (blkAt m n), .bool (getA n m).isSome]) w := by
  have := h.blkOk (k := (n : Int)) (by omega)
  rw [getI_nat] at this
  exact this
set_option maxRecDepth 100000 in
set_option maxHeartbeats 6400000 in
theorem meq_blk (w : World) (b1 b2 : Nat) (m1 m2 : List (Nat × List UInt8)) (h1 : MapL w Try.prog 3 RBlk .i64 blkD b1 m1) (h2 : MapL w Try.prog 3 RBlk .i64 blkD b2 m2) (r1 : Ris m1) (r2 : Ris m2)
    (k1 : ∀ q ∈ m1, q.1 < 9223372036854775808 ∧ q.2.length = 256) (k2 : ∀ q ∈ m2, q.2.length = 256) :
    Calls Try.prog 20 #[.map (some b1), .map (some b2)] w fun e w' => e = .returned (.bool (decide (m1 = m2))) ∧ Below w.heap.size w w' := by
  have l1 := fun ty => h1.len (t := 51) undBlks ty
  have l2 := fun ty => h2.len (t := 51) undBlks ty
  have HR1 := Lib.hid r1
  have HR2 := Lib.hid r2
  have HK1 := Lib.hid k1
  have HK2 := Lib.hid k2
  have H2 := Lib.hid h2
  have HL1 := Lib.hid h1.lt
  have K : Keyed Try.prog 3 := int_keyed undInt
  have hown : w.ownsMap Try.prog 3 RBlk b1 m1.length (encM .i64 blkD m1) := h1
  have HZ : Hid (∀ (X : World) (c : List UInt8), c.length = 256 → (storeCells ⟨X.heap.size, 0, none⟩ (bV c)).run Try.prog (X.alloc (.cells Try.zeroCells42 42)) = .ok () (X.alloc (.cells (bV c).toArray 42))) := Lib.hid (fun X c hc => by
    have := run_storeNew (P := Try.prog) X 42 Try.zeroCells42 (bV c).toArray (by rw [zszM]; simp [bV_len, hc]) (by simpa using bV_one c)
    simpa using this)
  have HNE : Hid (∀ (X : World) (c d : List UInt8), c.length = 256 → d.length = 256 → (Op.equalIn 10000 42 (.agg (bV c).toArray) (.agg (bV d).toArray)).run Try.prog X = .ok (c == d) X) := Lib.hid (fun X c d hc hd => run_equalIn_bytes (P := Try.prog) X (t := 42) (e := 5) (n := 256) Try.underlying42 Try.underlying5 rfl rfl 9998 c d hc hd)
  clear r1 r2 k1 k2 h1 h2
  by_cases hlen : m1.length = m2.length
  · have HLEN := Lib.hid hlen
    obtain ⟨n1, hn1⟩ : ∃ n, m1.length = n := ⟨_, rfl⟩
    have HN1 := Lib.hid hn1
    rw [← hlen, hn1] at l2
    rw [hn1] at l1 hown
    clear hlen hn1
    go_enter Try.func20, Try.ntmps20
    go_wp2_with (at_range; refine wpList_range_own _ rfl _ 51 rfl 3 42 K undBlks RBlk b1 _ _ rfl hown ?_; intro w0 hrg0 hg0 hs0)
    have HB0 : Hid (Below w.heap.size w w0) := Lib.hid ⟨hg0.os, hg0.tape, hg0.output, hg0.size, fun k hk => hg0.block k hk (by simp)⟩
    have HRG0 := Lib.hid hrg0
    clear hrg0 hg0 hs0 l1 l2 hown
    go_frame
    go_loopw [17] (fun _ wr => ∃ (left : Lit → Bool) (cnt : Nat), wr.ranges Try.prog 3 RBlk b1 w.heap.size n1 (encM .i64 blkD m1) left cnt ∧ (∀ p ∈ m1, left (.int .i64 (p.1 : Int)) = false → getA p.1 m2 = some p.2) ∧ Below w.heap.size w wr) (fun _ wr => wr.rangeLeft b1 w.heap.size)
    case atStart =>
      refine ⟨_, _, HRG0.out, fun p hp hl => ?_, HB0.out⟩
      rw [has_enc] at hl
      cases hg : getA p.1 m1 with
      | some x => rw [hg] at hl; cases hl
      | none => exact absurd rfl (getA_none hg _ hp)
    case round =>
      obtain ⟨left, cnt, hrg, hgood, hbw⟩ := hrel
      have HGOOD := Lib.hid hgood
      have HBW := Lib.hid hbw
      clear hgood hbw
      go_wp2_with (at_next; refine wpList_next_ranges _ rfl _ rfl 3 K RBlk (Value.int .i64) (fun c : {c : List UInt8 // c.length = 256} => bA c.1) (fun key kl hkey => keyI_inv hkey) (fun v y hv => RBlk_shape hv) b1 w.heap.size _ _ _ _ rfl hrg ?_ ?_)
      · intro _ hl0
        have HE : Hid (decide (m1 = m2) = true) := Lib.hid (decide_eq_true (ris_all HR1.out HR2.out HLEN.out (fun p hp => HGOOD.out p hp (hl0 _))))
        go_wp2_with fail
        go_ret
        exact ⟨by rw [HE.out]; rfl, HBW.out⟩
      · intro x c hcl kl yd yp w1 cnt1 hkey hlx hv hat hrg1 hlt hg1 hs1 hen
        obtain ⟨x', ex, rfl, hwx⟩ := Maps.keyOf_int_inv undInt hkey
        cases ex
        obtain ⟨kn, y, rfl, hgy, hyd⟩ := at_found hat
        have hyl := (HK1.out _ (getA_some hgy)).2
        have hyc : c = y := by
          rw [hyd] at hv
          obtain ⟨_, hval, _⟩ := RBlk_inv hv
          exact bA_inj hval
        subst hyc
        have HGY := Lib.hid hgy
        have HLX := Lib.hid hlx
        have HCN := Lib.hid hlt
        have HLE := Lib.hid hrg.left_eq
        have HRG1 := Lib.hid hrg1
        have HKN : Hid (kn < 9223372036854775808) := Lib.hid ((HK1.out _ (getA_some hgy)).1)
        have HBW1 : Hid (Below w.heap.size w w1) := Lib.hid (HBW.out.grown hg1 HBW.out.size (fun k e => by cases e; exact Nat.le_refl _))
        have HLK : Hid (∀ X, Below w.heap.size w X → (Instr.lookup 51 (.map (some b2)) (.int .i64 (kn : Int)) true).run Try.prog X = .ok (.tuple #[bA (blkAt m2 kn), .bool (getA kn m2).isSome]) X) := Lib.hid (fun X hX => (H2.out.below hX).blkAtOk HKN.out)
        obtain ⟨d, hd⟩ : ∃ d, blkAt m2 kn = d := ⟨_, rfl⟩
        obtain ⟨q, hq⟩ : ∃ q, (getA kn m2).isSome = q := ⟨_, rfl⟩
        have hdl : d.length = 256 := by rw [← hd]; exact blkAt_len HK2.out kn
        have HD := Lib.hid hd
        have HQ := Lib.hid hq
        rw [hd, hq] at HLK
        clear hkey hlx hv hat hrg1 hlt hs1 hgy hyd hwx hg1 hrg hyl hd hq
        have hst1 : (storeCells ⟨w1.heap.size, 0, none⟩ (bV c)).run Try.prog (w1.alloc (.cells Try.zeroCells42 42)) = .ok () (w1.alloc (.cells (bV c).toArray 42)) := HZ.out w1 c hcl
        have hcs : (bV c).toArray.size = 256 := by simp [bV_len, hcl]
        have hds : (bV d).toArray.size = 256 := by simp [bV_len, hdl]
        obtain ⟨w2, hw2⟩ : ∃ W, w1.alloc (.cells (bV c).toArray 42) = W := ⟨_, rfl⟩
        have hb2 : Below w1.heap.size w1 w2 := by rw [← hw2]; exact balloc (Below.refl _ _) _
        have hx2 : w2.heap[w1.heap.size]? = some (.cells (bV c).toArray 42 (0, 0)) := by rw [← hw2]; exact heap_alloc_new w1 _
        have hst2 : (storeCells ⟨w2.heap.size, 0, none⟩ (bV d)).run Try.prog (w2.alloc (.cells Try.zeroCells42 42)) = .ok () (w2.alloc (.cells (bV d).toArray 42)) := HZ.out w2 d hdl
        obtain ⟨w3, hw3⟩ : ∃ W, w2.alloc (.cells (bV d).toArray 42) = W := ⟨_, rfl⟩
        have hb3 : Below w2.heap.size w2 w3 := by rw [← hw3]; exact balloc (Below.refl _ _) _
        have hx3 : w3.heap[w2.heap.size]? = some (.cells (bV d).toArray 42 (0, 0)) := by rw [← hw3]; exact heap_alloc_new w2 _
        have hlk : (Instr.lookup 51 (.map (some b2)) (.int .i64 (kn : Int)) true).run Try.prog w2 = .ok (.tuple #[.agg (bV d).toArray, .bool q]) w2 := HLK.out w2 (bthen HBW1.out hb2)
        have HB3 := Lib.hid (bthen hb2 hb3)
        have HX3 := Lib.hid (And.intro ((hb3.block _ (Array.getElem?_eq_some_iff.1 hx2).1).trans hx2) hx3)
        clear hb2 hx2 hb3 hx3
        unfold bA at hen
        cases q with
        | false =>
          have HE : Hid (decide (m1 = m2) = false) := Lib.hid (decide_eq_false (fun e => by
            have h1 := HGY.out
            rw [e] at h1
            have h2 := HQ.out
            rw [h1] at h2
            cases h2))
          go_wp2_with fail
          go_ret
          exact ⟨by rw [HE.out]; rfl, bthen HBW1.out HB3.out⟩
        | true =>
          have hne := HNE.out w3 c d hcl hdl
          have HI := Lib.hid (And.intro (infoB hcl) (infoB hdl))
          obtain ⟨z, hz⟩ : ∃ z, (c == d) = z := ⟨_, rfl⟩
          have HZZ := Lib.hid hz
          rw [hz] at hne
          clear hz
          cases z with
          | false =>
            have HE : Hid (decide (m1 = m2) = false) := Lib.hid (decide_eq_false (fun e => by
              have h1 := HGY.out
              rw [e] at h1
              have h2 := HD.out
              unfold blkAt at h2
              rw [h1] at h2
              have h3 := HZZ.out
              rw [show c = d from h2, beq_self_eq_true] at h3
              cases h3))
            go_wp2_with (first
              | (refine wpList_load_yes (by kernel_rfl) 42 _ rfl w1.heap.size 0 rfl (bV c) _ (blkBox HX3.out.1) Try.underlying42 rfl HI.out.1 ?_)
              | (refine wpList_load_yes (by kernel_rfl) 42 _ rfl w2.heap.size 0 rfl (bV d) _ (blkBox HX3.out.2) Try.underlying42 rfl HI.out.2 ?_))
            go_ret
            exact ⟨by rw [HE.out]; rfl, bthen HBW1.out HB3.out⟩
          | true =>
            go_wp2_with (first
              | (refine wpList_load_yes (by kernel_rfl) 42 _ rfl w1.heap.size 0 rfl (bV c) _ (blkBox HX3.out.1) Try.underlying42 rfl HI.out.1 ?_)
              | (refine wpList_load_yes (by kernel_rfl) 42 _ rfl w2.heap.size 0 rfl (bV d) _ (blkBox HX3.out.2) Try.underlying42 rfl HI.out.2 ?_))
            have hg3 : w1.grownBy w3 none := ⟨HB3.out.os, HB3.out.tape, HB3.out.output, HB3.out.size, fun k hk _ => HB3.out.block k hk⟩
            have HRG3 := Lib.hid (HRG1.out.kept hg3 (by simp) (by simp))
            go_roundw
            case rel =>
              refine ⟨_, cnt1, HRG3.out, fun p hp hl => ?_, bthen HBW1.out HB3.out⟩
              rw [same_enc] at hl
              by_cases e : p.1 = kn
              · have hpc : p.2 = c := by
                  have h1 := HGY.out
                  have h2 : getA p.1 m1 = some p.2 := by
                    obtain ⟨i, hi⟩ := List.getElem?_of_mem hp
                    exact getA_at HR1.out hi
                  rw [e, h1] at h2
                  exact (Option.some.inj h2).symm
                have h2 := HD.out
                have h3 := HQ.out
                unfold blkAt at h2
                cases hg : getA kn m2 with
                | none => rw [hg] at h3; cases h3
                | some x =>
                  rw [hg] at h2
                  have h4 : x = d := h2
                  rw [e, hg, hpc, h4, eq_of_beq HZZ.out]
              · have e2 : (p.1 == kn) = false := by rw [beq_eq_false_iff_ne]; exact e
                rw [e2] at hl
                exact HGOOD.out p hp (by simpa using hl)
            case measure => rw [HRG3.out.left_eq, HLE.out]; exact HCN.out
  · have HE : Hid (decide (m1 = m2) = false) := Lib.hid (decide_eq_false (fun e => hlen (by rw [e])))
    have hne : ((m1.length : Int) == (m2.length : Int)) = false := by rw [beq_eq_false_iff_ne]; omega
    obtain ⟨n1, hn1⟩ : ∃ n, m1.length = n := ⟨_, rfl⟩
    obtain ⟨n2, hn2⟩ : ∃ n, m2.length = n := ⟨_, rfl⟩
    rw [hn1] at l1 hne
    rw [hn2] at l2 hne
    clear hlen hn1 hn2 hown
    go_enter Try.func20, Try.ntmps20
    go_wp2_with fail
    go_ret
    exact ⟨by rw [HE.out]; rfl, Below.refl _ _⟩
end Go.Proofs.Ythkmihedkddnmaa
