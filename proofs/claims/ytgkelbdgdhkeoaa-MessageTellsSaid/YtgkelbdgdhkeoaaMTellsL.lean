/- The law MessageTells, walked. -/
import Derived.Deep.RegionHeld3
import Derived.Test.YtgkelbdgdhkeoaaMCom
import Derived.Test.YtgkelbdgdhkeoaaMsg31
import Derived.Test.YtgkelbdgdhkeoaaMsg16
import Derived.Test.YtgkelbdgdhkeoaaMsg14
import Derived.Test.YtgkelbdgdhkeoaaMsg4
namespace Go.Proofs.Ytgkelbdgdhkeoaa
open Go.RowKit
set_option linter.unusedVariables false
set_option linter.unusedSimpArgs false
open Wire Cmd

theorem rdOneT {w : World} {sl : Value} {n : Nat} {xs : List Value} (h : Rd w 1 sl n xs) : sl.oneCell' = true := by obtain ⟨_, _, rfl, _⟩ := h; rfl
theorem strB_eqM (a b : List UInt8) : ((strB a).toList == (strB b).toList) = (a == b) := by
  rw [strB_toList, strB_toList]
theorem msL_d1 (b : Ms0) (t1 t2 : Value) : msL b t1 t2 = ([.int .i64 b.k, .int .u64 (b.epoch : Int)] ++ stL b.st ++ [.bool b.lead, .int .u64 (b.seq : Int)] ++ [.int .i64 b.op.k, .int .u64 (b.op.vol : Int), .int .u64 (b.op.to : Int), .int .i64 b.op.size, .int .i64 b.op.pl, .int .i64 b.op.count]) ++ ([t1] ++ (.int .i64 b.blocks :: .int .u64 (b.num : Int) :: .int .i64 b.fro :: ([.int .u64 (b.ne : Int), .int .u64 (b.ns : Int)] ++ itL b.item t2))) := rfl
theorem msL_d2 (b : Ms0) (t1 t2 : Value) : msL b t1 t2 = ([.int .i64 b.k, .int .u64 (b.epoch : Int)] ++ stL b.st ++ [.bool b.lead, .int .u64 (b.seq : Int)] ++ opL b.op t1 ++ [.int .i64 b.blocks, .int .u64 (b.num : Int), .int .i64 b.fro, .int .u64 (b.ne : Int), .int .u64 (b.ns : Int)] ++ ([.int .i64 b.item.k, .int .u64 (b.item.vol : Int), .int .i64 b.item.size, .int .i64 b.item.blk] ++ bV b.item.data) ++ [.int .i64 b.item.op.k, .int .u64 (b.item.op.vol : Int), .int .u64 (b.item.op.to : Int), .int .i64 b.item.op.size, .int .i64 b.item.op.pl, .int .i64 b.item.op.count]) ++ ([t2] ++ [.int .i64 b.item.blocks]) := by
  rw [msL_iop]
  simp [opL]
theorem msL_d2_len {b : Ms0} {t1 : Value} (h : b.item.data.length = 256) : (([.int .i64 b.k, .int .u64 (b.epoch : Int)] ++ stL b.st ++ [.bool b.lead, .int .u64 (b.seq : Int)] ++ opL b.op t1 ++ [.int .i64 b.blocks, .int .u64 (b.num : Int), .int .i64 b.fro, .int .u64 (b.ne : Int), .int .u64 (b.ns : Int)] ++ ([.int .i64 b.item.k, .int .u64 (b.item.vol : Int), .int .i64 b.item.size, .int .i64 b.item.blk] ++ bV b.item.data) ++ [.int .i64 b.item.op.k, .int .u64 (b.item.op.vol : Int), .int .u64 (b.item.op.to : Int), .int .i64 b.item.op.size, .int .i64 b.item.op.pl, .int .i64 b.item.op.count] : List Value)).length = 288 := by
  simp [stL, opL_len, bV_len, h]
/-- The data of both operations laid anew. -/
theorem BM.data {X : World} {P : Nat} {b : Ms0} {s1 s2 t1 t2 : Value} (h : BM X P b s1 s2) (hd : b.item.data.length = 256) : BM ((X.setCell ⟨P, 16, none⟩ t1).setCell ⟨P, 288, none⟩ t2) P b t1 t2 := by
  have h1 : BM (X.setCell ⟨P, 16, none⟩ t1) P b t1 s2 := BM.put (b' := b) (o := 16) (Y := [t1]) h (msL_d1 b s1 s2) rfl rfl (msL_d1 b t1 s2)
  exact BM.put (b' := b) (o := 288) (Y := [t2]) h1 (msL_d2 b t1 s2) (msL_d2_len hd) rfl (msL_d2 b t1 t2)
theorem own_setCell_tag {W : World} {b o : Nat} {u : Value} {base n : Nat} {sl : Value} {xs : List Value} {cs : Array Value} {f : Nat × Nat} (ho : W.ownsRow base 5 1 sl n xs) (hb : W.heap[b]? = some (.cells cs 81 f)) : (W.setCell ⟨b, o, none⟩ u).ownsRow base 5 1 sl n xs :=
  own_setCells_tag (o := o) (vs := [u]) ho hb
/-- What grows out of nothing leaves all rows. -/
theorem own_grown {W W' : World} {B n : Nat} {v : Value} {xs : List Value} (ho : W.ownsRow B 5 1 v n xs) (hg : W.grownBy W' (Value.slice none 0 0).ownBlock) : W'.ownsRow B 5 1 v n xs :=
  ownsRow_at ho (fun k hk => hg.block k (ownsRow_lt ho k hk) (by simp [Value.ownBlock]))
/-- What spoiling leaves: rows and boxes that lie elsewhere. -/
theorem SpoilP.keep {B n N : Nat} {w wr : World} {ao : Option Addr} {m cap : Nat} {bs : List UInt8} (h : SpoilP B w (.slice ao m cap) n wr) (ho : w.ownsRow B 5 1 (.slice ao m cap) m (bV bs)) (hN : ∀ k ∈ ob (.slice ao m cap), k < N) : ∀ j, N ≤ j → wr.heap[j]? = w.heap[j]? := fun j hj => h.hi j (fun ad n' c e => by
  injection e with e1 e2 e3
  subst e1
  have := hN ad.block (by simp [ob, Value.ownBlock])
  omega)
set_option maxRecDepth 100000 in
set_option maxHeartbeats 25600000 in
theorem messageTells_walk (m o : Ms0) (ok : m.Ok) (oko : o.Ok) (s1 s2 r1 r2 : Value) (w : World) (hd1 : Rd w 1 s1 m.op.data.length (bV m.op.data)) (hd2 : Rd w 1 s2 m.item.op.data.length (bV m.item.op.data)) (he1 : Rd w 1 r1 o.op.data.length (bV o.op.data)) (he2 : Rd w 1 r2 o.item.op.data.length (bV o.item.op.data)) :
    Calls Try.prog 9 #[.agg (msL m s1 s2).toArray, .agg (msL o r1 r2).toArray] w fun e w' => e = .returned (.bool true) ∧ Below w.heap.size w w' := by
  have HD1 := Lib.hid hd1
  have HD2 := Lib.hid hd2
  have HOK := Lib.hid ok
  have HOO := Lib.hid oko
  have CK := Lib.hid (fun W => known19_any W)
  have hl1 : m.op.data.length ≤ 9223372036854775807 := by obtain ⟨_, _, _, _, h, _⟩ := hd1; unfold maxLen at h; exact h
  have hl2 : m.item.op.data.length ≤ 9223372036854775807 := by obtain ⟨_, _, _, _, h, _⟩ := hd2; unfold maxLen at h; exact h
  have hl3 : o.op.data.length ≤ 9223372036854775807 := by obtain ⟨_, _, _, _, h, _⟩ := he1; unfold maxLen at h; exact h
  have hl4 : o.item.op.data.length ≤ 9223372036854775807 := by obtain ⟨_, _, _, _, h, _⟩ := he2; unfold maxLen at h; exact h
  obtain ⟨ao1, cap1, hs1⟩ := rd_slice hd1
  obtain ⟨ao2, cap2, hs2⟩ := rd_slice hd2
  have HS1 := Lib.hid hs1
  have HS2 := Lib.hid hs2
  obtain ⟨AL, hAL, hal, hao⟩ : ∃ L, msL m s1 s2 = L ∧ L.length = 290 ∧ ∀ u ∈ L, u.oneCell' = true := ⟨_, rfl, msL_len ok.item.data, msL_one (rdOneT hd1) (rdOneT hd2)⟩
  obtain ⟨PL, hPL, hpl⟩ : ∃ L, msL o r1 r2 = L ∧ L.length = 290 := ⟨_, rfl, msL_len oko.item.data⟩
  obtain ⟨IA, hIA, hia⟩ : ∃ L, itL m.item s2 = L ∧ L.length = 268 := ⟨_, rfl, itL_len ok.item.data⟩
  obtain ⟨IP, hIP, hip⟩ : ∃ L, itL o.item r2 = L ∧ L.length = 268 := ⟨_, rfl, itL_len oko.item.data⟩
  have HAL := Lib.hid hAL
  have HAO := Lib.hid (And.intro hal hao)
  have HIA : Hid ((Try.prog.info? 81).map (·.size) = some AL.length) := Lib.hid (infoM hal)
  have HIP : Hid ((Try.prog.info? 81).map (·.size) = some PL.length) := Lib.hid (infoM hpl)
  have HJA : Hid ((Try.prog.info? 79).map (·.size) = some IA.length) := Lib.hid (by rw [hia]; exact infoIt)
  have HJP : Hid ((Try.prog.info? 79).map (·.size) = some IP.length) := Lib.hid (by rw [hip]; exact infoIt)
  have CM1 : Hid (∀ X, Below w.heap.size w X → Calls Try.prog 47 #[.agg AL.toArray] X fun e w' => e = .returned (.bool (decide (9000 < (m.op.data.length : Int)) || decide (9000 < (m.item.op.data.length : Int)))) ∧ Below X.heap.size X w') := Lib.hid (fun X hX => by
    rw [← hAL]
    exact much19_any m s1 s2 X ok.item.data (hd1.below hX) (hd2.below hX) hl1 hl2)
  have CM2 : Hid (∀ X, Below w.heap.size w X → Calls Try.prog 47 #[.agg PL.toArray] X fun e w' => e = .returned (.bool (decide (9000 < (o.op.data.length : Int)) || decide (9000 < (o.item.op.data.length : Int)))) ∧ Below X.heap.size X w') := Lib.hid (fun X hX => by
    rw [← hPL]
    exact much19_any o r1 r2 X oko.item.data (he1.below hX) (he2.below hX) hl3 hl4)
  have CB1 : Hid (∀ X, Below w.heap.size w X → Calls Try.prog 49 #[.agg AL.toArray] X (PackP X (packM m))) := Lib.hid (fun X hX => by
    rw [← hAL]
    exact bytesM_any m ok s1 s2 X (hd1.below hX) (hd2.below hX))
  have CB2 : Hid (∀ X, Below w.heap.size w X → Calls Try.prog 49 #[.agg PL.toArray] X (PackP X (packM o))) := Lib.hid (fun X hX => by
    rw [← hPL]
    exact bytesM_any o oko r1 r2 X (he1.below hX) (he2.below hX))
  have CS1 : Hid (∀ X, Below w.heap.size w X → Calls Try.prog 50 #[.agg AL.toArray, .agg PL.toArray] X fun e w' => e = .returned (.bool (msEq m o)) ∧ Below X.heap.size X w') := Lib.hid (fun X hX => by
    rw [← hAL, ← hPL]
    exact sameM_any m o s1 s2 r1 r2 X ok.item.data oko.item.data (hd1.below hX) (hd2.below hX) (he1.below hX) (he2.below hX))
  have CS2 : Hid (∀ X, Below w.heap.size w X → Calls Try.prog 51 #[.agg AL.toArray, .agg PL.toArray] X fun e w' => e = .returned (.bool (msEq m o)) ∧ Below X.heap.size X w') := Lib.hid (fun X hX => by
    rw [← hAL, ← hPL]
    exact rsameM_any m o s1 s2 r1 r2 X ok.item.data oko.item.data (hd1.below hX) (hd2.below hX) (he1.below hX) (he2.below hX))
  have CI1 : Hid (∀ X, Below w.heap.size w X → Calls Try.prog 52 #[.agg IA.toArray, .agg IP.toArray] X fun e w' => e = .returned (.bool (itEq m.item o.item)) ∧ Below X.heap.size X w') := Lib.hid (fun X hX => by
    rw [← hIA, ← hIP]
    exact sameI_any m.item o.item s2 r2 X ok.item.data oko.item.data (hd2.below hX) (he2.below hX))
  have CI2 : Hid (∀ X, Below w.heap.size w X → Calls Try.prog 53 #[.agg IA.toArray, .agg IP.toArray] X fun e w' => e = .returned (.bool (itEq m.item o.item)) ∧ Below X.heap.size X w') := Lib.hid (fun X hX => by
    rw [← hIA, ← hIP]
    exact rsameI_any m.item o.item s2 r2 X ok.item.data oko.item.data (hd2.below hX) (he2.below hX))
  have HR1 : Hid (∀ (X : World), X.rangeAt w.heap.size 0 AL → X.rangeAt w.heap.size 22 IA) := Lib.hid (fun X hX => by
    rw [← hIA]
    rw [← hAL] at hX
    exact (ms_at hX).r22)
  have HR2 : Hid (∀ (X : World), X.rangeAt (w.heap.size + 1) 0 PL → X.rangeAt (w.heap.size + 1) 22 IP) := Lib.hid (fun X hX => by
    rw [← hIP]
    rw [← hPL] at hX
    exact (ms_at hX).r22)
  obtain ⟨W0, hW0⟩ : ∃ W, (w.alloc (.cells AL.toArray 81)).alloc (.cells PL.toArray 81) = W := ⟨_, rfl⟩
  have HBB : Hid (Below w.heap.size w W0) := Lib.hid (by rw [← hW0]; exact balloc (balloc (Below.refl _ _) _) _)
  have HZ0 : Hid (W0.heap.size = w.heap.size + 2) := Lib.hid (by rw [← hW0]; simp)
  have HX0 : Hid (W0.heap[w.heap.size]? = some (.cells AL.toArray 81 (0, 0))) := Lib.hid (by rw [← hW0]; exact (Below.heap_alloc _ _ _ (by simp)).trans (heap_alloc_new w _))
  have HSS : Hid (∀ X, Below W0.heap.size W0 X → (X.rangeAt w.heap.size 0 AL ∧ X.rangeAt (w.heap.size + 1) 0 PL) ∧ Below W0.heap.size W0 X) := Lib.hid (fun X hX => by
    have h1 : W0.heap[w.heap.size + 1]? = some (.cells PL.toArray 81 (0, 0)) := by rw [← hW0]; exact heap_twoM w _ _
    have hz : W0.heap.size = w.heap.size + 2 := HZ0.out
    exact ⟨⟨range_block ((hX.block _ (by omega)).trans HX0.out), range_block ((hX.block _ (by omega)).trans h1)⟩, hX⟩)
  rw [hAL, hPL]
  clear hd1 hd2 he1 he2 ok oko hAL hPL hIA hIP hal hao hpl hia hip hs1 hs2
  obtain ⟨mu, hmu⟩ : ∃ b, (decide (9000 < (m.op.data.length : Int)) || decide (9000 < (m.item.op.data.length : Int))) = b := ⟨_, rfl⟩
  obtain ⟨mo, hmo⟩ : ∃ b, (decide (9000 < (o.op.data.length : Int)) || decide (9000 < (o.item.op.data.length : Int))) = b := ⟨_, rfl⟩
  rw [hmu] at CM1
  rw [hmo] at CM2
  have HMU := Lib.hid hmu
  clear hmu hmo hl1 hl2 hl3 hl4
  cases mu with
  | true =>
    clear HMU
    go_enter Try.func9, Try.ntmps9
    go_wp2_with (refine wpList_load_mid rfl 81 _ rfl w.heap.size 0 rfl AL _ (HSS.out _ (Below.refl _ _)).1.1 Try.underlying81 rfl HIA.out ?_)
    refine (CM1.out _ HBB.out).mono ?_
    rintro e w1 ⟨rfl, hb1⟩
    have HBX := Lib.hid (bthen HBB.out hb1)
    clear hb1 hW0
    go_wp2_with fail
    refine (CK.out _).mono ?_
    rintro e w2 ⟨rfl, hb2⟩
    have HB2 := Lib.hid (bthen HBX.out hb2)
    clear hb2
    go_wp2_with fail
    go_ret
    exact ⟨rfl, HB2.out⟩
  | false =>
    go_enter Try.func9, Try.ntmps9
    go_wp2_with (refine wpList_load_mid rfl 81 _ rfl w.heap.size 0 rfl AL _ (HSS.out _ (Below.refl _ _)).1.1 Try.underlying81 rfl HIA.out ?_)
    refine (CM1.out _ HBB.out).mono ?_
    rintro e w1 ⟨rfl, hb1⟩
    have HB1 := Lib.hid hb1
    clear hb1 hW0
    go_wp2_with (refine wpList_load_met (by kernel_rfl) 81 _ rfl (w.heap.size + 1) 0 rfl PL _ (HSS.out _ HB1.out).1.2 Try.underlying81 rfl HIP.out ?_)
    refine (CM2.out _ (bthen HBB.out HB1.out)).mono ?_
    rintro e w2 ⟨rfl, hb2⟩
    have HB2 := Lib.hid (bthen HB1.out hb2)
    clear hb2
    cases mo with
    | true =>
      have HBX := Lib.hid (bthen HBB.out HB2.out)
      go_wp2_with fail
      refine (CK.out _).mono ?_
      rintro e w2 ⟨rfl, hb2⟩
      have HB2 := Lib.hid (bthen HBX.out hb2)
      clear hb2
      go_wp2_with fail
      go_ret
      exact ⟨rfl, HB2.out⟩
    | false =>
      have HSM : Hid (m.op.data.length ≤ 9000 ∧ m.item.op.data.length ≤ 9000) := Lib.hid (by
        have h := HMU.out
        simp only [Bool.or_eq_false_iff, decide_eq_false_iff_not] at h
        omega)
      clear HMU
      go_wp2_with (refine wpList_load_mid rfl 81 _ rfl w.heap.size 0 rfl AL _ (HSS.out _ HB2.out).1.1 Try.underlying81 rfl HIA.out ?_)
      refine (CB1.out _ (bthen HBB.out HB2.out)).mono ?_
      intro e w3 hP
      obtain ⟨bs, bv, em, rfl, hcs, hbo, hb3⟩ := hP.mform HOK.out
      have HB3 := Lib.hid (bthen HB2.out hb3)
      have HBO := Lib.hid (Rd.of_own hbo)
      have HCS := Lib.hid hcs
      clear hP hcs hbo hb3
      go_wp2_with (refine wpList_load_mid rfl 81 _ rfl (w.heap.size + 1) 0 rfl PL _ (HSS.out _ HB3.out).1.2 Try.underlying81 rfl HIP.out ?_)
      refine (CB2.out _ (bthen HBB.out HB3.out)).mono ?_
      intro e w4 hP
      obtain ⟨cs, cv, fm, rfl, hcs, hco, hb4⟩ := hP.mform HOO.out
      have HB4 := Lib.hid (bthen HB3.out hb4)
      have HBO4 := Lib.hid (HBO.out.below hb4)
      have HCO := Lib.hid (Rd.of_own hco)
      have HCT := Lib.hid hcs
      clear hP hcs hco hb4
      obtain ⟨q, hq⟩ : ∃ q, msEq m o = q := ⟨_, rfl⟩
      obtain ⟨qi, hqi⟩ : ∃ q, itEq m.item o.item = q := ⟨_, rfl⟩
      have HQ := Lib.hid hq
      rw [hq] at CS1 CS2
      rw [hqi] at CI1 CI2
      clear hq hqi
      have HBW := Lib.hid (bthen HBB.out HB4.out)
      have HST : Hid (∀ X, Below w4.heap.size w4 X → (X.rangeAt w.heap.size 0 AL ∧ X.rangeAt (w.heap.size + 1) 0 PL) ∧ Below w4.heap.size w4 X) := Lib.hid (fun X hX => ⟨(HSS.out X (bthen HB4.out hX)).1, hX⟩)
      obtain ⟨aob, capb, rfl⟩ := rd_slice HBO.out
      obtain ⟨aoc, capc, rfl⟩ := rd_slice HCO.out
      go_upto_region 5 with fail
      go_cut [66] (fun t wx => t = .bool false ∧ Below w4.heap.size w4 wx)
      case first =>
        rcases HCS.out with ⟨hy, rfl, rfl⟩ | ⟨hy, rfl, rfl⟩ <;> rcases HCT.out with ⟨hz, rfl, rfl⟩ | ⟨hz, rfl, rfl⟩
        · have HEQ : Hid (((strB (bsM m)).toList == (strB (bsM o)).toList) = q) := Lib.hid (by rw [strB_eqM, ← HQ.out]; exact bsM_inj HOK.out HOO.out hy hz)
          have HXT : Hid (∀ X, Below w4.heap.size w4 X → ((convert 24 9 (.slice aob (bsM m).length capb)).run Try.prog X).andThen (fun a w' => Result.ok (Next.value a) w') = .ok (.value (.string (strB (bsM m)))) X) := Lib.hid (fun X hX => run_textM X _ _ _ (HBO4.out.below hX))
          have HYT : Hid (∀ X, Below w4.heap.size w4 X → ((convert 24 9 (.slice aoc (bsM o).length capc)).run Try.prog X).andThen (fun a w' => Result.ok (Next.value a) w') = .ok (.value (.string (strB (bsM o)))) X) := Lib.hid (fun X hX => run_textM X _ _ _ (HCO.out.below hX))
          clear hy hz
          generalize strB (bsM m) = SX at *
          generalize strB (bsM o) = SY at *
          generalize (bsM m).length = nx at *
          generalize (bsM o).length = ny at *
          refine wp_region_held_drew (S := fun X => (X.rangeAt w.heap.size 0 AL ∧ X.rangeAt (w.heap.size + 1) 0 PL) ∧ Below w4.heap.size w4 X) (by kernel_rfl) (HST.out _ (Below.refl _ _).drew) (fun hHeld => ?_)
          refine wpAnyH_take (i := 0) (v := _) rfl (by kernel_rfl) (by kernel_rfl) (by kernel_rfl) (fun _ _ _ h => h) (yieldsIf_load_mid (by rfl) 81 _ rfl (w.heap.size) (0) rfl (AL) _ (fun w hw => hw.1.1) (Try.underlying81) rfl (HIA.out)) (by assumption) ?_
          simp only [List.getElem_toArray, List.getElem_cons_zero, List.getElem_cons_succ, Act.put, List.setIfInBounds_toArray, List.set_cons_zero, List.set_cons_succ]
          refine wpAnyH_take (i := 1) (v := _) rfl (by kernel_rfl) (by kernel_rfl) (by kernel_rfl) (fun _ _ _ h => h) (yieldsIf_load_mid (by rfl) 81 _ rfl ((w.heap.size + 1)) (0) rfl (PL) _ (fun w hw => hw.1.2) (Try.underlying81) rfl (HIP.out)) (by assumption) ?_
          simp only [List.getElem_toArray, List.getElem_cons_zero, List.getElem_cons_succ, Act.put, List.setIfInBounds_toArray, List.set_cons_zero, List.set_cons_succ]
          refine wpAnyH_take (i := 3) (v := _) rfl (by kernel_rfl) (by kernel_rfl) (by kernel_rfl) (fun _ _ _ h => h) (yieldsIf_load_mid (by rfl) 81 _ rfl (w.heap.size) (0) rfl (AL) _ (fun w hw => hw.1.1) (Try.underlying81) rfl (HIA.out)) (by assumption) ?_
          simp only [List.getElem_toArray, List.getElem_cons_zero, List.getElem_cons_succ, Act.put, List.setIfInBounds_toArray, List.set_cons_zero, List.set_cons_succ]
          refine wpAnyH_take (i := 4) (v := _) rfl (by kernel_rfl) (by kernel_rfl) (by kernel_rfl) (fun _ _ _ h => h) (yieldsIf_load_mid (by rfl) 81 _ rfl ((w.heap.size + 1)) (0) rfl (PL) _ (fun w hw => hw.1.2) (Try.underlying81) rfl (HIP.out)) (by assumption) ?_
          simp only [List.getElem_toArray, List.getElem_cons_zero, List.getElem_cons_succ, Act.put, List.setIfInBounds_toArray, List.set_cons_zero, List.set_cons_succ]
          refine wpAnyH_ready (rs := [2]) (by kernel_rfl) (by simp) ?_
          refine AllReadyH.cons rfl (fun K hK => ?_) AllReadyH.nil
          simp only [List.getElem_toArray, List.getElem_cons_zero, List.getElem_cons_succ]
          go_simp
          refine (CS1.out _ (bthen HBW.out hHeld.2)).mono ?_
          rintro e x1 ⟨rfl, hx1⟩
          dsimp only
          refine hK.out _ _ ?_ (fun hHeld => ?_)
          · exact HST.out _ (bthen hHeld.2 hx1)
          clear hK K
          try simp only [Act.put, List.setIfInBounds_toArray, List.set_cons_zero, List.set_cons_succ]
          refine wpAnyH_ready (rs := [5]) (by kernel_rfl) (by simp) ?_
          refine AllReadyH.cons rfl (fun K hK => ?_) AllReadyH.nil
          simp only [List.getElem_toArray, List.getElem_cons_zero, List.getElem_cons_succ]
          go_simp
          refine (CS2.out _ (bthen HBW.out hHeld.2)).mono ?_
          rintro e x2 ⟨rfl, hx2⟩
          dsimp only
          refine hK.out _ _ ?_ (fun hHeld => ?_)
          · exact HST.out _ (bthen hHeld.2 hx2)
          clear hK K
          try simp only [Act.put, List.setIfInBounds_toArray, List.set_cons_zero, List.set_cons_succ]
          refine wpAnyH_take (i := 6) (v := .bool false) rfl (by kernel_rfl) (by kernel_rfl) (by kernel_rfl) (fun _ _ _ h => h) (Or.inl ⟨by rfl, ?_⟩) (by assumption) ?_
          · (intro w hSw; simp only [List.getElem_toArray, List.getElem_cons_zero, List.getElem_cons_succ]; (go_simp; first | done | simp))
          simp only [List.getElem_toArray, List.getElem_cons_zero, List.getElem_cons_succ, Act.put, List.setIfInBounds_toArray, List.set_cons_zero, List.set_cons_succ]
          refine wpAnyH_take (i := 7) (v := ?_) rfl (by kernel_rfl) (by kernel_rfl) (by kernel_rfl) (fun _ _ _ h => h) (Or.inl ⟨by rfl, ?_⟩) (by assumption) ?_
          rotate_left
          · (intro w hSw; (try dsimp only at hSw); simp only [List.getElem_toArray, List.getElem_cons_zero, List.getElem_cons_succ]; go_simp; first | done | with_reducible rfl)
          simp only [List.getElem_toArray, List.getElem_cons_zero, List.getElem_cons_succ, Act.put, List.setIfInBounds_toArray, List.set_cons_zero, List.set_cons_succ]
          refine wpAnyH_take (i := 8) (v := ?_) rfl (by kernel_rfl) (by kernel_rfl) (by kernel_rfl) (fun _ _ _ h => h) (Or.inl ⟨by rfl, ?_⟩) (by assumption) ?_
          rotate_left
          · (intro w hSw; (try dsimp only at hSw); simp only [List.getElem_toArray, List.getElem_cons_zero, List.getElem_cons_succ]; go_simp; first | done | with_reducible rfl)
          simp only [List.getElem_toArray, List.getElem_cons_zero, List.getElem_cons_succ, Act.put, List.setIfInBounds_toArray, List.set_cons_zero, List.set_cons_succ]
          refine wpAnyH_take (i := 9) (v := _) rfl (by kernel_rfl) (by kernel_rfl) (by kernel_rfl) (fun _ _ _ h => h) (yieldsIf_load_mid (by rfl) 79 _ rfl (w.heap.size) (22) rfl (IA) _ (fun w hw => HR1.out w hw.1.1) (Try.underlying79) rfl (HJA.out)) (by assumption) ?_
          simp only [List.getElem_toArray, List.getElem_cons_zero, List.getElem_cons_succ, Act.put, List.setIfInBounds_toArray, List.set_cons_zero, List.set_cons_succ]
          refine wpAnyH_take (i := 10) (v := ?_) rfl (by kernel_rfl) (by kernel_rfl) (by kernel_rfl) (fun _ _ _ h => h) (Or.inl ⟨by rfl, ?_⟩) (by assumption) ?_
          rotate_left
          · (intro w hSw; (try dsimp only at hSw); simp only [List.getElem_toArray, List.getElem_cons_zero, List.getElem_cons_succ]; go_simp; first | done | with_reducible rfl)
          simp only [List.getElem_toArray, List.getElem_cons_zero, List.getElem_cons_succ, Act.put, List.setIfInBounds_toArray, List.set_cons_zero, List.set_cons_succ]
          refine wpAnyH_take (i := 11) (v := _) rfl (by kernel_rfl) (by kernel_rfl) (by kernel_rfl) (fun _ _ _ h => h) (yieldsIf_load_mid (by rfl) 79 _ rfl ((w.heap.size + 1)) (22) rfl (IP) _ (fun w hw => HR2.out w hw.1.2) (Try.underlying79) rfl (HJP.out)) (by assumption) ?_
          simp only [List.getElem_toArray, List.getElem_cons_zero, List.getElem_cons_succ, Act.put, List.setIfInBounds_toArray, List.set_cons_zero, List.set_cons_succ]
          refine wpAnyH_take (i := 13) (v := ?_) rfl (by kernel_rfl) (by kernel_rfl) (by kernel_rfl) (fun _ _ _ h => h) (Or.inl ⟨by rfl, ?_⟩) (by assumption) ?_
          rotate_left
          · (intro w hSw; (try dsimp only at hSw); simp only [List.getElem_toArray, List.getElem_cons_zero, List.getElem_cons_succ]; go_simp; first | done | with_reducible rfl)
          simp only [List.getElem_toArray, List.getElem_cons_zero, List.getElem_cons_succ, Act.put, List.setIfInBounds_toArray, List.set_cons_zero, List.set_cons_succ]
          refine wpAnyH_take (i := 14) (v := _) rfl (by kernel_rfl) (by kernel_rfl) (by kernel_rfl) (fun _ _ _ h => h) (yieldsIf_load_mid (by rfl) 79 _ rfl (w.heap.size) (22) rfl (IA) _ (fun w hw => HR1.out w hw.1.1) (Try.underlying79) rfl (HJA.out)) (by assumption) ?_
          simp only [List.getElem_toArray, List.getElem_cons_zero, List.getElem_cons_succ, Act.put, List.setIfInBounds_toArray, List.set_cons_zero, List.set_cons_succ]
          refine wpAnyH_take (i := 15) (v := ?_) rfl (by kernel_rfl) (by kernel_rfl) (by kernel_rfl) (fun _ _ _ h => h) (Or.inl ⟨by rfl, ?_⟩) (by assumption) ?_
          rotate_left
          · (intro w hSw; (try dsimp only at hSw); simp only [List.getElem_toArray, List.getElem_cons_zero, List.getElem_cons_succ]; go_simp; first | done | with_reducible rfl)
          simp only [List.getElem_toArray, List.getElem_cons_zero, List.getElem_cons_succ, Act.put, List.setIfInBounds_toArray, List.set_cons_zero, List.set_cons_succ]
          refine wpAnyH_take (i := 16) (v := _) rfl (by kernel_rfl) (by kernel_rfl) (by kernel_rfl) (fun _ _ _ h => h) (yieldsIf_load_mid (by rfl) 79 _ rfl ((w.heap.size + 1)) (22) rfl (IP) _ (fun w hw => HR2.out w hw.1.2) (Try.underlying79) rfl (HJP.out)) (by assumption) ?_
          simp only [List.getElem_toArray, List.getElem_cons_zero, List.getElem_cons_succ, Act.put, List.setIfInBounds_toArray, List.set_cons_zero, List.set_cons_succ]
          refine wpAnyH_ready (rs := [12]) (by kernel_rfl) (by simp) ?_
          refine AllReadyH.cons rfl (fun K hK => ?_) AllReadyH.nil
          simp only [List.getElem_toArray, List.getElem_cons_zero, List.getElem_cons_succ]
          go_simp
          refine (CI1.out _ (bthen HBW.out hHeld.2)).mono ?_
          rintro e x3 ⟨rfl, hx3⟩
          dsimp only
          refine hK.out _ _ ?_ (fun hHeld => ?_)
          · exact HST.out _ (bthen hHeld.2 hx3)
          clear hK K
          try simp only [Act.put, List.setIfInBounds_toArray, List.set_cons_zero, List.set_cons_succ]
          refine wpAnyH_ready (rs := [17]) (by kernel_rfl) (by simp) ?_
          refine AllReadyH.cons rfl (fun K hK => ?_) AllReadyH.nil
          simp only [List.getElem_toArray, List.getElem_cons_zero, List.getElem_cons_succ]
          go_simp
          refine (CI2.out _ (bthen HBW.out hHeld.2)).mono ?_
          rintro e x4 ⟨rfl, hx4⟩
          dsimp only
          refine hK.out _ _ ?_ (fun hHeld => ?_)
          · exact HST.out _ (bthen hHeld.2 hx4)
          clear hK K
          try simp only [Act.put, List.setIfInBounds_toArray, List.set_cons_zero, List.set_cons_succ]
          refine wpAnyH_take (i := 18) (v := .bool false) rfl (by kernel_rfl) (by kernel_rfl) (by kernel_rfl) (fun _ _ _ h => h) (Or.inl ⟨by rfl, ?_⟩) (by assumption) ?_
          · (intro w hSw; simp only [List.getElem_toArray, List.getElem_cons_zero, List.getElem_cons_succ]; (go_simp; first | done | simp))
          simp only [List.getElem_toArray, List.getElem_cons_zero, List.getElem_cons_succ, Act.put, List.setIfInBounds_toArray, List.set_cons_zero, List.set_cons_succ]
          refine wpAnyH_take (i := 19) (v := ?_) rfl (by kernel_rfl) (by kernel_rfl) (by kernel_rfl) (fun _ _ _ h => h) (Or.inl ⟨by rfl, ?_⟩) (by assumption) ?_
          rotate_left
          · (intro w hSw; (try dsimp only at hSw); simp only [List.getElem_toArray, List.getElem_cons_zero, List.getElem_cons_succ]; go_simp; first | done | with_reducible rfl)
          simp only [List.getElem_toArray, List.getElem_cons_zero, List.getElem_cons_succ, Act.put, List.setIfInBounds_toArray, List.set_cons_zero, List.set_cons_succ]
          refine wpAnyH_take (i := 20) (v := ?_) rfl (by kernel_rfl) (by kernel_rfl) (by kernel_rfl) (fun _ _ _ h => h) (Or.inl ⟨by rfl, ?_⟩) (by assumption) ?_
          rotate_left
          · (intro w hSw; (try dsimp only at hSw); simp only [List.getElem_toArray, List.getElem_cons_zero, List.getElem_cons_succ]; go_simp; first | done | with_reducible rfl)
          simp only [List.getElem_toArray, List.getElem_cons_zero, List.getElem_cons_succ, Act.put, List.setIfInBounds_toArray, List.set_cons_zero, List.set_cons_succ]
          refine wpAnyH_take (i := 21) (v := ?_) rfl (by kernel_rfl) (by kernel_rfl) (by kernel_rfl) (fun _ _ _ h => h) (Or.inl ⟨by rfl, ?_⟩) (by assumption) ?_
          rotate_left
          · (intro w hSw; (try dsimp only at hSw); simp only [List.getElem_toArray, List.getElem_cons_zero, List.getElem_cons_succ]; go_simp; first | done | with_reducible rfl)
          simp only [List.getElem_toArray, List.getElem_cons_zero, List.getElem_cons_succ, Act.put, List.setIfInBounds_toArray, List.set_cons_zero, List.set_cons_succ]
          refine wpAnyH_take (i := 23) (v := ?_) rfl (by kernel_rfl) (by kernel_rfl) (by kernel_rfl) (fun _ _ _ h => h) (Or.inl ⟨by rfl, ?_⟩) (by assumption) ?_
          rotate_left
          · (intro w hSw; (try dsimp only at hSw); simp only [List.getElem_toArray, List.getElem_cons_zero, List.getElem_cons_succ]; go_simp; first | done | with_reducible rfl)
          simp only [List.getElem_toArray, List.getElem_cons_zero, List.getElem_cons_succ, Act.put, List.setIfInBounds_toArray, List.set_cons_zero, List.set_cons_succ]
          refine wpAnyH_ready (rs := [22]) (by kernel_rfl) (by simp) ?_
          refine AllReadyH.cons rfl (fun K hK => ?_) AllReadyH.nil
          simp only [List.getElem_toArray, List.getElem_cons_zero, List.getElem_cons_succ]
          go_simp
          refine (num19_any _ _).mono ?_
          rintro e y1 ⟨rfl, rfl⟩
          dsimp only
          refine hK.out _ _ ?_ (fun hHeld => ?_)
          · exact hHeld
          clear hK K
          try simp only [Act.put, List.setIfInBounds_toArray, List.set_cons_zero, List.set_cons_succ]
          refine wpAnyH_ready (rs := [24]) (by kernel_rfl) (by simp) ?_
          refine AllReadyH.cons rfl (fun K hK => ?_) AllReadyH.nil
          simp only [List.getElem_toArray, List.getElem_cons_zero, List.getElem_cons_succ]
          go_simp
          refine (num19_any _ _).mono ?_
          rintro e y2 ⟨rfl, rfl⟩
          dsimp only
          refine hK.out _ _ ?_ (fun hHeld => ?_)
          · exact hHeld
          clear hK K
          try simp only [Act.put, List.setIfInBounds_toArray, List.set_cons_zero, List.set_cons_succ]
          refine wpAnyH_take (i := 25) (v := ?_) rfl (by kernel_rfl) (by kernel_rfl) (by kernel_rfl) (fun _ _ _ h => h) (Or.inl ⟨by rfl, ?_⟩) (by assumption) ?_
          rotate_left
          · (intro w hSw; (try dsimp only at hSw); simp only [List.getElem_toArray, List.getElem_cons_zero, List.getElem_cons_succ]; go_simp; first | done | with_reducible rfl)
          simp only [List.getElem_toArray, List.getElem_cons_zero, List.getElem_cons_succ, Act.put, List.setIfInBounds_toArray, List.set_cons_zero, List.set_cons_succ]
          refine wpAnyH_take (i := 26) (v := ?_) rfl (by kernel_rfl) (by kernel_rfl) (by kernel_rfl) (fun _ _ _ h => h) (Or.inl ⟨by rfl, ?_⟩) (by assumption) ?_
          rotate_left
          · (intro w hSw; (try dsimp only at hSw); simp only [List.getElem_toArray, List.getElem_cons_zero, List.getElem_cons_succ]; go_simp; first | done | with_reducible rfl)
          simp only [List.getElem_toArray, List.getElem_cons_zero, List.getElem_cons_succ, Act.put, List.setIfInBounds_toArray, List.set_cons_zero, List.set_cons_succ]
          refine wpAnyH_take (i := 27) (v := ?_) rfl (by kernel_rfl) (by kernel_rfl) (by kernel_rfl) (fun _ _ _ h => h) (Or.inl ⟨by rfl, ?_⟩) (by assumption) ?_
          rotate_left
          · (intro w hSw; (try dsimp only at hSw); simp only [List.getElem_toArray, List.getElem_cons_zero, List.getElem_cons_succ]; go_simp; first | done | with_reducible rfl)
          simp only [List.getElem_toArray, List.getElem_cons_zero, List.getElem_cons_succ, Act.put, List.setIfInBounds_toArray, List.set_cons_zero, List.set_cons_succ]
          clear hx1 hx2 hx3 hx4
          refine wpAnyH_take (i := 28) (v := ?_) rfl (by kernel_rfl) (by kernel_rfl) (by kernel_rfl) (fun _ _ _ h => h) (Or.inl ⟨by rfl, ?_⟩) (by assumption) ?_
          rotate_left
          · (intro w hSw; (try dsimp only at hSw); simp only [List.getElem_toArray, List.getElem_cons_zero, List.getElem_cons_succ]; go_simp; first | done | with_reducible rfl)
          simp only [List.getElem_toArray, List.getElem_cons_zero, List.getElem_cons_succ, Act.put, List.setIfInBounds_toArray, List.set_cons_zero, List.set_cons_succ]
          refine wpAnyH_take (i := 29) (v := .string SX) rfl (by kernel_rfl) (by kernel_rfl) (by kernel_rfl) (fun _ _ _ h => h) (Or.inl ⟨by rfl, ?_⟩) (by assumption) ?_
          · (intro w hSw; simp only [List.getElem_toArray, List.getElem_cons_zero, List.getElem_cons_succ]; (go_simp; exact HXT.out w hSw.2))
          simp only [List.getElem_toArray, List.getElem_cons_zero, List.getElem_cons_succ, Act.put, List.setIfInBounds_toArray, List.set_cons_zero, List.set_cons_succ]
          refine wpAnyH_take (i := 30) (v := ?_) rfl (by kernel_rfl) (by kernel_rfl) (by kernel_rfl) (fun _ _ _ h => h) (Or.inl ⟨by rfl, ?_⟩) (by assumption) ?_
          rotate_left
          · (intro w hSw; (try dsimp only at hSw); simp only [List.getElem_toArray, List.getElem_cons_zero, List.getElem_cons_succ]; go_simp; first | done | with_reducible rfl)
          simp only [List.getElem_toArray, List.getElem_cons_zero, List.getElem_cons_succ, Act.put, List.setIfInBounds_toArray, List.set_cons_zero, List.set_cons_succ]
          refine wpAnyH_take (i := 31) (v := .string SY) rfl (by kernel_rfl) (by kernel_rfl) (by kernel_rfl) (fun _ _ _ h => h) (Or.inl ⟨by rfl, ?_⟩) (by assumption) ?_
          · (intro w hSw; simp only [List.getElem_toArray, List.getElem_cons_zero, List.getElem_cons_succ]; (go_simp; exact HYT.out w hSw.2))
          simp only [List.getElem_toArray, List.getElem_cons_zero, List.getElem_cons_succ, Act.put, List.setIfInBounds_toArray, List.set_cons_zero, List.set_cons_succ]
          refine wpAnyH_take (i := 32) (v := .bool q) rfl (by kernel_rfl) (by kernel_rfl) (by kernel_rfl) (fun _ _ _ h => h) (Or.inl ⟨by rfl, ?_⟩) (by assumption) ?_
          · (intro w hSw; simp only [List.getElem_toArray, List.getElem_cons_zero, List.getElem_cons_succ]; (have hq := HEQ.out; go_simp; first | done | (rw [hq])))
          simp only [List.getElem_toArray, List.getElem_cons_zero, List.getElem_cons_succ, Act.put, List.setIfInBounds_toArray, List.set_cons_zero, List.set_cons_succ]
          refine wpAnyH_take (i := 33) (v := _) rfl (by kernel_rfl) (by kernel_rfl) (by kernel_rfl) (fun _ _ _ h => h) (yieldsIf_load_mid (by rfl) 81 _ rfl (w.heap.size) (0) rfl (AL) _ (fun w hw => hw.1.1) (Try.underlying81) rfl (HIA.out)) (by assumption) ?_
          simp only [List.getElem_toArray, List.getElem_cons_zero, List.getElem_cons_succ, Act.put, List.setIfInBounds_toArray, List.set_cons_zero, List.set_cons_succ]
          refine wpAnyH_take (i := 34) (v := _) rfl (by kernel_rfl) (by kernel_rfl) (by kernel_rfl) (fun _ _ _ h => h) (yieldsIf_load_mid (by rfl) 81 _ rfl ((w.heap.size + 1)) (0) rfl (PL) _ (fun w hw => hw.1.2) (Try.underlying81) rfl (HIP.out)) (by assumption) ?_
          simp only [List.getElem_toArray, List.getElem_cons_zero, List.getElem_cons_succ, Act.put, List.setIfInBounds_toArray, List.set_cons_zero, List.set_cons_succ]
          have hz4 := hHeld
          refine wpAnyH_ready (rs := [35]) (by kernel_rfl) (by simp) ?_
          refine AllReadyH.cons rfl (fun K hK => ?_) AllReadyH.nil
          simp only [List.getElem_toArray, List.getElem_cons_zero, List.getElem_cons_succ]
          go_simp
          refine (CS2.out _ (bthen HBW.out hHeld.2)).mono ?_
          rintro e x5 ⟨rfl, hx5⟩
          dsimp only
          refine hK.out _ _ ?_ (fun hHeld => ?_)
          · exact HST.out _ (bthen hHeld.2 hx5)
          clear hK K
          try simp only [Act.put, List.setIfInBounds_toArray, List.set_cons_zero, List.set_cons_succ]
          refine wpAnyH_take (i := 36) (v := .bool false) rfl (by kernel_rfl) (by kernel_rfl) (by kernel_rfl) (fun _ _ _ h => h) (Or.inl ⟨by rfl, ?_⟩) (by assumption) ?_
          · (intro w hSw; simp only [List.getElem_toArray, List.getElem_cons_zero, List.getElem_cons_succ]; (go_simp; first | done | simp))
          simp only [List.getElem_toArray, List.getElem_cons_zero, List.getElem_cons_succ, Act.put, List.setIfInBounds_toArray, List.set_cons_zero, List.set_cons_succ]
          refine wpAnyH_take (i := 37) (v := ?_) rfl (by kernel_rfl) (by kernel_rfl) (by kernel_rfl) (fun _ _ _ h => h) (Or.inl ⟨by rfl, ?_⟩) (by assumption) ?_
          rotate_left
          · (intro w hSw; (try dsimp only at hSw); simp only [List.getElem_toArray, List.getElem_cons_zero, List.getElem_cons_succ]; go_simp; first | done | with_reducible rfl)
          simp only [List.getElem_toArray, List.getElem_cons_zero, List.getElem_cons_succ, Act.put, List.setIfInBounds_toArray, List.set_cons_zero, List.set_cons_succ]
          refine wpAnyH_take (i := 38) (v := ?_) rfl (by kernel_rfl) (by kernel_rfl) (by kernel_rfl) (fun _ _ _ h => h) (Or.inl ⟨by rfl, ?_⟩) (by assumption) ?_
          rotate_left
          · (intro w hSw; (try dsimp only at hSw); simp only [List.getElem_toArray, List.getElem_cons_zero, List.getElem_cons_succ]; go_simp; first | done | with_reducible rfl)
          simp only [List.getElem_toArray, List.getElem_cons_zero, List.getElem_cons_succ, Act.put, List.setIfInBounds_toArray, List.set_cons_zero, List.set_cons_succ]
          refine wpAnyH_done (by kernel_rfl) ?_ _
          have HB5 := Lib.hid hHeld.2
          clear hHeld hz4 hx5
          go_wp2_with fail
          go_meet
          exact ⟨rfl, HB5.out⟩
        · clear hy hz
          generalize (bsM m).length = nx at *
          refine wp_region_held_drew (S := fun X => (X.rangeAt w.heap.size 0 AL ∧ X.rangeAt (w.heap.size + 1) 0 PL) ∧ Below w4.heap.size w4 X) (by kernel_rfl) (HST.out _ (Below.refl _ _).drew) (fun hHeld => ?_)
          refine wpAnyH_take (i := 0) (v := _) rfl (by kernel_rfl) (by kernel_rfl) (by kernel_rfl) (fun _ _ _ h => h) (yieldsIf_load_mid (by rfl) 81 _ rfl (w.heap.size) (0) rfl (AL) _ (fun w hw => hw.1.1) (Try.underlying81) rfl (HIA.out)) (by assumption) ?_
          simp only [List.getElem_toArray, List.getElem_cons_zero, List.getElem_cons_succ, Act.put, List.setIfInBounds_toArray, List.set_cons_zero, List.set_cons_succ]
          refine wpAnyH_take (i := 1) (v := _) rfl (by kernel_rfl) (by kernel_rfl) (by kernel_rfl) (fun _ _ _ h => h) (yieldsIf_load_mid (by rfl) 81 _ rfl ((w.heap.size + 1)) (0) rfl (PL) _ (fun w hw => hw.1.2) (Try.underlying81) rfl (HIP.out)) (by assumption) ?_
          simp only [List.getElem_toArray, List.getElem_cons_zero, List.getElem_cons_succ, Act.put, List.setIfInBounds_toArray, List.set_cons_zero, List.set_cons_succ]
          refine wpAnyH_take (i := 3) (v := _) rfl (by kernel_rfl) (by kernel_rfl) (by kernel_rfl) (fun _ _ _ h => h) (yieldsIf_load_mid (by rfl) 81 _ rfl (w.heap.size) (0) rfl (AL) _ (fun w hw => hw.1.1) (Try.underlying81) rfl (HIA.out)) (by assumption) ?_
          simp only [List.getElem_toArray, List.getElem_cons_zero, List.getElem_cons_succ, Act.put, List.setIfInBounds_toArray, List.set_cons_zero, List.set_cons_succ]
          refine wpAnyH_take (i := 4) (v := _) rfl (by kernel_rfl) (by kernel_rfl) (by kernel_rfl) (fun _ _ _ h => h) (yieldsIf_load_mid (by rfl) 81 _ rfl ((w.heap.size + 1)) (0) rfl (PL) _ (fun w hw => hw.1.2) (Try.underlying81) rfl (HIP.out)) (by assumption) ?_
          simp only [List.getElem_toArray, List.getElem_cons_zero, List.getElem_cons_succ, Act.put, List.setIfInBounds_toArray, List.set_cons_zero, List.set_cons_succ]
          refine wpAnyH_ready (rs := [2]) (by kernel_rfl) (by simp) ?_
          refine AllReadyH.cons rfl (fun K hK => ?_) AllReadyH.nil
          simp only [List.getElem_toArray, List.getElem_cons_zero, List.getElem_cons_succ]
          go_simp
          refine (CS1.out _ (bthen HBW.out hHeld.2)).mono ?_
          rintro e x1 ⟨rfl, hx1⟩
          dsimp only
          refine hK.out _ _ ?_ (fun hHeld => ?_)
          · exact HST.out _ (bthen hHeld.2 hx1)
          clear hK K
          try simp only [Act.put, List.setIfInBounds_toArray, List.set_cons_zero, List.set_cons_succ]
          refine wpAnyH_ready (rs := [5]) (by kernel_rfl) (by simp) ?_
          refine AllReadyH.cons rfl (fun K hK => ?_) AllReadyH.nil
          simp only [List.getElem_toArray, List.getElem_cons_zero, List.getElem_cons_succ]
          go_simp
          refine (CS2.out _ (bthen HBW.out hHeld.2)).mono ?_
          rintro e x2 ⟨rfl, hx2⟩
          dsimp only
          refine hK.out _ _ ?_ (fun hHeld => ?_)
          · exact HST.out _ (bthen hHeld.2 hx2)
          clear hK K
          try simp only [Act.put, List.setIfInBounds_toArray, List.set_cons_zero, List.set_cons_succ]
          refine wpAnyH_take (i := 6) (v := .bool false) rfl (by kernel_rfl) (by kernel_rfl) (by kernel_rfl) (fun _ _ _ h => h) (Or.inl ⟨by rfl, ?_⟩) (by assumption) ?_
          · (intro w hSw; simp only [List.getElem_toArray, List.getElem_cons_zero, List.getElem_cons_succ]; (go_simp; first | done | simp))
          simp only [List.getElem_toArray, List.getElem_cons_zero, List.getElem_cons_succ, Act.put, List.setIfInBounds_toArray, List.set_cons_zero, List.set_cons_succ]
          refine wpAnyH_take (i := 7) (v := ?_) rfl (by kernel_rfl) (by kernel_rfl) (by kernel_rfl) (fun _ _ _ h => h) (Or.inl ⟨by rfl, ?_⟩) (by assumption) ?_
          rotate_left
          · (intro w hSw; (try dsimp only at hSw); simp only [List.getElem_toArray, List.getElem_cons_zero, List.getElem_cons_succ]; go_simp; first | done | with_reducible rfl)
          simp only [List.getElem_toArray, List.getElem_cons_zero, List.getElem_cons_succ, Act.put, List.setIfInBounds_toArray, List.set_cons_zero, List.set_cons_succ]
          refine wpAnyH_take (i := 8) (v := ?_) rfl (by kernel_rfl) (by kernel_rfl) (by kernel_rfl) (fun _ _ _ h => h) (Or.inl ⟨by rfl, ?_⟩) (by assumption) ?_
          rotate_left
          · (intro w hSw; (try dsimp only at hSw); simp only [List.getElem_toArray, List.getElem_cons_zero, List.getElem_cons_succ]; go_simp; first | done | with_reducible rfl)
          simp only [List.getElem_toArray, List.getElem_cons_zero, List.getElem_cons_succ, Act.put, List.setIfInBounds_toArray, List.set_cons_zero, List.set_cons_succ]
          refine wpAnyH_take (i := 9) (v := _) rfl (by kernel_rfl) (by kernel_rfl) (by kernel_rfl) (fun _ _ _ h => h) (yieldsIf_load_mid (by rfl) 79 _ rfl (w.heap.size) (22) rfl (IA) _ (fun w hw => HR1.out w hw.1.1) (Try.underlying79) rfl (HJA.out)) (by assumption) ?_
          simp only [List.getElem_toArray, List.getElem_cons_zero, List.getElem_cons_succ, Act.put, List.setIfInBounds_toArray, List.set_cons_zero, List.set_cons_succ]
          refine wpAnyH_take (i := 10) (v := ?_) rfl (by kernel_rfl) (by kernel_rfl) (by kernel_rfl) (fun _ _ _ h => h) (Or.inl ⟨by rfl, ?_⟩) (by assumption) ?_
          rotate_left
          · (intro w hSw; (try dsimp only at hSw); simp only [List.getElem_toArray, List.getElem_cons_zero, List.getElem_cons_succ]; go_simp; first | done | with_reducible rfl)
          simp only [List.getElem_toArray, List.getElem_cons_zero, List.getElem_cons_succ, Act.put, List.setIfInBounds_toArray, List.set_cons_zero, List.set_cons_succ]
          refine wpAnyH_take (i := 11) (v := _) rfl (by kernel_rfl) (by kernel_rfl) (by kernel_rfl) (fun _ _ _ h => h) (yieldsIf_load_mid (by rfl) 79 _ rfl ((w.heap.size + 1)) (22) rfl (IP) _ (fun w hw => HR2.out w hw.1.2) (Try.underlying79) rfl (HJP.out)) (by assumption) ?_
          simp only [List.getElem_toArray, List.getElem_cons_zero, List.getElem_cons_succ, Act.put, List.setIfInBounds_toArray, List.set_cons_zero, List.set_cons_succ]
          refine wpAnyH_take (i := 13) (v := ?_) rfl (by kernel_rfl) (by kernel_rfl) (by kernel_rfl) (fun _ _ _ h => h) (Or.inl ⟨by rfl, ?_⟩) (by assumption) ?_
          rotate_left
          · (intro w hSw; (try dsimp only at hSw); simp only [List.getElem_toArray, List.getElem_cons_zero, List.getElem_cons_succ]; go_simp; first | done | with_reducible rfl)
          simp only [List.getElem_toArray, List.getElem_cons_zero, List.getElem_cons_succ, Act.put, List.setIfInBounds_toArray, List.set_cons_zero, List.set_cons_succ]
          refine wpAnyH_take (i := 14) (v := _) rfl (by kernel_rfl) (by kernel_rfl) (by kernel_rfl) (fun _ _ _ h => h) (yieldsIf_load_mid (by rfl) 79 _ rfl (w.heap.size) (22) rfl (IA) _ (fun w hw => HR1.out w hw.1.1) (Try.underlying79) rfl (HJA.out)) (by assumption) ?_
          simp only [List.getElem_toArray, List.getElem_cons_zero, List.getElem_cons_succ, Act.put, List.setIfInBounds_toArray, List.set_cons_zero, List.set_cons_succ]
          refine wpAnyH_take (i := 15) (v := ?_) rfl (by kernel_rfl) (by kernel_rfl) (by kernel_rfl) (fun _ _ _ h => h) (Or.inl ⟨by rfl, ?_⟩) (by assumption) ?_
          rotate_left
          · (intro w hSw; (try dsimp only at hSw); simp only [List.getElem_toArray, List.getElem_cons_zero, List.getElem_cons_succ]; go_simp; first | done | with_reducible rfl)
          simp only [List.getElem_toArray, List.getElem_cons_zero, List.getElem_cons_succ, Act.put, List.setIfInBounds_toArray, List.set_cons_zero, List.set_cons_succ]
          refine wpAnyH_take (i := 16) (v := _) rfl (by kernel_rfl) (by kernel_rfl) (by kernel_rfl) (fun _ _ _ h => h) (yieldsIf_load_mid (by rfl) 79 _ rfl ((w.heap.size + 1)) (22) rfl (IP) _ (fun w hw => HR2.out w hw.1.2) (Try.underlying79) rfl (HJP.out)) (by assumption) ?_
          simp only [List.getElem_toArray, List.getElem_cons_zero, List.getElem_cons_succ, Act.put, List.setIfInBounds_toArray, List.set_cons_zero, List.set_cons_succ]
          refine wpAnyH_ready (rs := [12]) (by kernel_rfl) (by simp) ?_
          refine AllReadyH.cons rfl (fun K hK => ?_) AllReadyH.nil
          simp only [List.getElem_toArray, List.getElem_cons_zero, List.getElem_cons_succ]
          go_simp
          refine (CI1.out _ (bthen HBW.out hHeld.2)).mono ?_
          rintro e x3 ⟨rfl, hx3⟩
          dsimp only
          refine hK.out _ _ ?_ (fun hHeld => ?_)
          · exact HST.out _ (bthen hHeld.2 hx3)
          clear hK K
          try simp only [Act.put, List.setIfInBounds_toArray, List.set_cons_zero, List.set_cons_succ]
          refine wpAnyH_ready (rs := [17]) (by kernel_rfl) (by simp) ?_
          refine AllReadyH.cons rfl (fun K hK => ?_) AllReadyH.nil
          simp only [List.getElem_toArray, List.getElem_cons_zero, List.getElem_cons_succ]
          go_simp
          refine (CI2.out _ (bthen HBW.out hHeld.2)).mono ?_
          rintro e x4 ⟨rfl, hx4⟩
          dsimp only
          refine hK.out _ _ ?_ (fun hHeld => ?_)
          · exact HST.out _ (bthen hHeld.2 hx4)
          clear hK K
          try simp only [Act.put, List.setIfInBounds_toArray, List.set_cons_zero, List.set_cons_succ]
          refine wpAnyH_take (i := 18) (v := .bool false) rfl (by kernel_rfl) (by kernel_rfl) (by kernel_rfl) (fun _ _ _ h => h) (Or.inl ⟨by rfl, ?_⟩) (by assumption) ?_
          · (intro w hSw; simp only [List.getElem_toArray, List.getElem_cons_zero, List.getElem_cons_succ]; (go_simp; first | done | simp))
          simp only [List.getElem_toArray, List.getElem_cons_zero, List.getElem_cons_succ, Act.put, List.setIfInBounds_toArray, List.set_cons_zero, List.set_cons_succ]
          refine wpAnyH_take (i := 19) (v := ?_) rfl (by kernel_rfl) (by kernel_rfl) (by kernel_rfl) (fun _ _ _ h => h) (Or.inl ⟨by rfl, ?_⟩) (by assumption) ?_
          rotate_left
          · (intro w hSw; (try dsimp only at hSw); simp only [List.getElem_toArray, List.getElem_cons_zero, List.getElem_cons_succ]; go_simp; first | done | with_reducible rfl)
          simp only [List.getElem_toArray, List.getElem_cons_zero, List.getElem_cons_succ, Act.put, List.setIfInBounds_toArray, List.set_cons_zero, List.set_cons_succ]
          refine wpAnyH_take (i := 20) (v := ?_) rfl (by kernel_rfl) (by kernel_rfl) (by kernel_rfl) (fun _ _ _ h => h) (Or.inl ⟨by rfl, ?_⟩) (by assumption) ?_
          rotate_left
          · (intro w hSw; (try dsimp only at hSw); simp only [List.getElem_toArray, List.getElem_cons_zero, List.getElem_cons_succ]; go_simp; first | done | with_reducible rfl)
          simp only [List.getElem_toArray, List.getElem_cons_zero, List.getElem_cons_succ, Act.put, List.setIfInBounds_toArray, List.set_cons_zero, List.set_cons_succ]
          refine wpAnyH_take (i := 21) (v := ?_) rfl (by kernel_rfl) (by kernel_rfl) (by kernel_rfl) (fun _ _ _ h => h) (Or.inl ⟨by rfl, ?_⟩) (by assumption) ?_
          rotate_left
          · (intro w hSw; (try dsimp only at hSw); simp only [List.getElem_toArray, List.getElem_cons_zero, List.getElem_cons_succ]; go_simp; first | done | with_reducible rfl)
          simp only [List.getElem_toArray, List.getElem_cons_zero, List.getElem_cons_succ, Act.put, List.setIfInBounds_toArray, List.set_cons_zero, List.set_cons_succ]
          refine wpAnyH_take (i := 23) (v := ?_) rfl (by kernel_rfl) (by kernel_rfl) (by kernel_rfl) (fun _ _ _ h => h) (Or.inl ⟨by rfl, ?_⟩) (by assumption) ?_
          rotate_left
          · (intro w hSw; (try dsimp only at hSw); simp only [List.getElem_toArray, List.getElem_cons_zero, List.getElem_cons_succ]; go_simp; first | done | with_reducible rfl)
          simp only [List.getElem_toArray, List.getElem_cons_zero, List.getElem_cons_succ, Act.put, List.setIfInBounds_toArray, List.set_cons_zero, List.set_cons_succ]
          refine wpAnyH_ready (rs := [22]) (by kernel_rfl) (by simp) ?_
          refine AllReadyH.cons rfl (fun K hK => ?_) AllReadyH.nil
          simp only [List.getElem_toArray, List.getElem_cons_zero, List.getElem_cons_succ]
          go_simp
          refine (num19_any _ _).mono ?_
          rintro e y1 ⟨rfl, rfl⟩
          dsimp only
          refine hK.out _ _ ?_ (fun hHeld => ?_)
          · exact hHeld
          clear hK K
          try simp only [Act.put, List.setIfInBounds_toArray, List.set_cons_zero, List.set_cons_succ]
          refine wpAnyH_ready (rs := [24]) (by kernel_rfl) (by simp) ?_
          refine AllReadyH.cons rfl (fun K hK => ?_) AllReadyH.nil
          simp only [List.getElem_toArray, List.getElem_cons_zero, List.getElem_cons_succ]
          go_simp
          refine (num19_any _ _).mono ?_
          rintro e y2 ⟨rfl, rfl⟩
          dsimp only
          refine hK.out _ _ ?_ (fun hHeld => ?_)
          · exact hHeld
          clear hK K
          try simp only [Act.put, List.setIfInBounds_toArray, List.set_cons_zero, List.set_cons_succ]
          refine wpAnyH_take (i := 25) (v := ?_) rfl (by kernel_rfl) (by kernel_rfl) (by kernel_rfl) (fun _ _ _ h => h) (Or.inl ⟨by rfl, ?_⟩) (by assumption) ?_
          rotate_left
          · (intro w hSw; (try dsimp only at hSw); simp only [List.getElem_toArray, List.getElem_cons_zero, List.getElem_cons_succ]; go_simp; first | done | with_reducible rfl)
          simp only [List.getElem_toArray, List.getElem_cons_zero, List.getElem_cons_succ, Act.put, List.setIfInBounds_toArray, List.set_cons_zero, List.set_cons_succ]
          refine wpAnyH_take (i := 26) (v := ?_) rfl (by kernel_rfl) (by kernel_rfl) (by kernel_rfl) (fun _ _ _ h => h) (Or.inl ⟨by rfl, ?_⟩) (by assumption) ?_
          rotate_left
          · (intro w hSw; (try dsimp only at hSw); simp only [List.getElem_toArray, List.getElem_cons_zero, List.getElem_cons_succ]; go_simp; first | done | with_reducible rfl)
          simp only [List.getElem_toArray, List.getElem_cons_zero, List.getElem_cons_succ, Act.put, List.setIfInBounds_toArray, List.set_cons_zero, List.set_cons_succ]
          refine wpAnyH_take (i := 27) (v := ?_) rfl (by kernel_rfl) (by kernel_rfl) (by kernel_rfl) (fun _ _ _ h => h) (Or.inl ⟨by rfl, ?_⟩) (by assumption) ?_
          rotate_left
          · (intro w hSw; (try dsimp only at hSw); simp only [List.getElem_toArray, List.getElem_cons_zero, List.getElem_cons_succ]; go_simp; first | done | with_reducible rfl)
          simp only [List.getElem_toArray, List.getElem_cons_zero, List.getElem_cons_succ, Act.put, List.setIfInBounds_toArray, List.set_cons_zero, List.set_cons_succ]
          clear hx1 hx2 hx3 hx4
          refine wpAnyH_take (i := 28) (v := undef) rfl (by kernel_rfl) (by kernel_rfl) (by kernel_rfl) (fun _ _ _ h => h) (Or.inr ⟨by rfl, rfl⟩) (by assumption) ?_
          simp only [List.getElem_toArray, List.getElem_cons_zero, List.getElem_cons_succ, Act.put, List.setIfInBounds_toArray, List.set_cons_zero, List.set_cons_succ]
          refine wpAnyH_take (i := 29) (v := undef) rfl (by kernel_rfl) (by kernel_rfl) (by kernel_rfl) (fun _ _ _ h => h) (Or.inr ⟨by rfl, rfl⟩) (by assumption) ?_
          simp only [List.getElem_toArray, List.getElem_cons_zero, List.getElem_cons_succ, Act.put, List.setIfInBounds_toArray, List.set_cons_zero, List.set_cons_succ]
          refine wpAnyH_take (i := 30) (v := undef) rfl (by kernel_rfl) (by kernel_rfl) (by kernel_rfl) (fun _ _ _ h => h) (Or.inr ⟨by rfl, rfl⟩) (by assumption) ?_
          simp only [List.getElem_toArray, List.getElem_cons_zero, List.getElem_cons_succ, Act.put, List.setIfInBounds_toArray, List.set_cons_zero, List.set_cons_succ]
          refine wpAnyH_take (i := 31) (v := undef) rfl (by kernel_rfl) (by kernel_rfl) (by kernel_rfl) (fun _ _ _ h => h) (Or.inr ⟨by rfl, rfl⟩) (by assumption) ?_
          simp only [List.getElem_toArray, List.getElem_cons_zero, List.getElem_cons_succ, Act.put, List.setIfInBounds_toArray, List.set_cons_zero, List.set_cons_succ]
          refine wpAnyH_take (i := 32) (v := undef) rfl (by kernel_rfl) (by kernel_rfl) (by kernel_rfl) (fun _ _ _ h => h) (Or.inr ⟨by rfl, rfl⟩) (by assumption) ?_
          simp only [List.getElem_toArray, List.getElem_cons_zero, List.getElem_cons_succ, Act.put, List.setIfInBounds_toArray, List.set_cons_zero, List.set_cons_succ]
          refine wpAnyH_take (i := 33) (v := undef) rfl (by kernel_rfl) (by kernel_rfl) (by kernel_rfl) (fun _ _ _ h => h) (Or.inr ⟨by rfl, rfl⟩) (by assumption) ?_
          simp only [List.getElem_toArray, List.getElem_cons_zero, List.getElem_cons_succ, Act.put, List.setIfInBounds_toArray, List.set_cons_zero, List.set_cons_succ]
          refine wpAnyH_take (i := 34) (v := undef) rfl (by kernel_rfl) (by kernel_rfl) (by kernel_rfl) (fun _ _ _ h => h) (Or.inr ⟨by rfl, rfl⟩) (by assumption) ?_
          simp only [List.getElem_toArray, List.getElem_cons_zero, List.getElem_cons_succ, Act.put, List.setIfInBounds_toArray, List.set_cons_zero, List.set_cons_succ]
          refine wpAnyH_take (i := 35) (v := undef) rfl (by kernel_rfl) (by kernel_rfl) (by kernel_rfl) (fun _ _ _ h => h) (Or.inr ⟨by rfl, rfl⟩) (by assumption) ?_
          simp only [List.getElem_toArray, List.getElem_cons_zero, List.getElem_cons_succ, Act.put, List.setIfInBounds_toArray, List.set_cons_zero, List.set_cons_succ]
          refine wpAnyH_take (i := 36) (v := undef) rfl (by kernel_rfl) (by kernel_rfl) (by kernel_rfl) (fun _ _ _ h => h) (Or.inr ⟨by rfl, rfl⟩) (by assumption) ?_
          simp only [List.getElem_toArray, List.getElem_cons_zero, List.getElem_cons_succ, Act.put, List.setIfInBounds_toArray, List.set_cons_zero, List.set_cons_succ]
          refine wpAnyH_take (i := 37) (v := ?_) rfl (by kernel_rfl) (by kernel_rfl) (by kernel_rfl) (fun _ _ _ h => h) (Or.inl ⟨by rfl, ?_⟩) (by assumption) ?_
          rotate_left
          · (intro w hSw; (try dsimp only at hSw); simp only [List.getElem_toArray, List.getElem_cons_zero, List.getElem_cons_succ]; go_simp; first | done | with_reducible rfl)
          simp only [List.getElem_toArray, List.getElem_cons_zero, List.getElem_cons_succ, Act.put, List.setIfInBounds_toArray, List.set_cons_zero, List.set_cons_succ]
          refine wpAnyH_take (i := 38) (v := ?_) rfl (by kernel_rfl) (by kernel_rfl) (by kernel_rfl) (fun _ _ _ h => h) (Or.inl ⟨by rfl, ?_⟩) (by assumption) ?_
          rotate_left
          · (intro w hSw; (try dsimp only at hSw); simp only [List.getElem_toArray, List.getElem_cons_zero, List.getElem_cons_succ]; go_simp; first | done | with_reducible rfl)
          simp only [List.getElem_toArray, List.getElem_cons_zero, List.getElem_cons_succ, Act.put, List.setIfInBounds_toArray, List.set_cons_zero, List.set_cons_succ]
          refine wpAnyH_done (by kernel_rfl) ?_ _
          obtain ⟨w5, hw5⟩ : ∃ W, W = x4 := ⟨_, rfl⟩
          subst hw5
          have HB5 := Lib.hid hHeld.2
          clear hHeld
          go_wp2_with fail
          go_meet
          exact ⟨rfl, HB5.out⟩
        · clear hy hz
          generalize (bsM o).length = nx at *
          refine wp_region_held_drew (S := fun X => (X.rangeAt w.heap.size 0 AL ∧ X.rangeAt (w.heap.size + 1) 0 PL) ∧ Below w4.heap.size w4 X) (by kernel_rfl) (HST.out _ (Below.refl _ _).drew) (fun hHeld => ?_)
          refine wpAnyH_take (i := 0) (v := _) rfl (by kernel_rfl) (by kernel_rfl) (by kernel_rfl) (fun _ _ _ h => h) (yieldsIf_load_mid (by rfl) 81 _ rfl (w.heap.size) (0) rfl (AL) _ (fun w hw => hw.1.1) (Try.underlying81) rfl (HIA.out)) (by assumption) ?_
          simp only [List.getElem_toArray, List.getElem_cons_zero, List.getElem_cons_succ, Act.put, List.setIfInBounds_toArray, List.set_cons_zero, List.set_cons_succ]
          refine wpAnyH_take (i := 1) (v := _) rfl (by kernel_rfl) (by kernel_rfl) (by kernel_rfl) (fun _ _ _ h => h) (yieldsIf_load_mid (by rfl) 81 _ rfl ((w.heap.size + 1)) (0) rfl (PL) _ (fun w hw => hw.1.2) (Try.underlying81) rfl (HIP.out)) (by assumption) ?_
          simp only [List.getElem_toArray, List.getElem_cons_zero, List.getElem_cons_succ, Act.put, List.setIfInBounds_toArray, List.set_cons_zero, List.set_cons_succ]
          refine wpAnyH_take (i := 3) (v := _) rfl (by kernel_rfl) (by kernel_rfl) (by kernel_rfl) (fun _ _ _ h => h) (yieldsIf_load_mid (by rfl) 81 _ rfl (w.heap.size) (0) rfl (AL) _ (fun w hw => hw.1.1) (Try.underlying81) rfl (HIA.out)) (by assumption) ?_
          simp only [List.getElem_toArray, List.getElem_cons_zero, List.getElem_cons_succ, Act.put, List.setIfInBounds_toArray, List.set_cons_zero, List.set_cons_succ]
          refine wpAnyH_take (i := 4) (v := _) rfl (by kernel_rfl) (by kernel_rfl) (by kernel_rfl) (fun _ _ _ h => h) (yieldsIf_load_mid (by rfl) 81 _ rfl ((w.heap.size + 1)) (0) rfl (PL) _ (fun w hw => hw.1.2) (Try.underlying81) rfl (HIP.out)) (by assumption) ?_
          simp only [List.getElem_toArray, List.getElem_cons_zero, List.getElem_cons_succ, Act.put, List.setIfInBounds_toArray, List.set_cons_zero, List.set_cons_succ]
          refine wpAnyH_ready (rs := [2]) (by kernel_rfl) (by simp) ?_
          refine AllReadyH.cons rfl (fun K hK => ?_) AllReadyH.nil
          simp only [List.getElem_toArray, List.getElem_cons_zero, List.getElem_cons_succ]
          go_simp
          refine (CS1.out _ (bthen HBW.out hHeld.2)).mono ?_
          rintro e x1 ⟨rfl, hx1⟩
          dsimp only
          refine hK.out _ _ ?_ (fun hHeld => ?_)
          · exact HST.out _ (bthen hHeld.2 hx1)
          clear hK K
          try simp only [Act.put, List.setIfInBounds_toArray, List.set_cons_zero, List.set_cons_succ]
          refine wpAnyH_ready (rs := [5]) (by kernel_rfl) (by simp) ?_
          refine AllReadyH.cons rfl (fun K hK => ?_) AllReadyH.nil
          simp only [List.getElem_toArray, List.getElem_cons_zero, List.getElem_cons_succ]
          go_simp
          refine (CS2.out _ (bthen HBW.out hHeld.2)).mono ?_
          rintro e x2 ⟨rfl, hx2⟩
          dsimp only
          refine hK.out _ _ ?_ (fun hHeld => ?_)
          · exact HST.out _ (bthen hHeld.2 hx2)
          clear hK K
          try simp only [Act.put, List.setIfInBounds_toArray, List.set_cons_zero, List.set_cons_succ]
          refine wpAnyH_take (i := 6) (v := .bool false) rfl (by kernel_rfl) (by kernel_rfl) (by kernel_rfl) (fun _ _ _ h => h) (Or.inl ⟨by rfl, ?_⟩) (by assumption) ?_
          · (intro w hSw; simp only [List.getElem_toArray, List.getElem_cons_zero, List.getElem_cons_succ]; (go_simp; first | done | simp))
          simp only [List.getElem_toArray, List.getElem_cons_zero, List.getElem_cons_succ, Act.put, List.setIfInBounds_toArray, List.set_cons_zero, List.set_cons_succ]
          refine wpAnyH_take (i := 7) (v := ?_) rfl (by kernel_rfl) (by kernel_rfl) (by kernel_rfl) (fun _ _ _ h => h) (Or.inl ⟨by rfl, ?_⟩) (by assumption) ?_
          rotate_left
          · (intro w hSw; (try dsimp only at hSw); simp only [List.getElem_toArray, List.getElem_cons_zero, List.getElem_cons_succ]; go_simp; first | done | with_reducible rfl)
          simp only [List.getElem_toArray, List.getElem_cons_zero, List.getElem_cons_succ, Act.put, List.setIfInBounds_toArray, List.set_cons_zero, List.set_cons_succ]
          refine wpAnyH_take (i := 8) (v := ?_) rfl (by kernel_rfl) (by kernel_rfl) (by kernel_rfl) (fun _ _ _ h => h) (Or.inl ⟨by rfl, ?_⟩) (by assumption) ?_
          rotate_left
          · (intro w hSw; (try dsimp only at hSw); simp only [List.getElem_toArray, List.getElem_cons_zero, List.getElem_cons_succ]; go_simp; first | done | with_reducible rfl)
          simp only [List.getElem_toArray, List.getElem_cons_zero, List.getElem_cons_succ, Act.put, List.setIfInBounds_toArray, List.set_cons_zero, List.set_cons_succ]
          refine wpAnyH_take (i := 9) (v := _) rfl (by kernel_rfl) (by kernel_rfl) (by kernel_rfl) (fun _ _ _ h => h) (yieldsIf_load_mid (by rfl) 79 _ rfl (w.heap.size) (22) rfl (IA) _ (fun w hw => HR1.out w hw.1.1) (Try.underlying79) rfl (HJA.out)) (by assumption) ?_
          simp only [List.getElem_toArray, List.getElem_cons_zero, List.getElem_cons_succ, Act.put, List.setIfInBounds_toArray, List.set_cons_zero, List.set_cons_succ]
          refine wpAnyH_take (i := 10) (v := ?_) rfl (by kernel_rfl) (by kernel_rfl) (by kernel_rfl) (fun _ _ _ h => h) (Or.inl ⟨by rfl, ?_⟩) (by assumption) ?_
          rotate_left
          · (intro w hSw; (try dsimp only at hSw); simp only [List.getElem_toArray, List.getElem_cons_zero, List.getElem_cons_succ]; go_simp; first | done | with_reducible rfl)
          simp only [List.getElem_toArray, List.getElem_cons_zero, List.getElem_cons_succ, Act.put, List.setIfInBounds_toArray, List.set_cons_zero, List.set_cons_succ]
          refine wpAnyH_take (i := 11) (v := _) rfl (by kernel_rfl) (by kernel_rfl) (by kernel_rfl) (fun _ _ _ h => h) (yieldsIf_load_mid (by rfl) 79 _ rfl ((w.heap.size + 1)) (22) rfl (IP) _ (fun w hw => HR2.out w hw.1.2) (Try.underlying79) rfl (HJP.out)) (by assumption) ?_
          simp only [List.getElem_toArray, List.getElem_cons_zero, List.getElem_cons_succ, Act.put, List.setIfInBounds_toArray, List.set_cons_zero, List.set_cons_succ]
          refine wpAnyH_take (i := 13) (v := ?_) rfl (by kernel_rfl) (by kernel_rfl) (by kernel_rfl) (fun _ _ _ h => h) (Or.inl ⟨by rfl, ?_⟩) (by assumption) ?_
          rotate_left
          · (intro w hSw; (try dsimp only at hSw); simp only [List.getElem_toArray, List.getElem_cons_zero, List.getElem_cons_succ]; go_simp; first | done | with_reducible rfl)
          simp only [List.getElem_toArray, List.getElem_cons_zero, List.getElem_cons_succ, Act.put, List.setIfInBounds_toArray, List.set_cons_zero, List.set_cons_succ]
          refine wpAnyH_take (i := 14) (v := _) rfl (by kernel_rfl) (by kernel_rfl) (by kernel_rfl) (fun _ _ _ h => h) (yieldsIf_load_mid (by rfl) 79 _ rfl (w.heap.size) (22) rfl (IA) _ (fun w hw => HR1.out w hw.1.1) (Try.underlying79) rfl (HJA.out)) (by assumption) ?_
          simp only [List.getElem_toArray, List.getElem_cons_zero, List.getElem_cons_succ, Act.put, List.setIfInBounds_toArray, List.set_cons_zero, List.set_cons_succ]
          refine wpAnyH_take (i := 15) (v := ?_) rfl (by kernel_rfl) (by kernel_rfl) (by kernel_rfl) (fun _ _ _ h => h) (Or.inl ⟨by rfl, ?_⟩) (by assumption) ?_
          rotate_left
          · (intro w hSw; (try dsimp only at hSw); simp only [List.getElem_toArray, List.getElem_cons_zero, List.getElem_cons_succ]; go_simp; first | done | with_reducible rfl)
          simp only [List.getElem_toArray, List.getElem_cons_zero, List.getElem_cons_succ, Act.put, List.setIfInBounds_toArray, List.set_cons_zero, List.set_cons_succ]
          refine wpAnyH_take (i := 16) (v := _) rfl (by kernel_rfl) (by kernel_rfl) (by kernel_rfl) (fun _ _ _ h => h) (yieldsIf_load_mid (by rfl) 79 _ rfl ((w.heap.size + 1)) (22) rfl (IP) _ (fun w hw => HR2.out w hw.1.2) (Try.underlying79) rfl (HJP.out)) (by assumption) ?_
          simp only [List.getElem_toArray, List.getElem_cons_zero, List.getElem_cons_succ, Act.put, List.setIfInBounds_toArray, List.set_cons_zero, List.set_cons_succ]
          refine wpAnyH_ready (rs := [12]) (by kernel_rfl) (by simp) ?_
          refine AllReadyH.cons rfl (fun K hK => ?_) AllReadyH.nil
          simp only [List.getElem_toArray, List.getElem_cons_zero, List.getElem_cons_succ]
          go_simp
          refine (CI1.out _ (bthen HBW.out hHeld.2)).mono ?_
          rintro e x3 ⟨rfl, hx3⟩
          dsimp only
          refine hK.out _ _ ?_ (fun hHeld => ?_)
          · exact HST.out _ (bthen hHeld.2 hx3)
          clear hK K
          try simp only [Act.put, List.setIfInBounds_toArray, List.set_cons_zero, List.set_cons_succ]
          refine wpAnyH_ready (rs := [17]) (by kernel_rfl) (by simp) ?_
          refine AllReadyH.cons rfl (fun K hK => ?_) AllReadyH.nil
          simp only [List.getElem_toArray, List.getElem_cons_zero, List.getElem_cons_succ]
          go_simp
          refine (CI2.out _ (bthen HBW.out hHeld.2)).mono ?_
          rintro e x4 ⟨rfl, hx4⟩
          dsimp only
          refine hK.out _ _ ?_ (fun hHeld => ?_)
          · exact HST.out _ (bthen hHeld.2 hx4)
          clear hK K
          try simp only [Act.put, List.setIfInBounds_toArray, List.set_cons_zero, List.set_cons_succ]
          refine wpAnyH_take (i := 18) (v := .bool false) rfl (by kernel_rfl) (by kernel_rfl) (by kernel_rfl) (fun _ _ _ h => h) (Or.inl ⟨by rfl, ?_⟩) (by assumption) ?_
          · (intro w hSw; simp only [List.getElem_toArray, List.getElem_cons_zero, List.getElem_cons_succ]; (go_simp; first | done | simp))
          simp only [List.getElem_toArray, List.getElem_cons_zero, List.getElem_cons_succ, Act.put, List.setIfInBounds_toArray, List.set_cons_zero, List.set_cons_succ]
          refine wpAnyH_take (i := 19) (v := ?_) rfl (by kernel_rfl) (by kernel_rfl) (by kernel_rfl) (fun _ _ _ h => h) (Or.inl ⟨by rfl, ?_⟩) (by assumption) ?_
          rotate_left
          · (intro w hSw; (try dsimp only at hSw); simp only [List.getElem_toArray, List.getElem_cons_zero, List.getElem_cons_succ]; go_simp; first | done | with_reducible rfl)
          simp only [List.getElem_toArray, List.getElem_cons_zero, List.getElem_cons_succ, Act.put, List.setIfInBounds_toArray, List.set_cons_zero, List.set_cons_succ]
          refine wpAnyH_take (i := 20) (v := ?_) rfl (by kernel_rfl) (by kernel_rfl) (by kernel_rfl) (fun _ _ _ h => h) (Or.inl ⟨by rfl, ?_⟩) (by assumption) ?_
          rotate_left
          · (intro w hSw; (try dsimp only at hSw); simp only [List.getElem_toArray, List.getElem_cons_zero, List.getElem_cons_succ]; go_simp; first | done | with_reducible rfl)
          simp only [List.getElem_toArray, List.getElem_cons_zero, List.getElem_cons_succ, Act.put, List.setIfInBounds_toArray, List.set_cons_zero, List.set_cons_succ]
          refine wpAnyH_take (i := 21) (v := ?_) rfl (by kernel_rfl) (by kernel_rfl) (by kernel_rfl) (fun _ _ _ h => h) (Or.inl ⟨by rfl, ?_⟩) (by assumption) ?_
          rotate_left
          · (intro w hSw; (try dsimp only at hSw); simp only [List.getElem_toArray, List.getElem_cons_zero, List.getElem_cons_succ]; go_simp; first | done | with_reducible rfl)
          simp only [List.getElem_toArray, List.getElem_cons_zero, List.getElem_cons_succ, Act.put, List.setIfInBounds_toArray, List.set_cons_zero, List.set_cons_succ]
          refine wpAnyH_take (i := 23) (v := ?_) rfl (by kernel_rfl) (by kernel_rfl) (by kernel_rfl) (fun _ _ _ h => h) (Or.inl ⟨by rfl, ?_⟩) (by assumption) ?_
          rotate_left
          · (intro w hSw; (try dsimp only at hSw); simp only [List.getElem_toArray, List.getElem_cons_zero, List.getElem_cons_succ]; go_simp; first | done | with_reducible rfl)
          simp only [List.getElem_toArray, List.getElem_cons_zero, List.getElem_cons_succ, Act.put, List.setIfInBounds_toArray, List.set_cons_zero, List.set_cons_succ]
          refine wpAnyH_ready (rs := [22]) (by kernel_rfl) (by simp) ?_
          refine AllReadyH.cons rfl (fun K hK => ?_) AllReadyH.nil
          simp only [List.getElem_toArray, List.getElem_cons_zero, List.getElem_cons_succ]
          go_simp
          refine (num19_any _ _).mono ?_
          rintro e y1 ⟨rfl, rfl⟩
          dsimp only
          refine hK.out _ _ ?_ (fun hHeld => ?_)
          · exact hHeld
          clear hK K
          try simp only [Act.put, List.setIfInBounds_toArray, List.set_cons_zero, List.set_cons_succ]
          refine wpAnyH_ready (rs := [24]) (by kernel_rfl) (by simp) ?_
          refine AllReadyH.cons rfl (fun K hK => ?_) AllReadyH.nil
          simp only [List.getElem_toArray, List.getElem_cons_zero, List.getElem_cons_succ]
          go_simp
          refine (num19_any _ _).mono ?_
          rintro e y2 ⟨rfl, rfl⟩
          dsimp only
          refine hK.out _ _ ?_ (fun hHeld => ?_)
          · exact hHeld
          clear hK K
          try simp only [Act.put, List.setIfInBounds_toArray, List.set_cons_zero, List.set_cons_succ]
          refine wpAnyH_take (i := 25) (v := ?_) rfl (by kernel_rfl) (by kernel_rfl) (by kernel_rfl) (fun _ _ _ h => h) (Or.inl ⟨by rfl, ?_⟩) (by assumption) ?_
          rotate_left
          · (intro w hSw; (try dsimp only at hSw); simp only [List.getElem_toArray, List.getElem_cons_zero, List.getElem_cons_succ]; go_simp; first | done | with_reducible rfl)
          simp only [List.getElem_toArray, List.getElem_cons_zero, List.getElem_cons_succ, Act.put, List.setIfInBounds_toArray, List.set_cons_zero, List.set_cons_succ]
          refine wpAnyH_take (i := 26) (v := ?_) rfl (by kernel_rfl) (by kernel_rfl) (by kernel_rfl) (fun _ _ _ h => h) (Or.inl ⟨by rfl, ?_⟩) (by assumption) ?_
          rotate_left
          · (intro w hSw; (try dsimp only at hSw); simp only [List.getElem_toArray, List.getElem_cons_zero, List.getElem_cons_succ]; go_simp; first | done | with_reducible rfl)
          simp only [List.getElem_toArray, List.getElem_cons_zero, List.getElem_cons_succ, Act.put, List.setIfInBounds_toArray, List.set_cons_zero, List.set_cons_succ]
          refine wpAnyH_take (i := 27) (v := ?_) rfl (by kernel_rfl) (by kernel_rfl) (by kernel_rfl) (fun _ _ _ h => h) (Or.inl ⟨by rfl, ?_⟩) (by assumption) ?_
          rotate_left
          · (intro w hSw; (try dsimp only at hSw); simp only [List.getElem_toArray, List.getElem_cons_zero, List.getElem_cons_succ]; go_simp; first | done | with_reducible rfl)
          simp only [List.getElem_toArray, List.getElem_cons_zero, List.getElem_cons_succ, Act.put, List.setIfInBounds_toArray, List.set_cons_zero, List.set_cons_succ]
          clear hx1 hx2 hx3 hx4
          refine wpAnyH_take (i := 28) (v := undef) rfl (by kernel_rfl) (by kernel_rfl) (by kernel_rfl) (fun _ _ _ h => h) (Or.inr ⟨by rfl, rfl⟩) (by assumption) ?_
          simp only [List.getElem_toArray, List.getElem_cons_zero, List.getElem_cons_succ, Act.put, List.setIfInBounds_toArray, List.set_cons_zero, List.set_cons_succ]
          refine wpAnyH_take (i := 29) (v := undef) rfl (by kernel_rfl) (by kernel_rfl) (by kernel_rfl) (fun _ _ _ h => h) (Or.inr ⟨by rfl, rfl⟩) (by assumption) ?_
          simp only [List.getElem_toArray, List.getElem_cons_zero, List.getElem_cons_succ, Act.put, List.setIfInBounds_toArray, List.set_cons_zero, List.set_cons_succ]
          refine wpAnyH_take (i := 30) (v := undef) rfl (by kernel_rfl) (by kernel_rfl) (by kernel_rfl) (fun _ _ _ h => h) (Or.inr ⟨by rfl, rfl⟩) (by assumption) ?_
          simp only [List.getElem_toArray, List.getElem_cons_zero, List.getElem_cons_succ, Act.put, List.setIfInBounds_toArray, List.set_cons_zero, List.set_cons_succ]
          refine wpAnyH_take (i := 31) (v := undef) rfl (by kernel_rfl) (by kernel_rfl) (by kernel_rfl) (fun _ _ _ h => h) (Or.inr ⟨by rfl, rfl⟩) (by assumption) ?_
          simp only [List.getElem_toArray, List.getElem_cons_zero, List.getElem_cons_succ, Act.put, List.setIfInBounds_toArray, List.set_cons_zero, List.set_cons_succ]
          refine wpAnyH_take (i := 32) (v := undef) rfl (by kernel_rfl) (by kernel_rfl) (by kernel_rfl) (fun _ _ _ h => h) (Or.inr ⟨by rfl, rfl⟩) (by assumption) ?_
          simp only [List.getElem_toArray, List.getElem_cons_zero, List.getElem_cons_succ, Act.put, List.setIfInBounds_toArray, List.set_cons_zero, List.set_cons_succ]
          refine wpAnyH_take (i := 33) (v := undef) rfl (by kernel_rfl) (by kernel_rfl) (by kernel_rfl) (fun _ _ _ h => h) (Or.inr ⟨by rfl, rfl⟩) (by assumption) ?_
          simp only [List.getElem_toArray, List.getElem_cons_zero, List.getElem_cons_succ, Act.put, List.setIfInBounds_toArray, List.set_cons_zero, List.set_cons_succ]
          refine wpAnyH_take (i := 34) (v := undef) rfl (by kernel_rfl) (by kernel_rfl) (by kernel_rfl) (fun _ _ _ h => h) (Or.inr ⟨by rfl, rfl⟩) (by assumption) ?_
          simp only [List.getElem_toArray, List.getElem_cons_zero, List.getElem_cons_succ, Act.put, List.setIfInBounds_toArray, List.set_cons_zero, List.set_cons_succ]
          refine wpAnyH_take (i := 35) (v := undef) rfl (by kernel_rfl) (by kernel_rfl) (by kernel_rfl) (fun _ _ _ h => h) (Or.inr ⟨by rfl, rfl⟩) (by assumption) ?_
          simp only [List.getElem_toArray, List.getElem_cons_zero, List.getElem_cons_succ, Act.put, List.setIfInBounds_toArray, List.set_cons_zero, List.set_cons_succ]
          refine wpAnyH_take (i := 36) (v := undef) rfl (by kernel_rfl) (by kernel_rfl) (by kernel_rfl) (fun _ _ _ h => h) (Or.inr ⟨by rfl, rfl⟩) (by assumption) ?_
          simp only [List.getElem_toArray, List.getElem_cons_zero, List.getElem_cons_succ, Act.put, List.setIfInBounds_toArray, List.set_cons_zero, List.set_cons_succ]
          refine wpAnyH_take (i := 37) (v := ?_) rfl (by kernel_rfl) (by kernel_rfl) (by kernel_rfl) (fun _ _ _ h => h) (Or.inl ⟨by rfl, ?_⟩) (by assumption) ?_
          rotate_left
          · (intro w hSw; (try dsimp only at hSw); simp only [List.getElem_toArray, List.getElem_cons_zero, List.getElem_cons_succ]; go_simp; first | done | with_reducible rfl)
          simp only [List.getElem_toArray, List.getElem_cons_zero, List.getElem_cons_succ, Act.put, List.setIfInBounds_toArray, List.set_cons_zero, List.set_cons_succ]
          refine wpAnyH_take (i := 38) (v := ?_) rfl (by kernel_rfl) (by kernel_rfl) (by kernel_rfl) (fun _ _ _ h => h) (Or.inl ⟨by rfl, ?_⟩) (by assumption) ?_
          rotate_left
          · (intro w hSw; (try dsimp only at hSw); simp only [List.getElem_toArray, List.getElem_cons_zero, List.getElem_cons_succ]; go_simp; first | done | with_reducible rfl)
          simp only [List.getElem_toArray, List.getElem_cons_zero, List.getElem_cons_succ, Act.put, List.setIfInBounds_toArray, List.set_cons_zero, List.set_cons_succ]
          refine wpAnyH_done (by kernel_rfl) ?_ _
          obtain ⟨w5, hw5⟩ : ∃ W, W = x4 := ⟨_, rfl⟩
          subst hw5
          have HB5 := Lib.hid hHeld.2
          clear hHeld
          go_wp2_with fail
          go_meet
          exact ⟨rfl, HB5.out⟩
        · clear hy hz
          refine wp_region_held_drew (S := fun X => (X.rangeAt w.heap.size 0 AL ∧ X.rangeAt (w.heap.size + 1) 0 PL) ∧ Below w4.heap.size w4 X) (by kernel_rfl) (HST.out _ (Below.refl _ _).drew) (fun hHeld => ?_)
          refine wpAnyH_take (i := 0) (v := _) rfl (by kernel_rfl) (by kernel_rfl) (by kernel_rfl) (fun _ _ _ h => h) (yieldsIf_load_mid (by rfl) 81 _ rfl (w.heap.size) (0) rfl (AL) _ (fun w hw => hw.1.1) (Try.underlying81) rfl (HIA.out)) (by assumption) ?_
          simp only [List.getElem_toArray, List.getElem_cons_zero, List.getElem_cons_succ, Act.put, List.setIfInBounds_toArray, List.set_cons_zero, List.set_cons_succ]
          refine wpAnyH_take (i := 1) (v := _) rfl (by kernel_rfl) (by kernel_rfl) (by kernel_rfl) (fun _ _ _ h => h) (yieldsIf_load_mid (by rfl) 81 _ rfl ((w.heap.size + 1)) (0) rfl (PL) _ (fun w hw => hw.1.2) (Try.underlying81) rfl (HIP.out)) (by assumption) ?_
          simp only [List.getElem_toArray, List.getElem_cons_zero, List.getElem_cons_succ, Act.put, List.setIfInBounds_toArray, List.set_cons_zero, List.set_cons_succ]
          refine wpAnyH_take (i := 3) (v := _) rfl (by kernel_rfl) (by kernel_rfl) (by kernel_rfl) (fun _ _ _ h => h) (yieldsIf_load_mid (by rfl) 81 _ rfl (w.heap.size) (0) rfl (AL) _ (fun w hw => hw.1.1) (Try.underlying81) rfl (HIA.out)) (by assumption) ?_
          simp only [List.getElem_toArray, List.getElem_cons_zero, List.getElem_cons_succ, Act.put, List.setIfInBounds_toArray, List.set_cons_zero, List.set_cons_succ]
          refine wpAnyH_take (i := 4) (v := _) rfl (by kernel_rfl) (by kernel_rfl) (by kernel_rfl) (fun _ _ _ h => h) (yieldsIf_load_mid (by rfl) 81 _ rfl ((w.heap.size + 1)) (0) rfl (PL) _ (fun w hw => hw.1.2) (Try.underlying81) rfl (HIP.out)) (by assumption) ?_
          simp only [List.getElem_toArray, List.getElem_cons_zero, List.getElem_cons_succ, Act.put, List.setIfInBounds_toArray, List.set_cons_zero, List.set_cons_succ]
          refine wpAnyH_ready (rs := [2]) (by kernel_rfl) (by simp) ?_
          refine AllReadyH.cons rfl (fun K hK => ?_) AllReadyH.nil
          simp only [List.getElem_toArray, List.getElem_cons_zero, List.getElem_cons_succ]
          go_simp
          refine (CS1.out _ (bthen HBW.out hHeld.2)).mono ?_
          rintro e x1 ⟨rfl, hx1⟩
          dsimp only
          refine hK.out _ _ ?_ (fun hHeld => ?_)
          · exact HST.out _ (bthen hHeld.2 hx1)
          clear hK K
          try simp only [Act.put, List.setIfInBounds_toArray, List.set_cons_zero, List.set_cons_succ]
          refine wpAnyH_ready (rs := [5]) (by kernel_rfl) (by simp) ?_
          refine AllReadyH.cons rfl (fun K hK => ?_) AllReadyH.nil
          simp only [List.getElem_toArray, List.getElem_cons_zero, List.getElem_cons_succ]
          go_simp
          refine (CS2.out _ (bthen HBW.out hHeld.2)).mono ?_
          rintro e x2 ⟨rfl, hx2⟩
          dsimp only
          refine hK.out _ _ ?_ (fun hHeld => ?_)
          · exact HST.out _ (bthen hHeld.2 hx2)
          clear hK K
          try simp only [Act.put, List.setIfInBounds_toArray, List.set_cons_zero, List.set_cons_succ]
          refine wpAnyH_take (i := 6) (v := .bool false) rfl (by kernel_rfl) (by kernel_rfl) (by kernel_rfl) (fun _ _ _ h => h) (Or.inl ⟨by rfl, ?_⟩) (by assumption) ?_
          · (intro w hSw; simp only [List.getElem_toArray, List.getElem_cons_zero, List.getElem_cons_succ]; (go_simp; first | done | simp))
          simp only [List.getElem_toArray, List.getElem_cons_zero, List.getElem_cons_succ, Act.put, List.setIfInBounds_toArray, List.set_cons_zero, List.set_cons_succ]
          refine wpAnyH_take (i := 7) (v := ?_) rfl (by kernel_rfl) (by kernel_rfl) (by kernel_rfl) (fun _ _ _ h => h) (Or.inl ⟨by rfl, ?_⟩) (by assumption) ?_
          rotate_left
          · (intro w hSw; (try dsimp only at hSw); simp only [List.getElem_toArray, List.getElem_cons_zero, List.getElem_cons_succ]; go_simp; first | done | with_reducible rfl)
          simp only [List.getElem_toArray, List.getElem_cons_zero, List.getElem_cons_succ, Act.put, List.setIfInBounds_toArray, List.set_cons_zero, List.set_cons_succ]
          refine wpAnyH_take (i := 8) (v := ?_) rfl (by kernel_rfl) (by kernel_rfl) (by kernel_rfl) (fun _ _ _ h => h) (Or.inl ⟨by rfl, ?_⟩) (by assumption) ?_
          rotate_left
          · (intro w hSw; (try dsimp only at hSw); simp only [List.getElem_toArray, List.getElem_cons_zero, List.getElem_cons_succ]; go_simp; first | done | with_reducible rfl)
          simp only [List.getElem_toArray, List.getElem_cons_zero, List.getElem_cons_succ, Act.put, List.setIfInBounds_toArray, List.set_cons_zero, List.set_cons_succ]
          refine wpAnyH_take (i := 9) (v := _) rfl (by kernel_rfl) (by kernel_rfl) (by kernel_rfl) (fun _ _ _ h => h) (yieldsIf_load_mid (by rfl) 79 _ rfl (w.heap.size) (22) rfl (IA) _ (fun w hw => HR1.out w hw.1.1) (Try.underlying79) rfl (HJA.out)) (by assumption) ?_
          simp only [List.getElem_toArray, List.getElem_cons_zero, List.getElem_cons_succ, Act.put, List.setIfInBounds_toArray, List.set_cons_zero, List.set_cons_succ]
          refine wpAnyH_take (i := 10) (v := ?_) rfl (by kernel_rfl) (by kernel_rfl) (by kernel_rfl) (fun _ _ _ h => h) (Or.inl ⟨by rfl, ?_⟩) (by assumption) ?_
          rotate_left
          · (intro w hSw; (try dsimp only at hSw); simp only [List.getElem_toArray, List.getElem_cons_zero, List.getElem_cons_succ]; go_simp; first | done | with_reducible rfl)
          simp only [List.getElem_toArray, List.getElem_cons_zero, List.getElem_cons_succ, Act.put, List.setIfInBounds_toArray, List.set_cons_zero, List.set_cons_succ]
          refine wpAnyH_take (i := 11) (v := _) rfl (by kernel_rfl) (by kernel_rfl) (by kernel_rfl) (fun _ _ _ h => h) (yieldsIf_load_mid (by rfl) 79 _ rfl ((w.heap.size + 1)) (22) rfl (IP) _ (fun w hw => HR2.out w hw.1.2) (Try.underlying79) rfl (HJP.out)) (by assumption) ?_
          simp only [List.getElem_toArray, List.getElem_cons_zero, List.getElem_cons_succ, Act.put, List.setIfInBounds_toArray, List.set_cons_zero, List.set_cons_succ]
          refine wpAnyH_take (i := 13) (v := ?_) rfl (by kernel_rfl) (by kernel_rfl) (by kernel_rfl) (fun _ _ _ h => h) (Or.inl ⟨by rfl, ?_⟩) (by assumption) ?_
          rotate_left
          · (intro w hSw; (try dsimp only at hSw); simp only [List.getElem_toArray, List.getElem_cons_zero, List.getElem_cons_succ]; go_simp; first | done | with_reducible rfl)
          simp only [List.getElem_toArray, List.getElem_cons_zero, List.getElem_cons_succ, Act.put, List.setIfInBounds_toArray, List.set_cons_zero, List.set_cons_succ]
          refine wpAnyH_take (i := 14) (v := _) rfl (by kernel_rfl) (by kernel_rfl) (by kernel_rfl) (fun _ _ _ h => h) (yieldsIf_load_mid (by rfl) 79 _ rfl (w.heap.size) (22) rfl (IA) _ (fun w hw => HR1.out w hw.1.1) (Try.underlying79) rfl (HJA.out)) (by assumption) ?_
          simp only [List.getElem_toArray, List.getElem_cons_zero, List.getElem_cons_succ, Act.put, List.setIfInBounds_toArray, List.set_cons_zero, List.set_cons_succ]
          refine wpAnyH_take (i := 15) (v := ?_) rfl (by kernel_rfl) (by kernel_rfl) (by kernel_rfl) (fun _ _ _ h => h) (Or.inl ⟨by rfl, ?_⟩) (by assumption) ?_
          rotate_left
          · (intro w hSw; (try dsimp only at hSw); simp only [List.getElem_toArray, List.getElem_cons_zero, List.getElem_cons_succ]; go_simp; first | done | with_reducible rfl)
          simp only [List.getElem_toArray, List.getElem_cons_zero, List.getElem_cons_succ, Act.put, List.setIfInBounds_toArray, List.set_cons_zero, List.set_cons_succ]
          refine wpAnyH_take (i := 16) (v := _) rfl (by kernel_rfl) (by kernel_rfl) (by kernel_rfl) (fun _ _ _ h => h) (yieldsIf_load_mid (by rfl) 79 _ rfl ((w.heap.size + 1)) (22) rfl (IP) _ (fun w hw => HR2.out w hw.1.2) (Try.underlying79) rfl (HJP.out)) (by assumption) ?_
          simp only [List.getElem_toArray, List.getElem_cons_zero, List.getElem_cons_succ, Act.put, List.setIfInBounds_toArray, List.set_cons_zero, List.set_cons_succ]
          refine wpAnyH_ready (rs := [12]) (by kernel_rfl) (by simp) ?_
          refine AllReadyH.cons rfl (fun K hK => ?_) AllReadyH.nil
          simp only [List.getElem_toArray, List.getElem_cons_zero, List.getElem_cons_succ]
          go_simp
          refine (CI1.out _ (bthen HBW.out hHeld.2)).mono ?_
          rintro e x3 ⟨rfl, hx3⟩
          dsimp only
          refine hK.out _ _ ?_ (fun hHeld => ?_)
          · exact HST.out _ (bthen hHeld.2 hx3)
          clear hK K
          try simp only [Act.put, List.setIfInBounds_toArray, List.set_cons_zero, List.set_cons_succ]
          refine wpAnyH_ready (rs := [17]) (by kernel_rfl) (by simp) ?_
          refine AllReadyH.cons rfl (fun K hK => ?_) AllReadyH.nil
          simp only [List.getElem_toArray, List.getElem_cons_zero, List.getElem_cons_succ]
          go_simp
          refine (CI2.out _ (bthen HBW.out hHeld.2)).mono ?_
          rintro e x4 ⟨rfl, hx4⟩
          dsimp only
          refine hK.out _ _ ?_ (fun hHeld => ?_)
          · exact HST.out _ (bthen hHeld.2 hx4)
          clear hK K
          try simp only [Act.put, List.setIfInBounds_toArray, List.set_cons_zero, List.set_cons_succ]
          refine wpAnyH_take (i := 18) (v := .bool false) rfl (by kernel_rfl) (by kernel_rfl) (by kernel_rfl) (fun _ _ _ h => h) (Or.inl ⟨by rfl, ?_⟩) (by assumption) ?_
          · (intro w hSw; simp only [List.getElem_toArray, List.getElem_cons_zero, List.getElem_cons_succ]; (go_simp; first | done | simp))
          simp only [List.getElem_toArray, List.getElem_cons_zero, List.getElem_cons_succ, Act.put, List.setIfInBounds_toArray, List.set_cons_zero, List.set_cons_succ]
          refine wpAnyH_take (i := 19) (v := ?_) rfl (by kernel_rfl) (by kernel_rfl) (by kernel_rfl) (fun _ _ _ h => h) (Or.inl ⟨by rfl, ?_⟩) (by assumption) ?_
          rotate_left
          · (intro w hSw; (try dsimp only at hSw); simp only [List.getElem_toArray, List.getElem_cons_zero, List.getElem_cons_succ]; go_simp; first | done | with_reducible rfl)
          simp only [List.getElem_toArray, List.getElem_cons_zero, List.getElem_cons_succ, Act.put, List.setIfInBounds_toArray, List.set_cons_zero, List.set_cons_succ]
          refine wpAnyH_take (i := 20) (v := ?_) rfl (by kernel_rfl) (by kernel_rfl) (by kernel_rfl) (fun _ _ _ h => h) (Or.inl ⟨by rfl, ?_⟩) (by assumption) ?_
          rotate_left
          · (intro w hSw; (try dsimp only at hSw); simp only [List.getElem_toArray, List.getElem_cons_zero, List.getElem_cons_succ]; go_simp; first | done | with_reducible rfl)
          simp only [List.getElem_toArray, List.getElem_cons_zero, List.getElem_cons_succ, Act.put, List.setIfInBounds_toArray, List.set_cons_zero, List.set_cons_succ]
          refine wpAnyH_take (i := 21) (v := ?_) rfl (by kernel_rfl) (by kernel_rfl) (by kernel_rfl) (fun _ _ _ h => h) (Or.inl ⟨by rfl, ?_⟩) (by assumption) ?_
          rotate_left
          · (intro w hSw; (try dsimp only at hSw); simp only [List.getElem_toArray, List.getElem_cons_zero, List.getElem_cons_succ]; go_simp; first | done | with_reducible rfl)
          simp only [List.getElem_toArray, List.getElem_cons_zero, List.getElem_cons_succ, Act.put, List.setIfInBounds_toArray, List.set_cons_zero, List.set_cons_succ]
          refine wpAnyH_take (i := 23) (v := ?_) rfl (by kernel_rfl) (by kernel_rfl) (by kernel_rfl) (fun _ _ _ h => h) (Or.inl ⟨by rfl, ?_⟩) (by assumption) ?_
          rotate_left
          · (intro w hSw; (try dsimp only at hSw); simp only [List.getElem_toArray, List.getElem_cons_zero, List.getElem_cons_succ]; go_simp; first | done | with_reducible rfl)
          simp only [List.getElem_toArray, List.getElem_cons_zero, List.getElem_cons_succ, Act.put, List.setIfInBounds_toArray, List.set_cons_zero, List.set_cons_succ]
          refine wpAnyH_ready (rs := [22]) (by kernel_rfl) (by simp) ?_
          refine AllReadyH.cons rfl (fun K hK => ?_) AllReadyH.nil
          simp only [List.getElem_toArray, List.getElem_cons_zero, List.getElem_cons_succ]
          go_simp
          refine (num19_any _ _).mono ?_
          rintro e y1 ⟨rfl, rfl⟩
          dsimp only
          refine hK.out _ _ ?_ (fun hHeld => ?_)
          · exact hHeld
          clear hK K
          try simp only [Act.put, List.setIfInBounds_toArray, List.set_cons_zero, List.set_cons_succ]
          refine wpAnyH_ready (rs := [24]) (by kernel_rfl) (by simp) ?_
          refine AllReadyH.cons rfl (fun K hK => ?_) AllReadyH.nil
          simp only [List.getElem_toArray, List.getElem_cons_zero, List.getElem_cons_succ]
          go_simp
          refine (num19_any _ _).mono ?_
          rintro e y2 ⟨rfl, rfl⟩
          dsimp only
          refine hK.out _ _ ?_ (fun hHeld => ?_)
          · exact hHeld
          clear hK K
          try simp only [Act.put, List.setIfInBounds_toArray, List.set_cons_zero, List.set_cons_succ]
          refine wpAnyH_take (i := 25) (v := ?_) rfl (by kernel_rfl) (by kernel_rfl) (by kernel_rfl) (fun _ _ _ h => h) (Or.inl ⟨by rfl, ?_⟩) (by assumption) ?_
          rotate_left
          · (intro w hSw; (try dsimp only at hSw); simp only [List.getElem_toArray, List.getElem_cons_zero, List.getElem_cons_succ]; go_simp; first | done | with_reducible rfl)
          simp only [List.getElem_toArray, List.getElem_cons_zero, List.getElem_cons_succ, Act.put, List.setIfInBounds_toArray, List.set_cons_zero, List.set_cons_succ]
          refine wpAnyH_take (i := 26) (v := ?_) rfl (by kernel_rfl) (by kernel_rfl) (by kernel_rfl) (fun _ _ _ h => h) (Or.inl ⟨by rfl, ?_⟩) (by assumption) ?_
          rotate_left
          · (intro w hSw; (try dsimp only at hSw); simp only [List.getElem_toArray, List.getElem_cons_zero, List.getElem_cons_succ]; go_simp; first | done | with_reducible rfl)
          simp only [List.getElem_toArray, List.getElem_cons_zero, List.getElem_cons_succ, Act.put, List.setIfInBounds_toArray, List.set_cons_zero, List.set_cons_succ]
          refine wpAnyH_take (i := 27) (v := ?_) rfl (by kernel_rfl) (by kernel_rfl) (by kernel_rfl) (fun _ _ _ h => h) (Or.inl ⟨by rfl, ?_⟩) (by assumption) ?_
          rotate_left
          · (intro w hSw; (try dsimp only at hSw); simp only [List.getElem_toArray, List.getElem_cons_zero, List.getElem_cons_succ]; go_simp; first | done | with_reducible rfl)
          simp only [List.getElem_toArray, List.getElem_cons_zero, List.getElem_cons_succ, Act.put, List.setIfInBounds_toArray, List.set_cons_zero, List.set_cons_succ]
          clear hx1 hx2 hx3 hx4
          refine wpAnyH_take (i := 28) (v := undef) rfl (by kernel_rfl) (by kernel_rfl) (by kernel_rfl) (fun _ _ _ h => h) (Or.inr ⟨by rfl, rfl⟩) (by assumption) ?_
          simp only [List.getElem_toArray, List.getElem_cons_zero, List.getElem_cons_succ, Act.put, List.setIfInBounds_toArray, List.set_cons_zero, List.set_cons_succ]
          refine wpAnyH_take (i := 29) (v := undef) rfl (by kernel_rfl) (by kernel_rfl) (by kernel_rfl) (fun _ _ _ h => h) (Or.inr ⟨by rfl, rfl⟩) (by assumption) ?_
          simp only [List.getElem_toArray, List.getElem_cons_zero, List.getElem_cons_succ, Act.put, List.setIfInBounds_toArray, List.set_cons_zero, List.set_cons_succ]
          refine wpAnyH_take (i := 30) (v := undef) rfl (by kernel_rfl) (by kernel_rfl) (by kernel_rfl) (fun _ _ _ h => h) (Or.inr ⟨by rfl, rfl⟩) (by assumption) ?_
          simp only [List.getElem_toArray, List.getElem_cons_zero, List.getElem_cons_succ, Act.put, List.setIfInBounds_toArray, List.set_cons_zero, List.set_cons_succ]
          refine wpAnyH_take (i := 31) (v := undef) rfl (by kernel_rfl) (by kernel_rfl) (by kernel_rfl) (fun _ _ _ h => h) (Or.inr ⟨by rfl, rfl⟩) (by assumption) ?_
          simp only [List.getElem_toArray, List.getElem_cons_zero, List.getElem_cons_succ, Act.put, List.setIfInBounds_toArray, List.set_cons_zero, List.set_cons_succ]
          refine wpAnyH_take (i := 32) (v := undef) rfl (by kernel_rfl) (by kernel_rfl) (by kernel_rfl) (fun _ _ _ h => h) (Or.inr ⟨by rfl, rfl⟩) (by assumption) ?_
          simp only [List.getElem_toArray, List.getElem_cons_zero, List.getElem_cons_succ, Act.put, List.setIfInBounds_toArray, List.set_cons_zero, List.set_cons_succ]
          refine wpAnyH_take (i := 33) (v := undef) rfl (by kernel_rfl) (by kernel_rfl) (by kernel_rfl) (fun _ _ _ h => h) (Or.inr ⟨by rfl, rfl⟩) (by assumption) ?_
          simp only [List.getElem_toArray, List.getElem_cons_zero, List.getElem_cons_succ, Act.put, List.setIfInBounds_toArray, List.set_cons_zero, List.set_cons_succ]
          refine wpAnyH_take (i := 34) (v := undef) rfl (by kernel_rfl) (by kernel_rfl) (by kernel_rfl) (fun _ _ _ h => h) (Or.inr ⟨by rfl, rfl⟩) (by assumption) ?_
          simp only [List.getElem_toArray, List.getElem_cons_zero, List.getElem_cons_succ, Act.put, List.setIfInBounds_toArray, List.set_cons_zero, List.set_cons_succ]
          refine wpAnyH_take (i := 35) (v := undef) rfl (by kernel_rfl) (by kernel_rfl) (by kernel_rfl) (fun _ _ _ h => h) (Or.inr ⟨by rfl, rfl⟩) (by assumption) ?_
          simp only [List.getElem_toArray, List.getElem_cons_zero, List.getElem_cons_succ, Act.put, List.setIfInBounds_toArray, List.set_cons_zero, List.set_cons_succ]
          refine wpAnyH_take (i := 36) (v := undef) rfl (by kernel_rfl) (by kernel_rfl) (by kernel_rfl) (fun _ _ _ h => h) (Or.inr ⟨by rfl, rfl⟩) (by assumption) ?_
          simp only [List.getElem_toArray, List.getElem_cons_zero, List.getElem_cons_succ, Act.put, List.setIfInBounds_toArray, List.set_cons_zero, List.set_cons_succ]
          refine wpAnyH_take (i := 37) (v := ?_) rfl (by kernel_rfl) (by kernel_rfl) (by kernel_rfl) (fun _ _ _ h => h) (Or.inl ⟨by rfl, ?_⟩) (by assumption) ?_
          rotate_left
          · (intro w hSw; (try dsimp only at hSw); simp only [List.getElem_toArray, List.getElem_cons_zero, List.getElem_cons_succ]; go_simp; first | done | with_reducible rfl)
          simp only [List.getElem_toArray, List.getElem_cons_zero, List.getElem_cons_succ, Act.put, List.setIfInBounds_toArray, List.set_cons_zero, List.set_cons_succ]
          refine wpAnyH_take (i := 38) (v := ?_) rfl (by kernel_rfl) (by kernel_rfl) (by kernel_rfl) (fun _ _ _ h => h) (Or.inl ⟨by rfl, ?_⟩) (by assumption) ?_
          rotate_left
          · (intro w hSw; (try dsimp only at hSw); simp only [List.getElem_toArray, List.getElem_cons_zero, List.getElem_cons_succ]; go_simp; first | done | with_reducible rfl)
          simp only [List.getElem_toArray, List.getElem_cons_zero, List.getElem_cons_succ, Act.put, List.setIfInBounds_toArray, List.set_cons_zero, List.set_cons_succ]
          refine wpAnyH_done (by kernel_rfl) ?_ _
          obtain ⟨w5, hw5⟩ : ∃ W, W = x4 := ⟨_, rfl⟩
          subst hw5
          have HB5 := Lib.hid hHeld.2
          clear hHeld
          go_wp2_with fail
          go_meet
          exact ⟨rfl, HB5.out⟩
      case rest =>
        obtain ⟨rfl, hb5⟩ := hcut
        have HB5 := Lib.hid (bthen HB4.out hb5)
        clear hb5 HQ HST HBO4 HCO HBO HCS HCT CS1 CS2 CI1 CI2 CM1 CM2 CB1 CB2 HR1 HR2 HJA HJP HBW
        have hst := msNew wc HAO.out.1 HAO.out.2
        have hal := HAO.out.1
        go_upto_region 8 with (refine wpList_load_mid rfl 81 _ rfl w.heap.size 0 rfl AL _ (HSS.out _ HB5.out).1.1 Try.underlying81 rfl HIA.out ?_)
        clear hst hal
        obtain ⟨P9, hP9⟩ : ∃ P, wc.heap.size = P := ⟨_, rfl⟩
        have HB6 : Hid (Below W0.heap.size W0 (wc.alloc (.cells AL.toArray 81))) := Lib.hid (balloc HB5.out _)
        have HZ6 : Hid ((wc.alloc (.cells AL.toArray 81)).heap.size = P9 + 1 ∧ w.heap.size + 1 < P9) := Lib.hid ⟨by rw [← hP9]; simp, by have := HB5.out.size; have := HZ0.out; omega⟩
        have HX6 : Hid ((wc.alloc (.cells AL.toArray 81)).heap[P9]? = some (.cells AL.toArray 81 (0, 0))) := Lib.hid (by rw [← hP9]; exact heap_alloc_new wc _)
        rw [hP9]
        clear hP9
        generalize wc.alloc (.cells AL.toArray 81) = w6 at *
        have HC : Hid (∀ X, Below w6.heap.size w6 X → (X.cell? ⟨w.heap.size, 16, none⟩ = some s1 ∧ X.cell? ⟨w.heap.size, 288, none⟩ = some s2) ∧ Below w6.heap.size w6 X) := Lib.hid (fun X hX => by
          have h := (HSS.out X (bthen HB6.out hX)).1.1
          rw [← HAL.out] at h
          have hm := ms_at h
          have h1 := (op_at hm.r10).2.2.2.2.2.2
          have h2 := (op_at (it_at hm.r22 HOK.out.item.data).r260).2.2.2.2.2.2
          simp only [Nat.reduceAdd] at h1 h2
          exact ⟨⟨h1, h2⟩, hX⟩)
        have HSR : Hid (Rd w6 1 (.slice ao1 m.op.data.length cap1) m.op.data.length (bV m.op.data) ∧ Rd w6 1 (.slice ao2 m.item.op.data.length cap2) m.item.op.data.length (bV m.item.op.data)) := Lib.hid (by
          rw [← HS1.out, ← HS2.out]
          exact ⟨HD1.out.below (bthen HBB.out HB6.out), HD2.out.below (bthen HBB.out HB6.out)⟩)
        have hc0 := HC.out w6.drew (Below.refl _ _).drew
        have HNL := Lib.hid (fun (X : World) => World.ownsRow_nil X w6.heap.size 5 1)
        rw [HS1.out, HS2.out] at hc0
        have hsm1 := HSM.out.1
        have hsm2 := HSM.out.2
        refine wp_region_held_drew (S := fun X => X.cell? ⟨w.heap.size, 16, none⟩ = some (.slice ao1 m.op.data.length cap1) ∧ X.cell? ⟨w.heap.size, 288, none⟩ = some (.slice ao2 m.item.op.data.length cap2)) (by kernel_rfl) hc0.1 (fun hHeld => ?_)
        rw [HS1.out, HS2.out] at HC
        clear hc0
        refine wpAnyH_take (i := 0) (v := ?_) rfl (by kernel_rfl) (by kernel_rfl) (by kernel_rfl) (fun _ _ _ h => h) (Or.inl ⟨by rfl, ?_⟩) (by assumption) ?_
        rotate_left
        · (intro w hSw; (try dsimp only at hSw); simp only [List.getElem_toArray, List.getElem_cons_zero, List.getElem_cons_succ]; go_simp; first | done | with_reducible rfl)
        simp only [List.getElem_toArray, List.getElem_cons_zero, List.getElem_cons_succ, Act.put, List.setIfInBounds_toArray, List.set_cons_zero, List.set_cons_succ]
        refine wpAnyH_take (i := 1) (v := ?_) rfl (by kernel_rfl) (by kernel_rfl) (by kernel_rfl) (fun _ _ _ h => h) (Or.inl ⟨by rfl, ?_⟩) (by assumption) ?_
        rotate_left
        · (intro w hSw; (try dsimp only at hSw); simp only [List.getElem_toArray, List.getElem_cons_zero, List.getElem_cons_succ]; go_simp; first | done | with_reducible rfl)
        simp only [List.getElem_toArray, List.getElem_cons_zero, List.getElem_cons_succ, Act.put, List.setIfInBounds_toArray, List.set_cons_zero, List.set_cons_succ]
        refine wpAnyH_take (i := 2) (v := ?_) rfl (by kernel_rfl) (by kernel_rfl) (by kernel_rfl) (fun _ _ _ h => h) (Or.inl ⟨by rfl, ?_⟩) (by assumption) ?_
        rotate_left
        · (intro w hSw; (try dsimp only at hSw); simp only [List.getElem_toArray, List.getElem_cons_zero, List.getElem_cons_succ]; go_simp; first | done | with_reducible rfl)
        simp only [List.getElem_toArray, List.getElem_cons_zero, List.getElem_cons_succ, Act.put, List.setIfInBounds_toArray, List.set_cons_zero, List.set_cons_succ]
        refine wpAnyH_take (i := 4) (v := ?_) rfl (by kernel_rfl) (by kernel_rfl) (by kernel_rfl) (fun _ _ _ h => h) (Or.inl ⟨by rfl, ?_⟩) (by assumption) ?_
        rotate_left
        · (intro w hSw; (try dsimp only at hSw); simp only [List.getElem_toArray, List.getElem_cons_zero, List.getElem_cons_succ]; go_simp; first | done | with_reducible rfl)
        simp only [List.getElem_toArray, List.getElem_cons_zero, List.getElem_cons_succ, Act.put, List.setIfInBounds_toArray, List.set_cons_zero, List.set_cons_succ]
        refine wpAnyH_take (i := 5) (v := ?_) rfl (by kernel_rfl) (by kernel_rfl) (by kernel_rfl) (fun _ _ _ h => h) (Or.inl ⟨by rfl, ?_⟩) (by assumption) ?_
        rotate_left
        · (intro w hSw; (try dsimp only at hSw); simp only [List.getElem_toArray, List.getElem_cons_zero, List.getElem_cons_succ]; go_simp; first | done | with_reducible rfl)
        simp only [List.getElem_toArray, List.getElem_cons_zero, List.getElem_cons_succ, Act.put, List.setIfInBounds_toArray, List.set_cons_zero, List.set_cons_succ]
        refine wpAnyH_take (i := 6) (v := ?_) rfl (by kernel_rfl) (by kernel_rfl) (by kernel_rfl) (fun _ _ _ h => h) (Or.inl ⟨by rfl, ?_⟩) (by assumption) ?_
        rotate_left
        · (intro w hSw; (try dsimp only at hSw); simp only [List.getElem_toArray, List.getElem_cons_zero, List.getElem_cons_succ]; go_simp; first | done | with_reducible rfl)
        simp only [List.getElem_toArray, List.getElem_cons_zero, List.getElem_cons_succ, Act.put, List.setIfInBounds_toArray, List.set_cons_zero, List.set_cons_succ]
        refine wpAnyH_take (i := 7) (v := ?_) rfl (by kernel_rfl) (by kernel_rfl) (by kernel_rfl) (fun _ _ _ h => h) (Or.inl ⟨by rfl, ?_⟩) (by assumption) ?_
        rotate_left
        · (intro w hSw; (try dsimp only at hSw); simp only [List.getElem_toArray, List.getElem_cons_zero, List.getElem_cons_succ]; go_simp; first | done | with_reducible rfl)
        simp only [List.getElem_toArray, List.getElem_cons_zero, List.getElem_cons_succ, Act.put, List.setIfInBounds_toArray, List.set_cons_zero, List.set_cons_succ]
        have hd6 : Below w6.heap.size w6 w6.drew := (Below.refl _ _).drew
        refine wpAnyH_ready (rs := [3]) (by kernel_rfl) (by simp) ?_
        refine AllReadyH.cons rfl (fun K hK => ?_) AllReadyH.nil
        simp only [List.getElem_toArray, List.getElem_cons_zero, List.getElem_cons_succ]
        rw [if_pos (by rfl)]
        refine wp_apps _ _ 24 rfl w6.heap.size 5 _ 1 1 Try.underlying24 infoByte rfl (by decide) (by decide) (.slice none 0 0) 0 [] (by rfl) (HNL.out _) _ m.op.data.length _ (by rfl) (HSR.out.1.below hd6) (bV_one _) (by omega) (Nat.le_refl _) ?_
        intro v3 x3 ho3 hb3 hg3 hs3 hn3
        refine hK.out _ _ ?_ (fun hHeld => ?_)
        · exact (HC.out _ (hd6.trans hb3)).1
        clear hK K
        try simp only [Act.put, List.setIfInBounds_toArray, List.set_cons_zero, List.set_cons_succ]
        refine wpAnyH_take (i := 9) (v := ?_) rfl (by kernel_rfl) (by kernel_rfl) (by kernel_rfl) (fun _ _ _ h => h) (Or.inl ⟨by rfl, ?_⟩) (by assumption) ?_
        rotate_left
        · (intro w hSw; (try dsimp only at hSw); simp only [List.getElem_toArray, List.getElem_cons_zero, List.getElem_cons_succ]; go_simp; first | done | with_reducible rfl)
        simp only [List.getElem_toArray, List.getElem_cons_zero, List.getElem_cons_succ, Act.put, List.setIfInBounds_toArray, List.set_cons_zero, List.set_cons_succ]
        refine wpAnyH_take (i := 10) (v := ?_) rfl (by kernel_rfl) (by kernel_rfl) (by kernel_rfl) (fun _ _ _ h => h) (Or.inl ⟨by rfl, ?_⟩) (by assumption) ?_
        rotate_left
        · (intro w hSw; (try dsimp only at hSw); simp only [List.getElem_toArray, List.getElem_cons_zero, List.getElem_cons_succ]; go_simp; first | done | with_reducible rfl)
        simp only [List.getElem_toArray, List.getElem_cons_zero, List.getElem_cons_succ, Act.put, List.setIfInBounds_toArray, List.set_cons_zero, List.set_cons_succ]
        have hb63 := hd6.trans hb3
        refine wpAnyH_ready (rs := [8]) (by kernel_rfl) (by simp) ?_
        refine AllReadyH.cons rfl (fun K hK => ?_) AllReadyH.nil
        simp only [List.getElem_toArray, List.getElem_cons_zero, List.getElem_cons_succ]
        rw [if_pos (by rfl)]
        refine wp_apps _ _ 24 rfl x3.heap.size 5 _ 1 1 Try.underlying24 infoByte rfl (by decide) (by decide) (.slice none 0 0) 0 [] (by rfl) (World.ownsRow_nil _ _ 5 1) _ m.item.op.data.length _ (by rfl) (HSR.out.2.below hb63) (bV_one _) (by omega) (Nat.le_refl _) ?_
        intro v8 x8 ho8 hb8 hg8 hs8 hn8
        refine hK.out _ _ ?_ (fun hHeld => ?_)
        · exact (HC.out _ (hb63.trans (hb8.mono hb63.size))).1
        clear hK K
        try simp only [Act.put, List.setIfInBounds_toArray, List.set_cons_zero, List.set_cons_succ]
        have HB8 := Lib.hid (hb63.trans (hb8.mono hb63.size))
        have HO3 := Lib.hid (ownsRow_below ho3 hb8)
        have HV3 := Lib.hid (ownsRow_lt ho3)
        have HM6 : Hid (w6.heap.size ≤ x3.heap.size) := Lib.hid hb63.size
        have HO8 := Lib.hid ho8
        have HX8 : Hid (x8.heap[P9]? = some (.cells AL.toArray 81 (0, 0))) := Lib.hid ((HB8.out.block _ (by rw [HZ6.out.1]; omega)).trans HX6.out)
        have HLE : Hid (P9 < w6.heap.size ∧ w.heap.size ≠ P9) := Lib.hid ⟨by rw [HZ6.out.1]; omega, by have := HZ6.out.2; omega⟩
        obtain ⟨t16, ht16⟩ : ∃ u, x8.cell? ⟨P9, 16, none⟩ = some u := by
          have h := there_mid (N := 290) (o := 16) (n := 1) HX8.out (by rw [List.size_toArray]; exact HAO.out.1) (by omega) 0 (by omega)
          exact Option.isSome_iff_exists.1 h.1
        have hfz8 : ∀ i, x8.frozen? ⟨P9, i, none⟩ = false := fun i => frozenOf HX8.out i
        have hc8 := HC.out _ HB8.out
        have HKP : Hid (∀ (X : World), X.heap[w.heap.size]? = x8.heap[w.heap.size]? → X.cell? ⟨w.heap.size, 16, none⟩ = some (.slice ao1 m.op.data.length cap1) ∧ X.cell? ⟨w.heap.size, 288, none⟩ = some (.slice ao2 m.item.op.data.length cap2)) := Lib.hid (fun X hX => ⟨(World.cell?_of_block hX).trans hc8.1.1, (World.cell?_of_block hX).trans hc8.1.2⟩)
        have HBM : Hid (BM x8 P9 m s1 s2) := Lib.hid (by unfold BM; rw [HAL.out]; exact HX8.out)
        have HBM2 : Hid (BM (x8.setCell ⟨P9, 16, none⟩ v3) P9 m v3 s2) := Lib.hid (BM.put (b' := m) (o := 16) (Y := [v3]) HBM.out (msL_d1 m s1 s2) rfl rfl (msL_d1 m v3 s2))
        obtain ⟨t288, ht288⟩ : ∃ u, (x8.setCell ⟨P9, 16, none⟩ v3).cell? ⟨P9, 288, none⟩ = some u := by
          have h := there_mid (N := 290) (o := 288) (n := 1) HBM2.out (by rw [List.size_toArray]; exact msL_len HOK.out.item.data) (by omega) 0 (by omega)
          exact Option.isSome_iff_exists.1 h.1
        have hfz9 : ∀ i, (x8.setCell ⟨P9, 16, none⟩ v3).frozen? ⟨P9, i, none⟩ = false := fun i => frozenOf HBM2.out i
        simp only [Nat.zero_add, List.nil_append] at HO3 HO8
        obtain ⟨M, hM⟩ : ∃ M, x3.heap.size = M := ⟨_, rfl⟩
        rw [hM] at HO8 HV3 HM6
        clear hM
        obtain ⟨a3, c3, rfl⟩ := rd_slice (Rd.of_own HO3.out)
        obtain ⟨a8, c8, rfl⟩ := rd_slice (Rd.of_own HO8.out)
        refine wpAnyH_ready (rs := [11]) (by kernel_rfl) (by simp) ?_
        refine AllReadyH.cons rfl (fun K hK => ?_) AllReadyH.nil
        simp only [List.getElem_toArray, List.getElem_cons_zero, List.getElem_cons_succ]
        go_simp
        refine hK.out _ _ ?_ (fun hHeld => ?_)
        · exact HKP.out _ (Below.heap_setCell x8 ⟨P9, 16, none⟩ _ _ HLE.out.2)
        clear hK K
        try simp only [Act.put, List.setIfInBounds_toArray, List.set_cons_zero, List.set_cons_succ]
        refine wpAnyH_take (i := 12) (v := ?_) rfl (by kernel_rfl) (by kernel_rfl) (by kernel_rfl) (fun _ _ _ h => h) (Or.inl ⟨by rfl, ?_⟩) (by assumption) ?_
        rotate_left
        · (intro w hSw; (try dsimp only at hSw); simp only [List.getElem_toArray, List.getElem_cons_zero, List.getElem_cons_succ]; go_simp; first | done | with_reducible rfl)
        simp only [List.getElem_toArray, List.getElem_cons_zero, List.getElem_cons_succ, Act.put, List.setIfInBounds_toArray, List.set_cons_zero, List.set_cons_succ]
        refine wpAnyH_take (i := 13) (v := ?_) rfl (by kernel_rfl) (by kernel_rfl) (by kernel_rfl) (fun _ _ _ h => h) (Or.inl ⟨by rfl, ?_⟩) (by assumption) ?_
        rotate_left
        · (intro w hSw; (try dsimp only at hSw); simp only [List.getElem_toArray, List.getElem_cons_zero, List.getElem_cons_succ]; go_simp; first | done | with_reducible rfl)
        simp only [List.getElem_toArray, List.getElem_cons_zero, List.getElem_cons_succ, Act.put, List.setIfInBounds_toArray, List.set_cons_zero, List.set_cons_succ]
        refine wpAnyH_take (i := 14) (v := ?_) rfl (by kernel_rfl) (by kernel_rfl) (by kernel_rfl) (fun _ _ _ h => h) (Or.inl ⟨by rfl, ?_⟩) (by assumption) ?_
        rotate_left
        · (intro w hSw; (try dsimp only at hSw); simp only [List.getElem_toArray, List.getElem_cons_zero, List.getElem_cons_succ]; go_simp; first | done | with_reducible rfl)
        simp only [List.getElem_toArray, List.getElem_cons_zero, List.getElem_cons_succ, Act.put, List.setIfInBounds_toArray, List.set_cons_zero, List.set_cons_succ]
        refine wpAnyH_ready (rs := [15]) (by kernel_rfl) (by simp) ?_
        refine AllReadyH.cons rfl (fun K hK => ?_) AllReadyH.nil
        simp only [List.getElem_toArray, List.getElem_cons_zero, List.getElem_cons_succ]
        go_simp
        refine hK.out _ _ ?_ (fun hHeld => ?_)
        · exact HKP.out _ ((Below.heap_setCell _ ⟨P9, 288, none⟩ _ _ HLE.out.2).trans (Below.heap_setCell x8 ⟨P9, 16, none⟩ _ _ HLE.out.2))
        clear hK K
        try simp only [Act.put, List.setIfInBounds_toArray, List.set_cons_zero, List.set_cons_succ]
        refine wpAnyH_done (by kernel_rfl) ?_ _
        have HBX := Lib.hid (BM.data (t1 := .slice a3 m.op.data.length c3) (t2 := .slice a8 m.item.op.data.length c8) HBM.out HOK.out.item.data)
        have HO3' := Lib.hid (own_setCell_tag (o := 288) (u := .slice a8 m.item.op.data.length c8) (own_setCell_tag (o := 16) (u := .slice a3 m.op.data.length c3) HO3.out HBM.out) HBM2.out)
        have HO8' := Lib.hid (own_setCell_tag (o := 288) (u := .slice a8 m.item.op.data.length c8) (own_setCell_tag (o := 16) (u := .slice a3 m.op.data.length c3) HO8.out HBM.out) HBM2.out)
        have HLOW : Hid (∀ j, j < w6.heap.size → j ≠ P9 → ((x8.setCell ⟨P9, 16, none⟩ (.slice a3 m.op.data.length c3)).setCell ⟨P9, 288, none⟩ (.slice a8 m.item.op.data.length c8)).heap[j]? = w6.heap[j]?) := Lib.hid (fun j hj hn => (Below.heap_setCell _ ⟨P9, 288, none⟩ _ _ hn).trans ((Below.heap_setCell x8 ⟨P9, 16, none⟩ _ _ hn).trans (HB8.out.block j hj)))
        have HZX : Hid (w6.heap.size ≤ ((x8.setCell ⟨P9, 16, none⟩ (.slice a3 m.op.data.length c3)).setCell ⟨P9, 288, none⟩ (.slice a8 m.item.op.data.length c8)).heap.size) := Lib.hid (by have := HB8.out.size; simpa [World.setCell] using this)
        have HBL : Hid (Below w.heap.size w ((x8.setCell ⟨P9, 16, none⟩ (.slice a3 m.op.data.length c3)).setCell ⟨P9, 288, none⟩ (.slice a8 m.item.op.data.length c8))) := Lib.hid (((bthen HBB.out (bthen HB6.out HB8.out)).setCell (p := ⟨P9, 16, none⟩) (by have := HZ6.out.2; show w.heap.size ≤ P9; omega) _).setCell (p := ⟨P9, 288, none⟩) (by have := HZ6.out.2; show w.heap.size ≤ P9; omega) _)
        clear hHeld ho3 hb3 hg3 hs3 hn3 ho8 hb8 hg8 hs8 hn8 hb63 hd6 hc8 ht16 ht288 hfz8 hfz9 hsm1 hsm2
        generalize (x8.setCell ⟨P9, 16, none⟩ (.slice a3 m.op.data.length c3)).setCell ⟨P9, 288, none⟩ (.slice a8 m.item.op.data.length c8) = w9 at *
        obtain ⟨OL, hOL, hol⟩ : ∃ L, msL m (.slice a3 m.op.data.length c3) (.slice a8 m.item.op.data.length c8) = L ∧ L.length = 290 := ⟨_, rfl, msL_len HOK.out.item.data⟩
        have HOL := Lib.hid hOL
        have CCP : Hid (Calls Try.prog 55 #[.agg OL.toArray] w9 fun e w' => ∃ t1 t2, e = .returned (.agg (msL m t1 t2).toArray) ∧ w'.ownsRow w9.heap.size 5 1 t1 m.op.data.length (bV m.op.data) ∧ w'.ownsRow w9.heap.size 5 1 t2 m.item.op.data.length (bV m.item.op.data) ∧ Below w9.heap.size w9 w') := Lib.hid (by
          rw [← hOL]
          exact copyM_any m _ _ w9 HOK.out.item.data (Rd.of_own HO3'.out) (Rd.of_own HO8'.out) (by have := HSM.out.1; omega) (by have := HSM.out.2; omega))
        have hbx : w9.heap[P9]? = some (.cells OL.toArray 81 (0, 0)) := by rw [← hOL]; exact HBX.out
        have HBX9 := Lib.hid hbx
        have HRO : Hid (w9.rangeAt P9 0 OL) := Lib.hid (range_block hbx)
        have HIO : Hid ((Try.prog.info? 81).map (·.size) = some OL.length) := Lib.hid (infoM hol)
        clear hOL hol hbx
        go_wp2_with (refine wpList_load_mid rfl 81 _ rfl P9 0 rfl OL _ HRO.out Try.underlying81 rfl HIO.out ?_)
        refine CCP.out.mono ?_
        rintro e w10 ⟨t1, t2, rfl, ht1, ht2, hb10⟩
        obtain ⟨DL, hDL, hdl, hdo⟩ : ∃ L, msL m t1 t2 = L ∧ L.length = 290 ∧ ∀ u ∈ L, u.oneCell' = true := ⟨_, rfl, msL_len HOK.out.item.data, msL_one (oneOwn ht1) (oneOwn ht2)⟩
        rw [hDL]
        have hst := msNew w10 hdl hdo
        have HDL := Lib.hid hDL
        have HID : Hid ((Try.prog.info? 81).map (·.size) = some DL.length) := Lib.hid (infoM hdl)
        have HB10 : Hid (Below w9.heap.size w9 (w10.alloc (.cells DL.toArray 81))) := Lib.hid (balloc hb10 _)
        have HT1 := Lib.hid (ownsRow_below ht1 (balloc (Below.refl _ _) (.cells DL.toArray 81)))
        have HT2 := Lib.hid (ownsRow_below ht2 (balloc (Below.refl _ _) (.cells DL.toArray 81)))
        have HXD : Hid ((w10.alloc (.cells DL.toArray 81)).heap[w10.heap.size]? = some (.cells DL.toArray 81 (0, 0)) ∧ w9.heap.size ≤ w10.heap.size) := Lib.hid ⟨heap_alloc_new w10 _, hb10.size⟩
        clear hDL hdo ht1 ht2 hb10
        go_upto_region 10 with fail
        clear hst hdl
        generalize w10.alloc (.cells DL.toArray 81) = w11 at *
        have hBX11 : w11.heap[P9]? = some (.cells OL.toArray 81 (0, 0)) := (HB10.out.block _ (Array.getElem?_eq_some_iff.1 HBX9.out).1).trans HBX9.out
        have HBX11 := Lib.hid hBX11
        have HCC : Hid (∀ X : World, X.heap[P9]? = w11.heap[P9]? → X.cell? ⟨P9, 16, none⟩ = some (.slice a3 m.op.data.length c3) ∧ X.cell? ⟨P9, 288, none⟩ = some (.slice a8 m.item.op.data.length c8)) := Lib.hid (fun X hX => by
          have h := range_block (hX.trans HBX11.out)
          rw [← HOL.out] at h
          have hm := ms_at h
          have h1 := (op_at hm.r10).2.2.2.2.2.2
          have h2 := (op_at (it_at hm.r22 HOK.out.item.data).r260).2.2.2.2.2.2
          simp only [Nat.reduceAdd] at h1 h2
          exact ⟨h1, h2⟩)
        have HO3'' := Lib.hid (ownsRow_below HO3'.out HB10.out)
        have HO8'' := Lib.hid (ownsRow_below HO8'.out HB10.out)
        have CP1 : Hid (Calls Try.prog 56 #[.slice a3 m.op.data.length c3] w11 fun e w' => e = .returned (.tuple #[]) ∧ SpoilP w6.heap.size w11 (.slice a3 m.op.data.length c3) m.op.data.length w') := Lib.hid (spoil19_any w6.heap.size a3 _ c3 m.op.data w11 (by have := HSM.out.1; omega) HO3''.out rfl)
        have c16 := (HCC.out w11 rfl).1
        clear hBX11
        go_wp2_with fail
        refine CP1.out.mono ?_
        rintro e w12 ⟨rfl, hsp1⟩
        have HSP1 := Lib.hid hsp1
        clear hsp1 c16
        have HEP : Hid (w12.heap[P9]? = w11.heap[P9]?) := Lib.hid (HSP1.out.low.block P9 HLE.out.1)
        have c288 := (HCC.out w12 HEP.out).2
        have HK1 := Lib.hid (HSP1.out.keep HO3''.out HV3.out)
        have HO8c : Hid (w12.ownsRow M 5 1 (.slice a8 m.item.op.data.length c8) m.item.op.data.length (bV m.item.op.data)) := Lib.hid (ownsRow_at HO8''.out (fun k hk => HK1.out k (ownsRow_ge HO8''.out k hk)))
        have HV8 : Hid (∀ k ∈ ob (.slice a8 m.item.op.data.length c8), k < w9.heap.size) := Lib.hid (ownsRow_lt HO8'.out)
        have HV3b : Hid (∀ k ∈ ob (.slice a3 m.op.data.length c3), k < w9.heap.size) := Lib.hid (ownsRow_lt HO3'.out)
        have CP2 : Hid (Calls Try.prog 56 #[.slice a8 m.item.op.data.length c8] w12 fun e w' => e = .returned (.tuple #[]) ∧ SpoilP M w12 (.slice a8 m.item.op.data.length c8) m.item.op.data.length w') := Lib.hid (spoil19_any M a8 _ c8 m.item.op.data w12 (by have := HSM.out.2; omega) HO8c.out rfl)
        go_wp2_with fail
        refine CP2.out.mono ?_
        rintro e w13 ⟨rfl, hsp2⟩
        have HSP2 := Lib.hid hsp2
        clear hsp2 c288
        have HHI : Hid (∀ j, w9.heap.size ≤ j → w13.heap[j]? = w11.heap[j]?) := Lib.hid (fun j hj => (HSP2.out.keep HO8c.out HV8.out j hj).trans (HSP1.out.keep HO3''.out HV3b.out j hj))
        have HLO : Hid (Below w6.heap.size w11 w13) := Lib.hid (HSP1.out.low.trans (HSP2.out.low.mono HM6.out))
        have HBF : Hid (Below w.heap.size w w13) := Lib.hid ((bthen HBL.out HB10.out).trans (HLO.out.mono (by have := HZ6.out; omega)))
        have HRD : Hid (w13.rangeAt w10.heap.size 0 DL) := Lib.hid (range_block ((HHI.out _ HXD.out.2).trans HXD.out.1))
        have HRA : Hid (w13.rangeAt w.heap.size 0 AL) := Lib.hid (range_block (by
          have hlt : w.heap.size < w6.heap.size := by have := HZ6.out; omega
          have hl9 : w.heap.size < w9.heap.size := Nat.lt_of_lt_of_le hlt HZX.out
          rw [HLO.out.block _ hlt, HB10.out.block _ hl9, HLOW.out _ hlt HLE.out.2, HB6.out.block _ (by have := HZ0.out; omega)]
          exact HX0.out))
        have CSF : Hid (Calls Try.prog 51 #[.agg DL.toArray, .agg AL.toArray] w13 fun e w' => e = .returned (.bool true) ∧ Below w13.heap.size w13 w') := Lib.hid (by
          have k1 := ownsRow_at HT1.out (fun k hk => HHI.out k (ownsRow_ge HT1.out k hk))
          have k2 := ownsRow_at HT2.out (fun k hk => HHI.out k (ownsRow_ge HT2.out k hk))
          have h := rsameM_any m m t1 t2 s1 s2 w13 HOK.out.item.data HOK.out.item.data (Rd.of_own k1) (Rd.of_own k2) (HD1.out.below HBF.out) (HD2.out.below HBF.out)
          rw [HDL.out, HAL.out, msEq_yes rfl] at h
          exact h)
        go_wp2_with (first
          | (refine wpList_load_mid rfl 81 _ rfl w10.heap.size 0 rfl DL _ HRD.out Try.underlying81 rfl HID.out ?_)
          | (refine wpList_load_mid rfl 81 _ rfl w.heap.size 0 rfl AL _ HRA.out Try.underlying81 rfl HIA.out ?_))
        refine CSF.out.mono ?_
        rintro e w14 ⟨rfl, hb14⟩
        have HBX := Lib.hid (bthen HBF.out hb14)
        clear hb14
        go_wp2_with fail
        refine (CK.out _).mono ?_
        rintro e w2 ⟨rfl, hb2⟩
        have HB2 := Lib.hid (bthen HBX.out hb2)
        clear hb2
        go_wp2_with fail
        go_ret
        exact ⟨rfl, HB2.out⟩
end Go.Proofs.Ytgkelbdgdhkeoaa
