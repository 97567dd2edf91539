/- The law CommandOps, walked. -/
import Derived.Test.YtgkelbdgdhkeoaaCB
import Derived.Test.YtgkelbdgdhkeoaaPartsL
namespace Go.Proofs.Ytgkelbdgdhkeoaa
open Go.RowKit
set_option linter.unusedVariables false
set_option linter.unusedSimpArgs false
open Wire Cmd

def nV (zs : List Int) : List Value := zs.map (Value.int .u8)
theorem packO_pack {o : Op0} {bs : List UInt8} (h : packO o = some bs) : pack (49 :: shS (nm o.k)) (num (toU o.k) :: vals o (nm o.k)) = some bs := by
  unfold packO at h
  split at h
  · exact h
  · cases h
theorem run_text_ok (w : World) (v : Value) (n : Nat) (bs : List UInt8) (h : Rd w 1 v n (bV bs)) : ((convert 24 9 v).run Try.prog w).andThen (fun a w' => Result.ok (Next.value a) w') = .ok (.value (.string (strB bs))) w := by
  rw [run_text w v n bs h]; rfl
/-- What the loop that spoils the own row leaves. -/
structure LoopR (M : Nat) (w7 w9 : World) (v : Value) (n : Nat) (wr : World) : Prop where
  own : ∃ zs : List Int, zs.length = n ∧ wr.ownsRow (M + 1) 5 1 v n (nV zs)
  low : Below (M + 1) w7 wr
  hi : ∀ j, w7.heap.size ≤ j → wr.heap[j]? = w9.heap[j]?

set_option maxRecDepth 100000 in
set_option maxHeartbeats 12800000 in
theorem commandOps_walk (o p : Op0) (oko : o.Ok) (okp : p.Ok) (so sp : Value) (w : World) (hdo : Rd w 1 so o.data.length (bV o.data)) (hdp : Rd w 1 sp p.data.length (bV p.data)) :
    Calls Try.prog 3 #[.agg (oC o so), .agg (oC p sp)] w fun e w' => e = .returned (.bool true) ∧ Below w.heap.size w w' := by
  have hlo : o.data.length ≤ 9223372036854775807 := by obtain ⟨_, _, _, _, h, _⟩ := hdo; unfold maxLen at h; exact h
  have hlp : p.data.length ≤ 9223372036854775807 := by obtain ⟨_, _, _, _, h, _⟩ := hdp; unfold maxLen at h; exact h
  have CMo : Hid (∀ W : World, Calls Try.prog 17 #[.agg (oC o so)] W fun e w' => e = .returned (.bool (decide (9000 < (o.data.length : Int)))) ∧ Below W.heap.size W w') := Lib.hid (fun W => by
    obtain ⟨ao, cap, rfl, _⟩ := hdo
    exact much13_any o ao cap W hlo)
  have CMp : Hid (∀ W : World, Calls Try.prog 17 #[.agg (oC p sp)] W fun e w' => e = .returned (.bool (decide (9000 < (p.data.length : Int)))) ∧ Below W.heap.size W w') := Lib.hid (fun W => by
    obtain ⟨ao, cap, rfl, _⟩ := hdp
    exact much13_any p ao cap W hlp)
  have CK := Lib.hid (fun W => known13_any W)
  have HDO := Lib.hid hdo
  have HDP := Lib.hid hdp
  have CB : Hid (∀ W : World, o.data.length ≤ 9000 → Below w.heap.size w W → Calls Try.prog 19 #[.agg (oC o so)] W (PackP W (packO o))) := Lib.hid (fun W h9 hb => bytes_any o oko so W (HDO.out.below hb) (by omega))
  have CR : Hid (∀ W : World, o.data.length ≤ 9000 → Calls Try.prog 20 #[.agg (oC o so)] W fun e w' => e = .returned (.bool (mayO o)) ∧ Below W.heap.size W w') := Lib.hid (fun W h9 => by
    obtain ⟨ao, cap, rfl, _⟩ := HDO.out
    rw [← mayR_mayO]
    exact rmayO_any o oko ao cap W (by omega))
  obtain ⟨OC, hOC, hol, ho1, ho6⟩ : ∃ OC : List Value, oC o so = OC.toArray ∧ OC.length = 7 ∧ (∀ u ∈ OC, u.oneCell' = true) ∧ OC[6]? = some so := ⟨_, rfl, rfl, by
    obtain ⟨ao, cap, rfl, _⟩ := HDO.out
    intro u hu
    simp only [List.mem_cons, List.not_mem_nil, or_false] at hu
    rcases hu with rfl | rfl | rfl | rfl | rfl | rfl | rfl <;> rfl, rfl⟩
  obtain ⟨PC, hPC, hpl, hpe⟩ : ∃ PC : List Value, oC p sp = PC.toArray ∧ PC.length = 7 ∧ PC = [.int .i64 p.k, .int .u64 (p.vol : Int), .int .u64 (p.to : Int), .int .i64 p.size, .int .i64 p.pl, .int .i64 p.count, sp] := ⟨_, rfl, rfl, rfl⟩
  have HPE : Hid (∀ (W : World) (b : Nat), W.rangeAt b 0 PC → W.cell? ⟨b, 0, none⟩ = some (.int .i64 p.k) ∧ W.cell? ⟨b, 1, none⟩ = some (.int .u64 (p.vol : Int)) ∧ W.cell? ⟨b, 2, none⟩ = some (.int .u64 (p.to : Int)) ∧ W.cell? ⟨b, 3, none⟩ = some (.int .i64 p.size) ∧ W.cell? ⟨b, 4, none⟩ = some (.int .i64 p.pl) ∧ W.cell? ⟨b, 5, none⟩ = some (.int .i64 p.count) ∧ W.cell? ⟨b, 6, none⟩ = some sp) := Lib.hid (by
    intro W b h
    rw [hpe] at h
    exact ⟨h 0 _ rfl, h 1 _ rfl, h 2 _ rfl, h 3 _ rfl, h 4 _ rfl, h 5 _ rfl, h 6 _ rfl⟩)
  clear hpe
  rw [hOC] at CMo CB CR ⊢
  unfold oC at CMp
  rw [hPC]
  have HOL := Lib.hid hol
  have HPL := Lib.hid hpl
  have HIO : Hid ((Try.prog.info? 26).map (·.size) = some OC.length) := Lib.hid (by rw [hol]; exact infoOp)
  have HIP : Hid ((Try.prog.info? 26).map (·.size) = some PC.length) := Lib.hid (by rw [hpl]; exact infoOp)
  have HOC := Lib.hid hOC
  have HPC := Lib.hid hPC
  have HONE := Lib.hid (And.intro ho1 ho6)
  clear hOC hPC hdo hdp hol hpl ho1 ho6
  have HB0 : Hid (Below w.heap.size w ((w.alloc (.cells OC.toArray 26)).alloc (.cells PC.toArray 26))) := Lib.hid (balloc (balloc (Below.refl _ w) _) _)
  have HRO : Hid (∀ W, Below (w.heap.size + 1 + 1) ((w.alloc (.cells OC.toArray 26)).alloc (.cells PC.toArray 26)) W → W.rangeAt w.heap.size 0 OC) := Lib.hid (fun W hW j u hj => by
    rw [Nat.zero_add]
    refine cellIs ((hW.block w.heap.size (by omega)).trans ((Below.heap_alloc _ _ _ (by simp)).trans (heap_alloc_new w _))) (by simpa using hj))
  have HRP : Hid (∀ W, Below (w.heap.size + 1 + 1) ((w.alloc (.cells OC.toArray 26)).alloc (.cells PC.toArray 26)) W → W.rangeAt (w.heap.size + 1) 0 PC) := Lib.hid (fun W hW j u hj => by
    rw [Nat.zero_add]
    have h := heap_alloc_new (w.alloc (.cells OC.toArray 26)) (.cells PC.toArray 26)
    rw [World.size_alloc] at h
    exact cellIs ((hW.block (w.heap.size + 1) (by omega)).trans h) (by simpa using hj))
  have HR00 := Lib.hid (HRO.out _ (Below.refl _ _))
  have HP00 := Lib.hid (HRP.out _ (Below.refl _ _))
  by_cases hbo : 9000 < (o.data.length : Int)
  · have HT : Hid (decide (9000 < (o.data.length : Int)) = true) := Lib.hid (decide_eq_true hbo)
    rw [HT.out] at CMo
    clear hbo
    go_enter Try.func3, Try.ntmps3
    go_wp2_with (first
      | (refine wpList_load_mid rfl 26 _ rfl w.heap.size 0 rfl OC _ HR00.out Try.underlying26 rfl HIO.out ?_))
    refine (CMo.out _).mono ?_
    rintro e w1 ⟨rfl, hb1⟩
    have HB1 := Lib.hid (bthen HB0.out hb1)
    clear hb1
    go_wp2_with fail
    refine (CK.out _).mono ?_
    rintro e w2 ⟨rfl, hb2⟩
    have HB2 := Lib.hid (bthen HB1.out hb2)
    clear hb2
    go_wp2_with fail
    go_ret
    exact ⟨rfl, HB2.out⟩
  have HT : Hid (decide (9000 < (o.data.length : Int)) = false) := Lib.hid (decide_eq_false hbo)
  rw [HT.out] at CMo
  have H9 : Hid (o.data.length ≤ 9000) := Lib.hid (by omega)
  clear hbo
  by_cases hbp : 9000 < (p.data.length : Int)
  · have HTp : Hid (decide (9000 < (p.data.length : Int)) = true) := Lib.hid (decide_eq_true hbp)
    rw [HTp.out] at CMp
    clear hbp
    go_enter Try.func3, Try.ntmps3
    go_wp2_with (first
      | (refine wpList_load_mid rfl 26 _ rfl w.heap.size 0 rfl OC _ HR00.out Try.underlying26 rfl HIO.out ?_))
    refine (CMo.out _).mono ?_
    rintro e w1 ⟨rfl, hb1⟩
    have HB1 := Lib.hid (bthen HB0.out hb1)
    have HP1 := Lib.hid (HRP.out w1 (by simpa using hb1))
    clear hb1
    obtain ⟨f0, f1, f2, f3, f4, f5, f6⟩ := HPE.out _ _ HP1.out
    go_wp2_with fail
    clear f0 f1 f2 f3 f4 f5 f6
    refine (CMp.out _).mono ?_
    rintro e w2 ⟨rfl, hb2⟩
    have HB2 := Lib.hid (bthen HB1.out hb2)
    clear hb2
    go_wp2_with fail
    refine (CK.out _).mono ?_
    rintro e w3 ⟨rfl, hb3⟩
    have HB3 := Lib.hid (bthen HB2.out hb3)
    clear hb3
    go_wp2_with fail
    go_ret
    exact ⟨rfl, HB3.out⟩
  have HTp : Hid (decide (9000 < (p.data.length : Int)) = false) := Lib.hid (decide_eq_false hbp)
  rw [HTp.out] at CMp
  have H9p : Hid (p.data.length ≤ 9000) := Lib.hid (by omega)
  clear hbp
  have CBy : Hid (∀ W : World, Below w.heap.size w W → Calls Try.prog 19 #[.agg OC.toArray] W fun e w' => ∃ bs bv em, e = .returned (.tuple #[bv, .int .i64 em]) ∧ (mayO o = true → packO o = some bs ∧ em = 0) ∧ (mayO o = false → bs = [] ∧ em = 2) ∧ Rd w' 1 bv bs.length (bV bs) ∧ Below W.heap.size W w') := Lib.hid (fun W hb => by
    refine (CB.out W H9.out hb).mono ?_
    rintro e w' ⟨hbw, h⟩
    cases hm : mayO o with
    | true =>
      obtain ⟨bs, h1, h2⟩ := packO_some hm
      rw [h1] at h
      obtain ⟨v', rfl, hown⟩ := h
      exact ⟨bs, v', 0, rfl, fun _ => ⟨h1, rfl⟩, fun h => (by cases h), Rd.of_own hown, hbw⟩
    | false =>
      rw [packO_none hm] at h
      exact ⟨[], .slice none 0 0, 2, h, fun h => (by cases h), fun _ => ⟨rfl, rfl⟩, Rd.of_own (World.ownsRow_nil w' 0 5 1), hbw⟩)
  go_enter Try.func3, Try.ntmps3
  go_wp2_with (first
    | (refine wpList_load_mid rfl 26 _ rfl w.heap.size 0 rfl OC _ HR00.out Try.underlying26 rfl HIO.out ?_))
  refine (CMo.out _).mono ?_
  rintro e w1 ⟨rfl, hb1⟩
  have HB1 := Lib.hid (bthen HB0.out hb1)
  have HC1 : Hid (Below (w.heap.size + 1 + 1) ((w.alloc (.cells OC.toArray 26)).alloc (.cells PC.toArray 26)) w1) := Lib.hid (by simpa using hb1)
  have HP1 := Lib.hid (HRP.out w1 HC1.out)
  clear hb1
  obtain ⟨f0, f1, f2, f3, f4, f5, f6⟩ := HPE.out _ _ HP1.out
  go_wp2_with fail
  clear f0 f1 f2 f3 f4 f5 f6
  refine (CMp.out _).mono ?_
  rintro e w2 ⟨rfl, hb2⟩
  have HB2 := Lib.hid (bthen HB1.out hb2)
  have HC2 := Lib.hid (HC1.out.trans (hb2.mono (by have := HC1.out.size; simpa using this)))
  have HO2 := Lib.hid (HRO.out w2 HC2.out)
  clear hb2
  go_wp2_with (first
    | (refine wpList_load_mid rfl 26 _ rfl w.heap.size 0 rfl OC _ HO2.out Try.underlying26 rfl HIO.out ?_))
  refine (CBy.out _ HB2.out).mono ?_
  rintro e w3 ⟨bs, bv, em, rfl, hbt, hbf, hrb, hb3⟩
  have HBT := Lib.hid (And.intro hbt hbf)
  have HRB := Lib.hid hrb
  have HB3 := Lib.hid (bthen HB2.out hb3)
  have HC3 := Lib.hid (HC2.out.trans (hb3.mono (by have := HC2.out.size; simpa using this)))
  have HO3 := Lib.hid (HRO.out w3 HC3.out)
  clear hb3 hbt hbf hrb
  go_wp2_with (first
    | (refine wpList_load_mid rfl 26 _ rfl w.heap.size 0 rfl OC _ HO3.out Try.underlying26 rfl HIO.out ?_))
  refine (CR.out _ H9.out).mono ?_
  rintro e w4 ⟨rfl, hb4⟩
  have HB4 := Lib.hid (bthen HB3.out hb4)
  have HC4 := Lib.hid (HC3.out.trans (hb4.mono (by have := HC3.out.size; simpa using this)))
  have HRB4 := Lib.hid (HRB.out.below hb4)
  have HO4 := Lib.hid (HRO.out w4 HC4.out)
  clear hb4
  have hst5 := run_storeNew (P := Try.prog) w4 26 #[.int .i64 0, .int .u64 0, .int .u64 0, .int .i64 0, .int .i64 0, .int .i64 0, .slice none 0 0] OC.toArray (by have := HOL.out; simp [this]) (by simpa using HONE.out.1)
  have HH4 : Hid (∀ W, Below (w4.heap.size + 1) (w4.alloc (.cells OC.toArray 26)) W → W.heap[w4.heap.size]? = some (.cells OC.toArray 26 (0, 0))) := Lib.hid (fun W hW => (hW.block w4.heap.size (by omega)).trans (heap_alloc_new w4 _))
  have HB5 : Hid (Below w.heap.size w (w4.alloc (.cells OC.toArray 26))) := Lib.hid (balloc HB4.out _)
  have HC5 : Hid (Below (w.heap.size + 1 + 1) ((w.alloc (.cells OC.toArray 26)).alloc (.cells PC.toArray 26)) (w4.alloc (.cells OC.toArray 26))) := Lib.hid (HC4.out.trans ((balloc (Below.refl _ w4) _).mono (by have := HC4.out.size; simpa using this)))
  have HN4 : Hid (w.heap.size + 1 + 1 ≤ w4.heap.size) := Lib.hid (by have := HC4.out.size; simpa using this)
  have hrd5 := HDO.out.below HB5.out
  have g6 : (w4.alloc (.cells OC.toArray 26)).cell? ⟨w.heap.size, 6, none⟩ = some so := (HRO.out _ HC5.out) 6 _ HONE.out.2
  have h9 := H9.out
  go_upto_region 7 with (first
    | (refine wpList_load_mid rfl 26 _ rfl w.heap.size 0 rfl OC _ HO4.out Try.underlying26 rfl HIO.out ?_)
    | (at_builtin; go_must (refine wpList_apps rfl _ _ 24 rfl (w4.heap.size + 1) 5 _ 1 1 Try.underlying24 infoByte rfl (by decide) (by decide) _ 0 [] rfl (World.ownsRow_nil _ _ _ _) _ o.data.length (bV o.data) rfl hrd5 (bV_one _) (by omega) (by simp) ?_); intro vo w6 ho6 hb6 _ _ _; simp only [Nat.zero_add, List.nil_append] at ho6; obtain ⟨aov, capv, rfl, _, _, _, _⟩ := Rd.of_own ho6; have hx6 := HH4.out w6 hb6; have hcl : w6.cell? ⟨w4.heap.size, 6, none⟩ = some so := cellIs hx6 (by simpa using HONE.out.2); have hfz : w6.frozen? ⟨w4.heap.size, 6, none⟩ = false := frozenOf hx6 6))
  obtain ⟨w7, hw7⟩ : ∃ W, w6.setCell ⟨w4.heap.size, 6, none⟩ (.slice aov o.data.length capv) = W := ⟨_, rfl⟩
  have hx7 : w7.heap[w4.heap.size]? = some (.cells (OC.toArray.setIfInBounds 6 (.slice aov o.data.length capv)) 26 (0, 0)) := by rw [← hw7]; exact setC_heap hx6
  obtain ⟨NC, hNC, hnl⟩ : ∃ NC : List Value, oC o (.slice aov o.data.length capv) = NC.toArray ∧ NC.length = 7 := ⟨_, rfl, rfl⟩
  have hset : OC.toArray.setIfInBounds 6 (.slice aov o.data.length capv) = NC.toArray := by rw [← HOC.out, ← hNC]; rfl
  rw [hset] at hx7
  have HX7 := Lib.hid hx7
  have hr7 : w7.rangeAt w4.heap.size 0 NC := fun j u hj => by
    rw [Nat.zero_add]
    exact cellIs hx7 (by simpa using hj)
  have HR7 := Lib.hid hr7
  have HIN : Hid ((Try.prog.info? 26).map (·.size) = some NC.length) := Lib.hid (by rw [hnl]; exact infoOp)
  have hge6 := ownsRow_ge ho6
  have HO7 : Hid (w7.ownsRow (w4.heap.size + 1) 5 1 (.slice aov o.data.length capv) o.data.length (bV o.data)) := Lib.hid (by
    rw [← hw7]
    exact ownsRow_at ho6 (fun j hj => Below.heap_setCell w6 ⟨w4.heap.size, 6, none⟩ _ j (fun e => by
      have h3 := hge6 j hj
      simp at e; omega)))
  have HB7 : Hid (Below w.heap.size w w7) := Lib.hid (by
    rw [← hw7]
    exact (HB5.out.trans (hb6.mono (by have := HN4.out; omega))).setCell (p := ⟨w4.heap.size, 6, none⟩) (by have := HN4.out; show w.heap.size ≤ w4.heap.size; omega) _)
  have HC7 : Hid (Below (w.heap.size + 1 + 1) ((w.alloc (.cells OC.toArray 26)).alloc (.cells PC.toArray 26)) w7) := Lib.hid (by
    rw [← hw7]
    exact (HC5.out.trans (hb6.mono (by have := HN4.out; omega))).setCell (p := ⟨w4.heap.size, 6, none⟩) (by exact HN4.out) _)
  have H47 : Hid (Below w4.heap.size w4 w7) := Lib.hid (by
    rw [← hw7]
    exact ((balloc (Below.refl _ w4) _).trans (hb6.mono (by omega))).setCell (p := ⟨w4.heap.size, 6, none⟩) (Nat.le_refl _) _)
  have HRB7 : Hid (Rd w7 1 bv bs.length (bV bs)) := Lib.hid (HRB4.out.below H47.out)
  have HL7 : Hid (w4.heap.size + 1 ≤ w7.heap.size) := Lib.hid (by have := (Array.getElem?_eq_some_iff.1 hx7).1; omega)
  have CC := copyO_any o (.slice aov o.data.length capv) w7 (Rd.of_own HO7.out) (by omega)
  rw [hNC] at CC
  have HNC := Lib.hid hNC
  rw [hw7]
  clear hw7 hx7 hset hr7 hge6 ho6 hb6 hcl hfz hx6 hNC hnl hst5 hrd5 g6
  go_wp2_with (first
    | (refine wpList_load_mid rfl 26 _ rfl w4.heap.size 0 rfl NC _ HR7.out Try.underlying26 rfl HIN.out ?_))
  refine CC.mono ?_
  rintro e w8 ⟨sc, rfl, hoc, hb8⟩
  clear CC
  obtain ⟨XC, hXC, hxl, hx1⟩ : ∃ XC : List Value, oC o sc = XC.toArray ∧ XC.length = 7 ∧ (∀ u ∈ XC, u.oneCell' = true) := ⟨_, rfl, rfl, by
    obtain ⟨ao, cap, rfl, _⟩ := Rd.of_own hoc
    intro u hu
    simp only [List.mem_cons, List.not_mem_nil, or_false] at hu
    rcases hu with rfl | rfl | rfl | rfl | rfl | rfl | rfl <;> rfl⟩
  have hst8 := run_storeNew (P := Try.prog) w8 26 #[.int .i64 0, .int .u64 0, .int .u64 0, .int .i64 0, .int .i64 0, .int .i64 0, .slice none 0 0] XC.toArray (by have := hxl; simp [this]) (by simpa using hx1)
  have HXC := Lib.hid hXC
  have HXL := Lib.hid hxl
  rw [hXC]
  have HOC8 := Lib.hid hoc
  have HB8 := Lib.hid hb8
  clear hXC hxl hx1 hoc hb8
  go_upto_region 9 with fail
  obtain ⟨w9, hw9⟩ : ∃ W, w8.alloc (.cells XC.toArray 26) = W := ⟨_, rfl⟩
  have HB79 : Hid (Below w7.heap.size w7 w9) := Lib.hid (by rw [← hw9]; exact balloc HB8.out _)
  have HX9 : Hid (w9.heap[w8.heap.size]? = some (.cells XC.toArray 26 (0, 0))) := Lib.hid (by rw [← hw9]; exact heap_alloc_new w8 _)
  have HO9 : Hid (w9.ownsRow w7.heap.size 5 1 sc o.data.length (bV o.data)) := Lib.hid (by rw [← hw9]; exact ownsRow_below HOC8.out (balloc (Below.refl _ _) _))
  have HLR : Hid (LoopR w4.heap.size w7 w9 (.slice aov o.data.length capv) o.data.length w9) := Lib.hid ⟨⟨o.data.map fun b => (b.toNat : Int), by simp, by
    rw [show nV (o.data.map fun b => (b.toNat : Int)) = bV o.data from by simp [nV, bV, Function.comp_def]]
    exact ownsRow_below HO7.out HB79.out⟩, HB79.out.mono HL7.out, fun _ _ => rfl⟩
  have HN6 : Hid (NC[6]? = some (.slice aov o.data.length capv)) := Lib.hid (by
    have h : (oC o (.slice aov o.data.length capv))[6]? = some (.slice aov o.data.length capv) := rfl
    rw [HNC.out] at h
    simpa using h)
  rw [hw9]
  clear hw9 hst8
  go_loopw [10] (fun i wr => ∃ (k : Nat), k ≤ o.data.length ∧ i = .int .i64 (k : Int) ∧ LoopR w4.heap.size w7 w9 (.slice aov o.data.length capv) o.data.length wr) (fun i _ => o.data.length - (intOf i).toNat)
  case atStart => exact ⟨0, by omega, rfl, HLR.out⟩
  case round =>
    obtain ⟨k, hk, rfl, hlr⟩ := hrel
    have HLRk := Lib.hid hlr
    obtain ⟨⟨zs, hzl, hown⟩, hlow, hhi⟩ := hlr
    have hxr : wr.heap[w4.heap.size]? = some (.cells NC.toArray 26 (0, 0)) := (hlow.block w4.heap.size (Nat.lt_succ_self _)).trans HX7.out
    have gown : wr.cell? ⟨w4.heap.size, 6, none⟩ = some (.slice aov o.data.length capv) := cellIs hxr (by simpa using HN6.out)
    by_cases hlt : k < o.data.length
    · obtain ⟨g, rfl⟩ : ∃ g, aov = some ⟨g, 0, none⟩ := by
        rcases hown.2 with ⟨hv, hn0⟩ | ⟨g, cap', cur, hv, _⟩
        · omega
        · simp at hv; exact ⟨g, hv.1⟩
      obtain ⟨z, hz⟩ : ∃ z, zs[k]? = some z := ⟨_, List.getElem?_eq_getElem (by omega)⟩
      have hcell := hown.cellAt k (by omega)
      have hfz := hown.frozenAt k
      have hx : (nV zs)[k]? = some (.int .u8 z) := by simp [nV, hz]
      rw [hx] at hcell
      have hge := (hown.lt g rfl).1
      have HG7 := Lib.hid (HO7.out.lt g rfl)
      have HST := Lib.hid (fun u => hown.stored k u)
      have HLOW := Lib.hid hlow
      have HHI := Lib.hid hhi
      clear hx hz hown hxr hlow hhi
      go_wp2_with fail
      go_region
      go_wp2_with fail
      go_roundw
      case rel =>
        refine ⟨k + 1, by omega, by go_num, ⟨zs.set k ((z + 1) % 256), by simpa using hzl, ?_⟩, (HLOW.out.setCell (p := ⟨g, k, none⟩) hge _).drew, fun j hj => ?_⟩
        · have h2 := ownsRow_below (HST.out (.int .u8 ((z + 1) % 256))).1 ((Below.refl _ _).drew)
          simpa [nV, List.map_set] using h2
        · refine (Below.heap_setCell wr ⟨g, k, none⟩ _ j (fun e => ?_)).trans (HHI.out j hj)
          have := HG7.out
          simp at e; omega
      case measure => simp [intOf]; omega
    · have hBr : Below w.heap.size w wr := HB7.out.trans (hlow.mono (by have := HN4.out; omega))
      have hCr := HC7.out.trans (hlow.mono (by have := HN4.out; omega))
      have HRBr : Hid (Rd wr 1 bv bs.length (bV bs)) := Lib.hid (HRB4.out.below (H47.out.trans (hlow.mono (Nat.le_succ _))))
      have HOr := Lib.hid (HRO.out wr hCr)
      have HPr := Lib.hid (HRP.out wr hCr)
      have HBR := Lib.hid hBr
      have hszr : w.heap.size + 1 + 1 ≤ wr.heap.size := by have := hCr.size; simpa using this
      have hsz8 : w8.heap.size < wr.heap.size := (Array.getElem?_eq_some_iff.1 ((hhi w8.heap.size HB8.out.size).trans HX9.out)).1
      have HXr : Hid (wr.rangeAt w8.heap.size 0 XC) := Lib.hid (fun j u hj => by
        rw [Nat.zero_add]
        exact cellIs ((hhi w8.heap.size HB8.out.size).trans HX9.out) (by simpa using hj))
      have HSCr : Hid (Rd wr 1 sc o.data.length (bV o.data)) := Lib.hid (Rd.of_own (ownsRow_at HO9.out (fun j hj => hhi j ((ownsRow_ge HO9.out) j hj))))
      clear hxr hown hlow hhi hBr hCr
      have CMay : Hid (∀ X, Below wr.heap.size wr X → Calls Try.prog 22 #[.agg OC.toArray] X fun e w' => e = .returned (.bool (mayO o)) ∧ Below X.heap.size X w') := Lib.hid (fun X hX => by
        rw [← HOC.out]; exact mayO_any o oko so X (HDO.out.below (bthen HBR.out hX)))
      have CS1 : Hid (∀ X, Below wr.heap.size wr X → Calls Try.prog 23 #[.agg OC.toArray, .agg PC.toArray] X fun e w' => e = .returned (.bool (opEq o p)) ∧ Below X.heap.size X w') := Lib.hid (fun X hX => by
        rw [← HOC.out, ← HPC.out]; exact same_any o p so sp X (HDO.out.below (bthen HBR.out hX)) (HDP.out.below (bthen HBR.out hX)))
      have CS2 : Hid (∀ X, Below wr.heap.size wr X → Calls Try.prog 24 #[.agg OC.toArray, .agg PC.toArray] X fun e w' => e = .returned (.bool (opEq o p)) ∧ Below X.heap.size X w') := Lib.hid (fun X hX => by
        rw [← HOC.out, ← HPC.out]; exact rsame_any o p so sp X (HDO.out.below (bthen HBR.out hX)) (HDP.out.below (bthen HBR.out hX)))
      have CS3 : Hid (∀ X, Below wr.heap.size wr X → Calls Try.prog 23 #[.agg OC.toArray, .agg OC.toArray] X fun e w' => e = .returned (.bool true) ∧ Below X.heap.size X w') := Lib.hid (fun X hX => by
        rw [← HOC.out, ← opEq_yes (rfl : o = o)]; exact same_any o o so so X (HDO.out.below (bthen HBR.out hX)) (HDO.out.below (bthen HBR.out hX)))
      have CS4 : Hid (∀ X, Below wr.heap.size wr X → Calls Try.prog 24 #[.agg XC.toArray, .agg OC.toArray] X fun e w' => e = .returned (.bool true) ∧ Below X.heap.size X w') := Lib.hid (fun X hX => by
        rw [← HOC.out, ← HXC.out, ← opEq_yes (rfl : o = o)]; exact rsame_any o o sc so X (HSCr.out.below hX) (HDO.out.below (bthen HBR.out hX)))
      have CCh : Hid (∀ X : World, Calls Try.prog 25 #[.agg OC.toArray] X fun e w' => e = .returned (.bool (o.k != 8 && o.k != 9)) ∧ Below X.heap.size X w') := Lib.hid (fun X => by
        rw [← HOC.out]; exact changes_any o so X)
      have HSZ : Hid (w.heap.size + 1 + 1 ≤ wr.heap.size) := Lib.hid hszr
      have HSZ8 : Hid (w8.heap.size < wr.heap.size) := Lib.hid hsz8
      have HK0 : Hid (OC[0]? = some (.int .i64 o.k)) := Lib.hid (by
        have h : (oC o so)[0]? = some (.int .i64 o.k) := rfl
        rw [HOC.out] at h
        simpa using h)
      clear hszr hsz8
      have HIX : Hid ((Try.prog.info? 26).map (·.size) = some XC.length) := Lib.hid (by rw [HXL.out]; exact infoOp)
      have HSS : Hid (∀ X, Below wr.heap.size wr X → (X.rangeAt w.heap.size 0 OC ∧ X.rangeAt (w.heap.size + 1) 0 PC ∧ X.rangeAt w8.heap.size 0 XC ∧ X.cell? ⟨w.heap.size, 0, none⟩ = some (.int .i64 o.k)) ∧ Below wr.heap.size wr X) := Lib.hid (fun X hX => ⟨⟨rangeAt_below HOr.out (by have := HSZ.out; omega) hX, rangeAt_below HPr.out (by have := HSZ.out; omega) hX, rangeAt_below HXr.out HSZ8.out hX, (rangeAt_below HOr.out (by have := HSZ.out; omega) hX) 0 _ HK0.out⟩, hX⟩)
      go_upto_region 12 with fail
      clear gown
      generalize mayO o = mo at *
      refine wp_region_held_drew (S := fun X => (X.rangeAt w.heap.size 0 OC ∧ X.rangeAt (w.heap.size + 1) 0 PC ∧ X.rangeAt w8.heap.size 0 XC ∧ X.cell? ⟨w.heap.size, 0, none⟩ = some (.int .i64 o.k)) ∧ Below wr.heap.size wr X) (by kernel_rfl) ?_ (fun hHeld => ?_)
      · exact HSS.out _ (Below.refl _ wr).drew
      refine wpAnyH_take (i := 0) (v := _) rfl (by kernel_rfl) (by kernel_rfl) (by kernel_rfl) (fun _ _ _ h => h) (yieldsIf_load_mid (by rfl) 26 _ rfl (w.heap.size) (0) rfl (OC) _ (fun w hw => hw.1.1) (Try.underlying26) rfl (HIO.out)) (by assumption) ?_
      simp only [List.getElem_toArray, List.getElem_cons_zero, List.getElem_cons_succ, Act.put, List.setIfInBounds_toArray, List.set_cons_zero, List.set_cons_succ]
      refine wpAnyH_take (i := 2) (v := ?_) rfl (by kernel_rfl) (by kernel_rfl) (by kernel_rfl) (fun _ _ _ h => h) (Or.inl ⟨by rfl, ?_⟩) (by assumption) ?_
      rotate_left
      · (intro w hSw; (try dsimp only at hSw); simp only [List.getElem_toArray, List.getElem_cons_zero, List.getElem_cons_succ]; go_simp; first | done | with_reducible rfl)
      simp only [List.getElem_toArray, List.getElem_cons_zero, List.getElem_cons_succ, Act.put, List.setIfInBounds_toArray, List.set_cons_zero, List.set_cons_succ]
      refine wpAnyH_ready (rs := [1]) (by kernel_rfl) (by simp) ?_
      refine AllReadyH.cons rfl (fun K hK => ?_) AllReadyH.nil
      simp only [List.getElem_toArray, List.getElem_cons_zero, List.getElem_cons_succ]
      go_simp
      refine (CMay.out _ hHeld.2).mono ?_
      rintro e x1 ⟨rfl, hb1⟩
      dsimp only
      refine hK.out _ _ ?_ (fun hHeld => ?_)
      · exact HSS.out _ (bthen hHeld.2 hb1)
      clear hK K
      try simp only [Act.put, List.setIfInBounds_toArray, List.set_cons_zero, List.set_cons_succ]
      refine wpAnyH_take (i := 3) (v := .bool false) rfl (by kernel_rfl) (by kernel_rfl) (by kernel_rfl) (fun _ _ _ h => h) (Or.inl ⟨by rfl, ?_⟩) (by assumption) ?_
      · (intro w hSw; simp only [List.getElem_toArray, List.getElem_cons_zero, List.getElem_cons_succ]; (go_simp; first | done | simp))
      simp only [List.getElem_toArray, List.getElem_cons_zero, List.getElem_cons_succ, Act.put, List.setIfInBounds_toArray, List.set_cons_zero, List.set_cons_succ]
      refine wpAnyH_take (i := 4) (v := ?_) rfl (by kernel_rfl) (by kernel_rfl) (by kernel_rfl) (fun _ _ _ h => h) (Or.inl ⟨by rfl, ?_⟩) (by assumption) ?_
      rotate_left
      · (intro w hSw; (try dsimp only at hSw); simp only [List.getElem_toArray, List.getElem_cons_zero, List.getElem_cons_succ]; go_simp; first | done | with_reducible rfl)
      simp only [List.getElem_toArray, List.getElem_cons_zero, List.getElem_cons_succ, Act.put, List.setIfInBounds_toArray, List.set_cons_zero, List.set_cons_succ]
      refine wpAnyH_take (i := 5) (v := _) rfl (by kernel_rfl) (by kernel_rfl) (by kernel_rfl) (fun _ _ _ h => h) (yieldsIf_load_mid (by rfl) 26 _ rfl (w.heap.size) (0) rfl (OC) _ (fun w hw => hw.1.1) (Try.underlying26) rfl (HIO.out)) (by assumption) ?_
      simp only [List.getElem_toArray, List.getElem_cons_zero, List.getElem_cons_succ, Act.put, List.setIfInBounds_toArray, List.set_cons_zero, List.set_cons_succ]
      refine wpAnyH_take (i := 6) (v := _) rfl (by kernel_rfl) (by kernel_rfl) (by kernel_rfl) (fun _ _ _ h => h) (yieldsIf_load_mid (by rfl) 26 _ rfl ((w.heap.size + 1)) (0) rfl (PC) _ (fun w hw => hw.1.2.1) (Try.underlying26) rfl (HIP.out)) (by assumption) ?_
      simp only [List.getElem_toArray, List.getElem_cons_zero, List.getElem_cons_succ, Act.put, List.setIfInBounds_toArray, List.set_cons_zero, List.set_cons_succ]
      refine wpAnyH_take (i := 8) (v := _) rfl (by kernel_rfl) (by kernel_rfl) (by kernel_rfl) (fun _ _ _ h => h) (yieldsIf_load_mid (by rfl) 26 _ rfl (w.heap.size) (0) rfl (OC) _ (fun w hw => hw.1.1) (Try.underlying26) rfl (HIO.out)) (by assumption) ?_
      simp only [List.getElem_toArray, List.getElem_cons_zero, List.getElem_cons_succ, Act.put, List.setIfInBounds_toArray, List.set_cons_zero, List.set_cons_succ]
      refine wpAnyH_take (i := 9) (v := _) rfl (by kernel_rfl) (by kernel_rfl) (by kernel_rfl) (fun _ _ _ h => h) (yieldsIf_load_mid (by rfl) 26 _ rfl ((w.heap.size + 1)) (0) rfl (PC) _ (fun w hw => hw.1.2.1) (Try.underlying26) rfl (HIP.out)) (by assumption) ?_
      simp only [List.getElem_toArray, List.getElem_cons_zero, List.getElem_cons_succ, Act.put, List.setIfInBounds_toArray, List.set_cons_zero, List.set_cons_succ]
      refine wpAnyH_ready (rs := [7]) (by kernel_rfl) (by simp) ?_
      refine AllReadyH.cons rfl (fun K hK => ?_) AllReadyH.nil
      simp only [List.getElem_toArray, List.getElem_cons_zero, List.getElem_cons_succ]
      go_simp
      refine (CS1.out _ hHeld.2).mono ?_
      rintro e x21 ⟨rfl, hb21⟩
      dsimp only
      refine hK.out _ _ ?_ (fun hHeld => ?_)
      · exact HSS.out _ (bthen hHeld.2 hb21)
      clear hK K
      try simp only [Act.put, List.setIfInBounds_toArray, List.set_cons_zero, List.set_cons_succ]
      refine wpAnyH_ready (rs := [10]) (by kernel_rfl) (by simp) ?_
      refine AllReadyH.cons rfl (fun K hK => ?_) AllReadyH.nil
      simp only [List.getElem_toArray, List.getElem_cons_zero, List.getElem_cons_succ]
      go_simp
      refine (CS2.out _ hHeld.2).mono ?_
      rintro e x22 ⟨rfl, hb22⟩
      dsimp only
      refine hK.out _ _ ?_ (fun hHeld => ?_)
      · exact HSS.out _ (bthen hHeld.2 hb22)
      clear hK K
      try simp only [Act.put, List.setIfInBounds_toArray, List.set_cons_zero, List.set_cons_succ]
      refine wpAnyH_take (i := 11) (v := .bool false) rfl (by kernel_rfl) (by kernel_rfl) (by kernel_rfl) (fun _ _ _ h => h) (Or.inl ⟨by rfl, ?_⟩) (by assumption) ?_
      · (intro w hSw; simp only [List.getElem_toArray, List.getElem_cons_zero, List.getElem_cons_succ]; (go_simp; first | done | simp))
      simp only [List.getElem_toArray, List.getElem_cons_zero, List.getElem_cons_succ, Act.put, List.setIfInBounds_toArray, List.set_cons_zero, List.set_cons_succ]
      refine wpAnyH_take (i := 12) (v := ?_) rfl (by kernel_rfl) (by kernel_rfl) (by kernel_rfl) (fun _ _ _ h => h) (Or.inl ⟨by rfl, ?_⟩) (by assumption) ?_
      rotate_left
      · (intro w hSw; (try dsimp only at hSw); simp only [List.getElem_toArray, List.getElem_cons_zero, List.getElem_cons_succ]; go_simp; first | done | with_reducible rfl)
      simp only [List.getElem_toArray, List.getElem_cons_zero, List.getElem_cons_succ, Act.put, List.setIfInBounds_toArray, List.set_cons_zero, List.set_cons_succ]
      refine wpAnyH_take (i := 13) (v := ?_) rfl (by kernel_rfl) (by kernel_rfl) (by kernel_rfl) (fun _ _ _ h => h) (Or.inl ⟨by rfl, ?_⟩) (by assumption) ?_
      rotate_left
      · (intro w hSw; (try dsimp only at hSw); simp only [List.getElem_toArray, List.getElem_cons_zero, List.getElem_cons_succ]; go_simp; first | done | with_reducible rfl)
      simp only [List.getElem_toArray, List.getElem_cons_zero, List.getElem_cons_succ, Act.put, List.setIfInBounds_toArray, List.set_cons_zero, List.set_cons_succ]
      refine wpAnyH_take (i := 14) (v := _) rfl (by kernel_rfl) (by kernel_rfl) (by kernel_rfl) (fun _ _ _ h => h) (yieldsIf_load_mid (by rfl) 26 _ rfl (w.heap.size) (0) rfl (OC) _ (fun w hw => hw.1.1) (Try.underlying26) rfl (HIO.out)) (by assumption) ?_
      simp only [List.getElem_toArray, List.getElem_cons_zero, List.getElem_cons_succ, Act.put, List.setIfInBounds_toArray, List.set_cons_zero, List.set_cons_succ]
      refine wpAnyH_take (i := 15) (v := _) rfl (by kernel_rfl) (by kernel_rfl) (by kernel_rfl) (fun _ _ _ h => h) (yieldsIf_load_mid (by rfl) 26 _ rfl (w.heap.size) (0) rfl (OC) _ (fun w hw => hw.1.1) (Try.underlying26) rfl (HIO.out)) (by assumption) ?_
      simp only [List.getElem_toArray, List.getElem_cons_zero, List.getElem_cons_succ, Act.put, List.setIfInBounds_toArray, List.set_cons_zero, List.set_cons_succ]
      refine wpAnyH_ready (rs := [16]) (by kernel_rfl) (by simp) ?_
      refine AllReadyH.cons rfl (fun K hK => ?_) AllReadyH.nil
      simp only [List.getElem_toArray, List.getElem_cons_zero, List.getElem_cons_succ]
      go_simp
      refine (CS3.out _ hHeld.2).mono ?_
      rintro e x23 ⟨rfl, hb23⟩
      dsimp only
      refine hK.out _ _ ?_ (fun hHeld => ?_)
      · exact HSS.out _ (bthen hHeld.2 hb23)
      clear hK K
      try simp only [Act.put, List.setIfInBounds_toArray, List.set_cons_zero, List.set_cons_succ]
      refine wpAnyH_take (i := 17) (v := ?_) rfl (by kernel_rfl) (by kernel_rfl) (by kernel_rfl) (fun _ _ _ h => h) (Or.inl ⟨by rfl, ?_⟩) (by assumption) ?_
      rotate_left
      · (intro w hSw; (try dsimp only at hSw); simp only [List.getElem_toArray, List.getElem_cons_zero, List.getElem_cons_succ]; go_simp; first | done | with_reducible rfl)
      simp only [List.getElem_toArray, List.getElem_cons_zero, List.getElem_cons_succ, Act.put, List.setIfInBounds_toArray, List.set_cons_zero, List.set_cons_succ]
      refine wpAnyH_take (i := 18) (v := ?_) rfl (by kernel_rfl) (by kernel_rfl) (by kernel_rfl) (fun _ _ _ h => h) (Or.inl ⟨by rfl, ?_⟩) (by assumption) ?_
      rotate_left
      · (intro w hSw; (try dsimp only at hSw); simp only [List.getElem_toArray, List.getElem_cons_zero, List.getElem_cons_succ]; go_simp; first | done | with_reducible rfl)
      simp only [List.getElem_toArray, List.getElem_cons_zero, List.getElem_cons_succ, Act.put, List.setIfInBounds_toArray, List.set_cons_zero, List.set_cons_succ]
      refine wpAnyH_take (i := 19) (v := ?_) rfl (by kernel_rfl) (by kernel_rfl) (by kernel_rfl) (fun _ _ _ h => h) (Or.inl ⟨by rfl, ?_⟩) (by assumption) ?_
      rotate_left
      · (intro w hSw; (try dsimp only at hSw); simp only [List.getElem_toArray, List.getElem_cons_zero, List.getElem_cons_succ]; go_simp; first | done | with_reducible rfl)
      simp only [List.getElem_toArray, List.getElem_cons_zero, List.getElem_cons_succ, Act.put, List.setIfInBounds_toArray, List.set_cons_zero, List.set_cons_succ]
      refine wpAnyH_take (i := 20) (v := _) rfl (by kernel_rfl) (by kernel_rfl) (by kernel_rfl) (fun _ _ _ h => h) (yieldsIf_load_mid (by rfl) 26 _ rfl (w8.heap.size) (0) rfl (XC) _ (fun w hw => hw.1.2.2.1) (Try.underlying26) rfl (HIX.out)) (by assumption) ?_
      simp only [List.getElem_toArray, List.getElem_cons_zero, List.getElem_cons_succ, Act.put, List.setIfInBounds_toArray, List.set_cons_zero, List.set_cons_succ]
      refine wpAnyH_take (i := 21) (v := _) rfl (by kernel_rfl) (by kernel_rfl) (by kernel_rfl) (fun _ _ _ h => h) (yieldsIf_load_mid (by rfl) 26 _ rfl (w.heap.size) (0) rfl (OC) _ (fun w hw => hw.1.1) (Try.underlying26) rfl (HIO.out)) (by assumption) ?_
      simp only [List.getElem_toArray, List.getElem_cons_zero, List.getElem_cons_succ, Act.put, List.setIfInBounds_toArray, List.set_cons_zero, List.set_cons_succ]
      refine wpAnyH_ready (rs := [22]) (by kernel_rfl) (by simp) ?_
      refine AllReadyH.cons rfl (fun K hK => ?_) AllReadyH.nil
      simp only [List.getElem_toArray, List.getElem_cons_zero, List.getElem_cons_succ]
      go_simp
      refine (CS4.out _ hHeld.2).mono ?_
      rintro e x24 ⟨rfl, hb24⟩
      dsimp only
      refine hK.out _ _ ?_ (fun hHeld => ?_)
      · exact HSS.out _ (bthen hHeld.2 hb24)
      clear hK K
      try simp only [Act.put, List.setIfInBounds_toArray, List.set_cons_zero, List.set_cons_succ]
      refine wpAnyH_take (i := 23) (v := ?_) rfl (by kernel_rfl) (by kernel_rfl) (by kernel_rfl) (fun _ _ _ h => h) (Or.inl ⟨by rfl, ?_⟩) (by assumption) ?_
      rotate_left
      · (intro w hSw; (try dsimp only at hSw); simp only [List.getElem_toArray, List.getElem_cons_zero, List.getElem_cons_succ]; go_simp; first | done | with_reducible rfl)
      simp only [List.getElem_toArray, List.getElem_cons_zero, List.getElem_cons_succ, Act.put, List.setIfInBounds_toArray, List.set_cons_zero, List.set_cons_succ]
      refine wpAnyH_take (i := 24) (v := ?_) rfl (by kernel_rfl) (by kernel_rfl) (by kernel_rfl) (fun _ _ _ h => h) (Or.inl ⟨by rfl, ?_⟩) (by assumption) ?_
      rotate_left
      · (intro w hSw; (try dsimp only at hSw); simp only [List.getElem_toArray, List.getElem_cons_zero, List.getElem_cons_succ]; go_simp; first | done | with_reducible rfl)
      simp only [List.getElem_toArray, List.getElem_cons_zero, List.getElem_cons_succ, Act.put, List.setIfInBounds_toArray, List.set_cons_zero, List.set_cons_succ]
      refine wpAnyH_take (i := 25) (v := ?_) rfl (by kernel_rfl) (by kernel_rfl) (by kernel_rfl) (fun _ _ _ h => h) (Or.inl ⟨by rfl, ?_⟩) (by assumption) ?_
      rotate_left
      · (intro w hSw; (try dsimp only at hSw); simp only [List.getElem_toArray, List.getElem_cons_zero, List.getElem_cons_succ]; go_simp; first | done | with_reducible rfl)
      simp only [List.getElem_toArray, List.getElem_cons_zero, List.getElem_cons_succ, Act.put, List.setIfInBounds_toArray, List.set_cons_zero, List.set_cons_succ]
      refine wpAnyH_take (i := 26) (v := _) rfl (by kernel_rfl) (by kernel_rfl) (by kernel_rfl) (fun _ _ _ h => h) (yieldsIf_load_mid (by rfl) 26 _ rfl (w.heap.size) (0) rfl (OC) _ (fun w hw => hw.1.1) (Try.underlying26) rfl (HIO.out)) (by assumption) ?_
      simp only [List.getElem_toArray, List.getElem_cons_zero, List.getElem_cons_succ, Act.put, List.setIfInBounds_toArray, List.set_cons_zero, List.set_cons_succ]
      by_cases h8 : o.k = 8
      · have g8 : (o.k != 8) = false := by simp [h8]
        have hcv : (o.k != 8 && o.k != 9) = false := by rw [g8]; rfl
        simp only [hcv] at CCh
        clear h8 hcv
        refine wpAnyH_take (i := 28) (v := ?_) rfl (by kernel_rfl) (by kernel_rfl) (by kernel_rfl) (fun _ _ _ h => h) (Or.inl ⟨by rfl, ?_⟩) (by assumption) ?_
        rotate_left
        · (intro w hSw; (try dsimp only at hSw); simp only [List.getElem_toArray, List.getElem_cons_zero, List.getElem_cons_succ]; go_simp; first | done | with_reducible rfl)
        simp only [List.getElem_toArray, List.getElem_cons_zero, List.getElem_cons_succ, Act.put, List.setIfInBounds_toArray, List.set_cons_zero, List.set_cons_succ]
        refine wpAnyH_take (i := 29) (v := ?_) rfl (by kernel_rfl) (by kernel_rfl) (by kernel_rfl) (fun _ _ _ h => h) (Or.inl ⟨by rfl, ?_⟩) (by assumption) ?_
        rotate_left
        · (intro w hSw; (try dsimp only at hSw); simp only [List.getElem_toArray, List.getElem_cons_zero, List.getElem_cons_succ]; go_simp; first | done | with_reducible rfl)
        simp only [List.getElem_toArray, List.getElem_cons_zero, List.getElem_cons_succ, Act.put, List.setIfInBounds_toArray, List.set_cons_zero, List.set_cons_succ]
        refine wpAnyH_take (i := 30) (v := .bool false) rfl (by kernel_rfl) (by kernel_rfl) (by kernel_rfl) (fun _ _ _ h => h) (Or.inl ⟨by rfl, ?_⟩) (by assumption) ?_
        · (intro w hSw; simp only [List.getElem_toArray, List.getElem_cons_zero, List.getElem_cons_succ]; (go_simp; first | done | (simp only [g8]; done) | simp [g8]))
        simp only [List.getElem_toArray, List.getElem_cons_zero, List.getElem_cons_succ, Act.put, List.setIfInBounds_toArray, List.set_cons_zero, List.set_cons_succ]
        refine wpAnyH_ready (rs := [27]) (by kernel_rfl) (by simp) ?_
        refine AllReadyH.cons rfl (fun K hK => ?_) AllReadyH.nil
        simp only [List.getElem_toArray, List.getElem_cons_zero, List.getElem_cons_succ]
        go_simp
        refine (CCh.out _).mono ?_
        rintro e x25 ⟨rfl, hb25⟩
        dsimp only
        refine hK.out _ _ ?_ (fun hHeld => ?_)
        · exact HSS.out _ (bthen hHeld.2 hb25)
        clear hK K
        try simp only [Act.put, List.setIfInBounds_toArray, List.set_cons_zero, List.set_cons_succ]
        refine wpAnyH_take (i := 31) (v := ?_) rfl (by kernel_rfl) (by kernel_rfl) (by kernel_rfl) (fun _ _ _ h => h) (Or.inl ⟨by rfl, ?_⟩) (by assumption) ?_
        rotate_left
        · (intro w hSw; (try dsimp only at hSw); simp only [List.getElem_toArray, List.getElem_cons_zero, List.getElem_cons_succ]; go_simp; first | done | with_reducible rfl)
        simp only [List.getElem_toArray, List.getElem_cons_zero, List.getElem_cons_succ, Act.put, List.setIfInBounds_toArray, List.set_cons_zero, List.set_cons_succ]
        refine wpAnyH_take (i := 32) (v := undef) rfl (by kernel_rfl) (by kernel_rfl) (by kernel_rfl) (fun _ _ _ h => h) (Or.inr ⟨by rfl, rfl⟩) (by assumption) ?_
        simp only [List.getElem_toArray, List.getElem_cons_zero, List.getElem_cons_succ, Act.put, List.setIfInBounds_toArray, List.set_cons_zero, List.set_cons_succ]
        refine wpAnyH_take (i := 33) (v := undef) rfl (by kernel_rfl) (by kernel_rfl) (by kernel_rfl) (fun _ _ _ h => h) (Or.inr ⟨by rfl, rfl⟩) (by assumption) ?_
        simp only [List.getElem_toArray, List.getElem_cons_zero, List.getElem_cons_succ, Act.put, List.setIfInBounds_toArray, List.set_cons_zero, List.set_cons_succ]
        refine wpAnyH_take (i := 34) (v := undef) rfl (by kernel_rfl) (by kernel_rfl) (by kernel_rfl) (fun _ _ _ h => h) (Or.inr ⟨by rfl, rfl⟩) (by assumption) ?_
        simp only [List.getElem_toArray, List.getElem_cons_zero, List.getElem_cons_succ, Act.put, List.setIfInBounds_toArray, List.set_cons_zero, List.set_cons_succ]
        refine wpAnyH_take (i := 35) (v := ?_) rfl (by kernel_rfl) (by kernel_rfl) (by kernel_rfl) (fun _ _ _ h => h) (Or.inl ⟨by rfl, ?_⟩) (by assumption) ?_
        rotate_left
        · (intro w hSw; (try dsimp only at hSw); simp only [List.getElem_toArray, List.getElem_cons_zero, List.getElem_cons_succ]; go_simp; first | done | with_reducible rfl)
        simp only [List.getElem_toArray, List.getElem_cons_zero, List.getElem_cons_succ, Act.put, List.setIfInBounds_toArray, List.set_cons_zero, List.set_cons_succ]
        refine wpAnyH_take (i := 36) (v := .bool false) rfl (by kernel_rfl) (by kernel_rfl) (by kernel_rfl) (fun _ _ _ h => h) (Or.inl ⟨by rfl, ?_⟩) (by assumption) ?_
        · (intro w hSw; simp only [List.getElem_toArray, List.getElem_cons_zero, List.getElem_cons_succ]; (go_simp; first | done | simp))
        simp only [List.getElem_toArray, List.getElem_cons_zero, List.getElem_cons_succ, Act.put, List.setIfInBounds_toArray, List.set_cons_zero, List.set_cons_succ]
        refine wpAnyH_take (i := 37) (v := ?_) rfl (by kernel_rfl) (by kernel_rfl) (by kernel_rfl) (fun _ _ _ h => h) (Or.inl ⟨by rfl, ?_⟩) (by assumption) ?_
        rotate_left
        · (intro w hSw; (try dsimp only at hSw); simp only [List.getElem_toArray, List.getElem_cons_zero, List.getElem_cons_succ]; go_simp; first | done | with_reducible rfl)
        simp only [List.getElem_toArray, List.getElem_cons_zero, List.getElem_cons_succ, Act.put, List.setIfInBounds_toArray, List.set_cons_zero, List.set_cons_succ]
        refine wpAnyH_done (by kernel_rfl) ?_ _
        have HBX := Lib.hid (bthen HBR.out hHeld.2)
        have HWX := Lib.hid hHeld.2
        cases mo with
        | false =>
          obtain ⟨hz1, hz2⟩ := HBT.out.2 rfl
          subst hz1
          subst hz2
          obtain ⟨aob, capb, rfl, _⟩ := HRB7.out
          go_wp2_with fail
          refine (num13_any 2 _).mono ?_
          rintro e y1 ⟨rfl, rfl⟩
          go_wp2_with fail
          refine (CK.out _).mono ?_
          rintro e y2 ⟨rfl, hy2⟩
          have HY := Lib.hid (bthen HBX.out hy2)
          clear hy2
          go_wp2_with fail
          go_ret
          exact ⟨rfl, HY.out⟩
        | true =>
          obtain ⟨hp1, hp2⟩ := HBT.out.1 rfl
          subst hp2
          have CRP : Hid (∀ X, Below wr.heap.size wr X → Calls Try.prog 27 #[.agg OC.toArray] X fun e w' => ∃ v', e = .returned v' ∧ w'.ownsRow X.heap.size 5 1 v' bs.length (bV bs) ∧ Below X.heap.size X w') := Lib.hid (fun X hX => by
            rw [← HOC.out]
            exact rpackO_any o oko so X (HDO.out.below (bthen HBR.out hX)) (by have := H9.out; omega) bs (packO_pack hp1))
          clear hp1
          go_wp2_with fail
          refine wp_region_held_drew (S := fun X => (X.rangeAt w.heap.size 0 OC ∧ X.rangeAt (w.heap.size + 1) 0 PC ∧ X.rangeAt w8.heap.size 0 XC ∧ X.cell? ⟨w.heap.size, 0, none⟩ = some (.int .i64 o.k)) ∧ Below wr.heap.size wr X) (by kernel_rfl) ?_ (fun hHeld => ?_)
          · exact HSS.out _ HWX.out.drew
          refine wpAnyH_take (i := 0) (v := ?_) rfl (by kernel_rfl) (by kernel_rfl) (by kernel_rfl) (fun _ _ _ h => h) (Or.inl ⟨by rfl, ?_⟩) (by assumption) ?_
          rotate_left
          · (intro w hSw; (try dsimp only at hSw); simp only [List.getElem_toArray, List.getElem_cons_zero, List.getElem_cons_succ]; go_simp; first | done | with_reducible rfl)
          simp only [List.getElem_toArray, List.getElem_cons_zero, List.getElem_cons_succ, Act.put, List.setIfInBounds_toArray, List.set_cons_zero, List.set_cons_succ]
          refine wpAnyH_take (i := 1) (v := .string (strB bs)) rfl (by kernel_rfl) (by kernel_rfl) (by kernel_rfl) (fun _ _ _ h => h) (Or.inl ⟨by rfl, ?_⟩) (by assumption) ?_
          · (intro w hSw; simp only [List.getElem_toArray, List.getElem_cons_zero, List.getElem_cons_succ]; (go_simp; exact run_text_ok w _ _ bs (HRBr.out.below hSw.2)))
          simp only [List.getElem_toArray, List.getElem_cons_zero, List.getElem_cons_succ, Act.put, List.setIfInBounds_toArray, List.set_cons_zero, List.set_cons_succ]
          refine wpAnyH_take (i := 2) (v := _) rfl (by kernel_rfl) (by kernel_rfl) (by kernel_rfl) (fun _ _ _ h => h) (yieldsIf_load_mid (by rfl) 26 _ rfl (w.heap.size) (0) rfl (OC) _ (fun w hw => hw.1.1) (Try.underlying26) rfl (HIO.out)) (by assumption) ?_
          simp only [List.getElem_toArray, List.getElem_cons_zero, List.getElem_cons_succ, Act.put, List.setIfInBounds_toArray, List.set_cons_zero, List.set_cons_succ]
          refine wpAnyH_ready (rs := [3]) (by kernel_rfl) (by simp) ?_
          refine AllReadyH.cons rfl (fun K hK => ?_) AllReadyH.nil
          simp only [List.getElem_toArray, List.getElem_cons_zero, List.getElem_cons_succ]
          go_simp
          refine (CRP.out _ hHeld.2).mono ?_
          rintro e x26 ⟨v26, rfl, ho26, hb26⟩
          dsimp only
          refine hK.out _ _ ?_ (fun hHeld => ?_)
          · exact HSS.out _ (bthen hHeld.2 hb26)
          clear hK K
          try simp only [Act.put, List.setIfInBounds_toArray, List.set_cons_zero, List.set_cons_succ]
          have htx26 := run_text x26 _ _ bs (Rd.of_own ho26)
          clear ho26 hb26
          refine wpAnyH_ready (rs := [4]) (by kernel_rfl) (by simp) ?_
          refine AllReadyH.cons rfl (fun K hK => ?_) AllReadyH.nil
          simp only [List.getElem_toArray, List.getElem_cons_zero, List.getElem_cons_succ]
          go_simp
          refine hK.out _ _ ?_ (fun hHeld => ?_)
          · exact hHeld
          clear hK K
          try simp only [Act.put, List.setIfInBounds_toArray, List.set_cons_zero, List.set_cons_succ]
          clear htx26
          refine wpAnyH_take (i := 5) (v := .bool true) rfl (by kernel_rfl) (by kernel_rfl) (by kernel_rfl) (fun _ _ _ h => h) (Or.inl ⟨by rfl, ?_⟩) (by assumption) ?_
          · (intro w hSw; simp only [List.getElem_toArray, List.getElem_cons_zero, List.getElem_cons_succ]; (go_simp; first | done | simp))
          simp only [List.getElem_toArray, List.getElem_cons_zero, List.getElem_cons_succ, Act.put, List.setIfInBounds_toArray, List.set_cons_zero, List.set_cons_succ]
          refine wpAnyH_take (i := 6) (v := ?_) rfl (by kernel_rfl) (by kernel_rfl) (by kernel_rfl) (fun _ _ _ h => h) (Or.inl ⟨by rfl, ?_⟩) (by assumption) ?_
          rotate_left
          · (intro w hSw; (try dsimp only at hSw); simp only [List.getElem_toArray, List.getElem_cons_zero, List.getElem_cons_succ]; go_simp; first | done | with_reducible rfl)
          simp only [List.getElem_toArray, List.getElem_cons_zero, List.getElem_cons_succ, Act.put, List.setIfInBounds_toArray, List.set_cons_zero, List.set_cons_succ]
          refine wpAnyH_take (i := 7) (v := ?_) rfl (by kernel_rfl) (by kernel_rfl) (by kernel_rfl) (fun _ _ _ h => h) (Or.inl ⟨by rfl, ?_⟩) (by assumption) ?_
          rotate_left
          · (intro w hSw; (try dsimp only at hSw); simp only [List.getElem_toArray, List.getElem_cons_zero, List.getElem_cons_succ]; go_simp; first | done | with_reducible rfl)
          simp only [List.getElem_toArray, List.getElem_cons_zero, List.getElem_cons_succ, Act.put, List.setIfInBounds_toArray, List.set_cons_zero, List.set_cons_succ]
          refine wpAnyH_ready (rs := [8]) (by kernel_rfl) (by simp) ?_
          refine AllReadyH.cons rfl (fun K hK => ?_) AllReadyH.nil
          simp only [List.getElem_toArray, List.getElem_cons_zero, List.getElem_cons_succ]
          go_simp
          refine (num13_any 0 _).mono ?_
          rintro e y1 ⟨rfl, rfl⟩
          dsimp only
          refine hK.out _ _ ?_ (fun hHeld => ?_)
          · exact hHeld
          clear hK K
          try simp only [Act.put, List.setIfInBounds_toArray, List.set_cons_zero, List.set_cons_succ]
          refine wpAnyH_take (i := 9) (v := ?_) rfl (by kernel_rfl) (by kernel_rfl) (by kernel_rfl) (fun _ _ _ h => h) (Or.inl ⟨by rfl, ?_⟩) (by assumption) ?_
          rotate_left
          · (intro w hSw; (try dsimp only at hSw); simp only [List.getElem_toArray, List.getElem_cons_zero, List.getElem_cons_succ]; go_simp; first | done | with_reducible rfl)
          simp only [List.getElem_toArray, List.getElem_cons_zero, List.getElem_cons_succ, Act.put, List.setIfInBounds_toArray, List.set_cons_zero, List.set_cons_succ]
          refine wpAnyH_take (i := 10) (v := ?_) rfl (by kernel_rfl) (by kernel_rfl) (by kernel_rfl) (fun _ _ _ h => h) (Or.inl ⟨by rfl, ?_⟩) (by assumption) ?_
          rotate_left
          · (intro w hSw; (try dsimp only at hSw); simp only [List.getElem_toArray, List.getElem_cons_zero, List.getElem_cons_succ]; go_simp; first | done | with_reducible rfl)
          simp only [List.getElem_toArray, List.getElem_cons_zero, List.getElem_cons_succ, Act.put, List.setIfInBounds_toArray, List.set_cons_zero, List.set_cons_succ]
          refine wpAnyH_take (i := 11) (v := ?_) rfl (by kernel_rfl) (by kernel_rfl) (by kernel_rfl) (fun _ _ _ h => h) (Or.inl ⟨by rfl, ?_⟩) (by assumption) ?_
          rotate_left
          · (intro w hSw; (try dsimp only at hSw); simp only [List.getElem_toArray, List.getElem_cons_zero, List.getElem_cons_succ]; go_simp; first | done | with_reducible rfl)
          simp only [List.getElem_toArray, List.getElem_cons_zero, List.getElem_cons_succ, Act.put, List.setIfInBounds_toArray, List.set_cons_zero, List.set_cons_succ]
          refine wpAnyH_ready (rs := [12]) (by kernel_rfl) (by simp) ?_
          refine AllReadyH.cons rfl (fun K hK => ?_) AllReadyH.nil
          simp only [List.getElem_toArray, List.getElem_cons_zero, List.getElem_cons_succ]
          go_simp
          refine (CK.out _).mono ?_
          rintro e y2 ⟨rfl, hy2⟩
          dsimp only
          refine hK.out _ _ ?_ (fun hHeld => ?_)
          · exact HSS.out _ (bthen hHeld.2 hy2)
          clear hK K
          try simp only [Act.put, List.setIfInBounds_toArray, List.set_cons_zero, List.set_cons_succ]
          refine wpAnyH_take (i := 13) (v := ?_) rfl (by kernel_rfl) (by kernel_rfl) (by kernel_rfl) (fun _ _ _ h => h) (Or.inl ⟨by rfl, ?_⟩) (by assumption) ?_
          rotate_left
          · (intro w hSw; (try dsimp only at hSw); simp only [List.getElem_toArray, List.getElem_cons_zero, List.getElem_cons_succ]; go_simp; first | done | with_reducible rfl)
          simp only [List.getElem_toArray, List.getElem_cons_zero, List.getElem_cons_succ, Act.put, List.setIfInBounds_toArray, List.set_cons_zero, List.set_cons_succ]
          refine wpAnyH_take (i := 14) (v := ?_) rfl (by kernel_rfl) (by kernel_rfl) (by kernel_rfl) (fun _ _ _ h => h) (Or.inl ⟨by rfl, ?_⟩) (by assumption) ?_
          rotate_left
          · (intro w hSw; (try dsimp only at hSw); simp only [List.getElem_toArray, List.getElem_cons_zero, List.getElem_cons_succ]; go_simp; first | done | with_reducible rfl)
          simp only [List.getElem_toArray, List.getElem_cons_zero, List.getElem_cons_succ, Act.put, List.setIfInBounds_toArray, List.set_cons_zero, List.set_cons_succ]
          refine wpAnyH_done (by kernel_rfl) ?_ _
          go_wp2_with fail
          go_ret
          exact ⟨rfl, bthen HBR.out hHeld.2⟩
      · have g8 : (o.k != 8) = true := by simp [h8]
        have hcv : (o.k != 8 && o.k != 9) = (o.k != 9) := by rw [g8]; rfl
        simp only [hcv] at CCh
        clear h8 hcv
        obtain ⟨q9, hq9⟩ : ∃ q, (o.k != 9) = q := ⟨_, rfl⟩
        refine wpAnyH_take (i := 28) (v := ?_) rfl (by kernel_rfl) (by kernel_rfl) (by kernel_rfl) (fun _ _ _ h => h) (Or.inl ⟨by rfl, ?_⟩) (by assumption) ?_
        rotate_left
        · (intro w hSw; (try dsimp only at hSw); simp only [List.getElem_toArray, List.getElem_cons_zero, List.getElem_cons_succ]; go_simp; first | done | with_reducible rfl)
        simp only [List.getElem_toArray, List.getElem_cons_zero, List.getElem_cons_succ, Act.put, List.setIfInBounds_toArray, List.set_cons_zero, List.set_cons_succ]
        simp only [hq9] at CCh
        refine wpAnyH_take (i := 29) (v := ?_) rfl (by kernel_rfl) (by kernel_rfl) (by kernel_rfl) (fun _ _ _ h => h) (Or.inl ⟨by rfl, ?_⟩) (by assumption) ?_
        rotate_left
        · (intro w hSw; (try dsimp only at hSw); simp only [List.getElem_toArray, List.getElem_cons_zero, List.getElem_cons_succ]; go_simp; first | done | with_reducible rfl)
        simp only [List.getElem_toArray, List.getElem_cons_zero, List.getElem_cons_succ, Act.put, List.setIfInBounds_toArray, List.set_cons_zero, List.set_cons_succ]
        refine wpAnyH_take (i := 30) (v := .bool true) rfl (by kernel_rfl) (by kernel_rfl) (by kernel_rfl) (fun _ _ _ h => h) (Or.inl ⟨by rfl, ?_⟩) (by assumption) ?_
        · (intro w hSw; simp only [List.getElem_toArray, List.getElem_cons_zero, List.getElem_cons_succ]; (go_simp; first | done | (simp only [g8]; done) | simp [g8]))
        simp only [List.getElem_toArray, List.getElem_cons_zero, List.getElem_cons_succ, Act.put, List.setIfInBounds_toArray, List.set_cons_zero, List.set_cons_succ]
        refine wpAnyH_ready (rs := [27]) (by kernel_rfl) (by simp) ?_
        refine AllReadyH.cons rfl (fun K hK => ?_) AllReadyH.nil
        simp only [List.getElem_toArray, List.getElem_cons_zero, List.getElem_cons_succ]
        go_simp
        refine (CCh.out _).mono ?_
        rintro e x25 ⟨rfl, hb25⟩
        dsimp only
        refine hK.out _ _ ?_ (fun hHeld => ?_)
        · exact HSS.out _ (bthen hHeld.2 hb25)
        clear hK K
        try simp only [Act.put, List.setIfInBounds_toArray, List.set_cons_zero, List.set_cons_succ]
        refine wpAnyH_take (i := 31) (v := ?_) rfl (by kernel_rfl) (by kernel_rfl) (by kernel_rfl) (fun _ _ _ h => h) (Or.inl ⟨by rfl, ?_⟩) (by assumption) ?_
        rotate_left
        · (intro w hSw; (try dsimp only at hSw); simp only [List.getElem_toArray, List.getElem_cons_zero, List.getElem_cons_succ]; go_simp; first | done | with_reducible rfl)
        simp only [List.getElem_toArray, List.getElem_cons_zero, List.getElem_cons_succ, Act.put, List.setIfInBounds_toArray, List.set_cons_zero, List.set_cons_succ]
        refine wpAnyH_take (i := 32) (v := ?_) rfl (by kernel_rfl) (by kernel_rfl) (by kernel_rfl) (fun _ _ _ h => h) (Or.inl ⟨by rfl, ?_⟩) (by assumption) ?_
        rotate_left
        · (intro w hSw; (try dsimp only at hSw); simp only [List.getElem_toArray, List.getElem_cons_zero, List.getElem_cons_succ]; go_simp; first | done | with_reducible rfl)
        simp only [List.getElem_toArray, List.getElem_cons_zero, List.getElem_cons_succ, Act.put, List.setIfInBounds_toArray, List.set_cons_zero, List.set_cons_succ]
        refine wpAnyH_take (i := 33) (v := ?_) rfl (by kernel_rfl) (by kernel_rfl) (by kernel_rfl) (fun _ _ _ h => h) (Or.inl ⟨by rfl, ?_⟩) (by assumption) ?_
        rotate_left
        · (intro w hSw; (try dsimp only at hSw); simp only [List.getElem_toArray, List.getElem_cons_zero, List.getElem_cons_succ]; go_simp; first | done | with_reducible rfl)
        simp only [List.getElem_toArray, List.getElem_cons_zero, List.getElem_cons_succ, Act.put, List.setIfInBounds_toArray, List.set_cons_zero, List.set_cons_succ]
        refine wpAnyH_take (i := 34) (v := .bool q9) rfl (by kernel_rfl) (by kernel_rfl) (by kernel_rfl) (fun _ _ _ h => h) (Or.inl ⟨by rfl, ?_⟩) (by assumption) ?_
        · (intro w hSw; simp only [List.getElem_toArray, List.getElem_cons_zero, List.getElem_cons_succ]; (go_simp; first | done | (simp only [hq9]; done) | simp [hq9]))
        simp only [List.getElem_toArray, List.getElem_cons_zero, List.getElem_cons_succ, Act.put, List.setIfInBounds_toArray, List.set_cons_zero, List.set_cons_succ]
        refine wpAnyH_take (i := 35) (v := ?_) rfl (by kernel_rfl) (by kernel_rfl) (by kernel_rfl) (fun _ _ _ h => h) (Or.inl ⟨by rfl, ?_⟩) (by assumption) ?_
        rotate_left
        · (intro w hSw; (try dsimp only at hSw); simp only [List.getElem_toArray, List.getElem_cons_zero, List.getElem_cons_succ]; go_simp; first | done | with_reducible rfl)
        simp only [List.getElem_toArray, List.getElem_cons_zero, List.getElem_cons_succ, Act.put, List.setIfInBounds_toArray, List.set_cons_zero, List.set_cons_succ]
        refine wpAnyH_take (i := 36) (v := .bool false) rfl (by kernel_rfl) (by kernel_rfl) (by kernel_rfl) (fun _ _ _ h => h) (Or.inl ⟨by rfl, ?_⟩) (by assumption) ?_
        · (intro w hSw; simp only [List.getElem_toArray, List.getElem_cons_zero, List.getElem_cons_succ]; (go_simp; first | done | simp))
        simp only [List.getElem_toArray, List.getElem_cons_zero, List.getElem_cons_succ, Act.put, List.setIfInBounds_toArray, List.set_cons_zero, List.set_cons_succ]
        refine wpAnyH_take (i := 37) (v := ?_) rfl (by kernel_rfl) (by kernel_rfl) (by kernel_rfl) (fun _ _ _ h => h) (Or.inl ⟨by rfl, ?_⟩) (by assumption) ?_
        rotate_left
        · (intro w hSw; (try dsimp only at hSw); simp only [List.getElem_toArray, List.getElem_cons_zero, List.getElem_cons_succ]; go_simp; first | done | with_reducible rfl)
        simp only [List.getElem_toArray, List.getElem_cons_zero, List.getElem_cons_succ, Act.put, List.setIfInBounds_toArray, List.set_cons_zero, List.set_cons_succ]
        refine wpAnyH_done (by kernel_rfl) ?_ _
        have HBX := Lib.hid (bthen HBR.out hHeld.2)
        have HWX := Lib.hid hHeld.2
        cases mo with
        | false =>
          obtain ⟨hz1, hz2⟩ := HBT.out.2 rfl
          subst hz1
          subst hz2
          obtain ⟨aob, capb, rfl, _⟩ := HRB7.out
          go_wp2_with fail
          refine (num13_any 2 _).mono ?_
          rintro e y1 ⟨rfl, rfl⟩
          go_wp2_with fail
          refine (CK.out _).mono ?_
          rintro e y2 ⟨rfl, hy2⟩
          have HY := Lib.hid (bthen HBX.out hy2)
          clear hy2
          go_wp2_with fail
          go_ret
          exact ⟨rfl, HY.out⟩
        | true =>
          obtain ⟨hp1, hp2⟩ := HBT.out.1 rfl
          subst hp2
          have CRP : Hid (∀ X, Below wr.heap.size wr X → Calls Try.prog 27 #[.agg OC.toArray] X fun e w' => ∃ v', e = .returned v' ∧ w'.ownsRow X.heap.size 5 1 v' bs.length (bV bs) ∧ Below X.heap.size X w') := Lib.hid (fun X hX => by
            rw [← HOC.out]
            exact rpackO_any o oko so X (HDO.out.below (bthen HBR.out hX)) (by have := H9.out; omega) bs (packO_pack hp1))
          clear hp1
          go_wp2_with fail
          refine wp_region_held_drew (S := fun X => (X.rangeAt w.heap.size 0 OC ∧ X.rangeAt (w.heap.size + 1) 0 PC ∧ X.rangeAt w8.heap.size 0 XC ∧ X.cell? ⟨w.heap.size, 0, none⟩ = some (.int .i64 o.k)) ∧ Below wr.heap.size wr X) (by kernel_rfl) ?_ (fun hHeld => ?_)
          · exact HSS.out _ HWX.out.drew
          refine wpAnyH_take (i := 0) (v := ?_) rfl (by kernel_rfl) (by kernel_rfl) (by kernel_rfl) (fun _ _ _ h => h) (Or.inl ⟨by rfl, ?_⟩) (by assumption) ?_
          rotate_left
          · (intro w hSw; (try dsimp only at hSw); simp only [List.getElem_toArray, List.getElem_cons_zero, List.getElem_cons_succ]; go_simp; first | done | with_reducible rfl)
          simp only [List.getElem_toArray, List.getElem_cons_zero, List.getElem_cons_succ, Act.put, List.setIfInBounds_toArray, List.set_cons_zero, List.set_cons_succ]
          refine wpAnyH_take (i := 1) (v := .string (strB bs)) rfl (by kernel_rfl) (by kernel_rfl) (by kernel_rfl) (fun _ _ _ h => h) (Or.inl ⟨by rfl, ?_⟩) (by assumption) ?_
          · (intro w hSw; simp only [List.getElem_toArray, List.getElem_cons_zero, List.getElem_cons_succ]; (go_simp; exact run_text_ok w _ _ bs (HRBr.out.below hSw.2)))
          simp only [List.getElem_toArray, List.getElem_cons_zero, List.getElem_cons_succ, Act.put, List.setIfInBounds_toArray, List.set_cons_zero, List.set_cons_succ]
          refine wpAnyH_take (i := 2) (v := _) rfl (by kernel_rfl) (by kernel_rfl) (by kernel_rfl) (fun _ _ _ h => h) (yieldsIf_load_mid (by rfl) 26 _ rfl (w.heap.size) (0) rfl (OC) _ (fun w hw => hw.1.1) (Try.underlying26) rfl (HIO.out)) (by assumption) ?_
          simp only [List.getElem_toArray, List.getElem_cons_zero, List.getElem_cons_succ, Act.put, List.setIfInBounds_toArray, List.set_cons_zero, List.set_cons_succ]
          refine wpAnyH_ready (rs := [3]) (by kernel_rfl) (by simp) ?_
          refine AllReadyH.cons rfl (fun K hK => ?_) AllReadyH.nil
          simp only [List.getElem_toArray, List.getElem_cons_zero, List.getElem_cons_succ]
          go_simp
          refine (CRP.out _ hHeld.2).mono ?_
          rintro e x26 ⟨v26, rfl, ho26, hb26⟩
          dsimp only
          refine hK.out _ _ ?_ (fun hHeld => ?_)
          · exact HSS.out _ (bthen hHeld.2 hb26)
          clear hK K
          try simp only [Act.put, List.setIfInBounds_toArray, List.set_cons_zero, List.set_cons_succ]
          have htx26 := run_text x26 _ _ bs (Rd.of_own ho26)
          clear ho26 hb26
          refine wpAnyH_ready (rs := [4]) (by kernel_rfl) (by simp) ?_
          refine AllReadyH.cons rfl (fun K hK => ?_) AllReadyH.nil
          simp only [List.getElem_toArray, List.getElem_cons_zero, List.getElem_cons_succ]
          go_simp
          refine hK.out _ _ ?_ (fun hHeld => ?_)
          · exact hHeld
          clear hK K
          try simp only [Act.put, List.setIfInBounds_toArray, List.set_cons_zero, List.set_cons_succ]
          clear htx26
          refine wpAnyH_take (i := 5) (v := .bool true) rfl (by kernel_rfl) (by kernel_rfl) (by kernel_rfl) (fun _ _ _ h => h) (Or.inl ⟨by rfl, ?_⟩) (by assumption) ?_
          · (intro w hSw; simp only [List.getElem_toArray, List.getElem_cons_zero, List.getElem_cons_succ]; (go_simp; first | done | simp))
          simp only [List.getElem_toArray, List.getElem_cons_zero, List.getElem_cons_succ, Act.put, List.setIfInBounds_toArray, List.set_cons_zero, List.set_cons_succ]
          refine wpAnyH_take (i := 6) (v := ?_) rfl (by kernel_rfl) (by kernel_rfl) (by kernel_rfl) (fun _ _ _ h => h) (Or.inl ⟨by rfl, ?_⟩) (by assumption) ?_
          rotate_left
          · (intro w hSw; (try dsimp only at hSw); simp only [List.getElem_toArray, List.getElem_cons_zero, List.getElem_cons_succ]; go_simp; first | done | with_reducible rfl)
          simp only [List.getElem_toArray, List.getElem_cons_zero, List.getElem_cons_succ, Act.put, List.setIfInBounds_toArray, List.set_cons_zero, List.set_cons_succ]
          refine wpAnyH_take (i := 7) (v := ?_) rfl (by kernel_rfl) (by kernel_rfl) (by kernel_rfl) (fun _ _ _ h => h) (Or.inl ⟨by rfl, ?_⟩) (by assumption) ?_
          rotate_left
          · (intro w hSw; (try dsimp only at hSw); simp only [List.getElem_toArray, List.getElem_cons_zero, List.getElem_cons_succ]; go_simp; first | done | with_reducible rfl)
          simp only [List.getElem_toArray, List.getElem_cons_zero, List.getElem_cons_succ, Act.put, List.setIfInBounds_toArray, List.set_cons_zero, List.set_cons_succ]
          refine wpAnyH_ready (rs := [8]) (by kernel_rfl) (by simp) ?_
          refine AllReadyH.cons rfl (fun K hK => ?_) AllReadyH.nil
          simp only [List.getElem_toArray, List.getElem_cons_zero, List.getElem_cons_succ]
          go_simp
          refine (num13_any 0 _).mono ?_
          rintro e y1 ⟨rfl, rfl⟩
          dsimp only
          refine hK.out _ _ ?_ (fun hHeld => ?_)
          · exact hHeld
          clear hK K
          try simp only [Act.put, List.setIfInBounds_toArray, List.set_cons_zero, List.set_cons_succ]
          refine wpAnyH_take (i := 9) (v := ?_) rfl (by kernel_rfl) (by kernel_rfl) (by kernel_rfl) (fun _ _ _ h => h) (Or.inl ⟨by rfl, ?_⟩) (by assumption) ?_
          rotate_left
          · (intro w hSw; (try dsimp only at hSw); simp only [List.getElem_toArray, List.getElem_cons_zero, List.getElem_cons_succ]; go_simp; first | done | with_reducible rfl)
          simp only [List.getElem_toArray, List.getElem_cons_zero, List.getElem_cons_succ, Act.put, List.setIfInBounds_toArray, List.set_cons_zero, List.set_cons_succ]
          refine wpAnyH_take (i := 10) (v := ?_) rfl (by kernel_rfl) (by kernel_rfl) (by kernel_rfl) (fun _ _ _ h => h) (Or.inl ⟨by rfl, ?_⟩) (by assumption) ?_
          rotate_left
          · (intro w hSw; (try dsimp only at hSw); simp only [List.getElem_toArray, List.getElem_cons_zero, List.getElem_cons_succ]; go_simp; first | done | with_reducible rfl)
          simp only [List.getElem_toArray, List.getElem_cons_zero, List.getElem_cons_succ, Act.put, List.setIfInBounds_toArray, List.set_cons_zero, List.set_cons_succ]
          refine wpAnyH_take (i := 11) (v := ?_) rfl (by kernel_rfl) (by kernel_rfl) (by kernel_rfl) (fun _ _ _ h => h) (Or.inl ⟨by rfl, ?_⟩) (by assumption) ?_
          rotate_left
          · (intro w hSw; (try dsimp only at hSw); simp only [List.getElem_toArray, List.getElem_cons_zero, List.getElem_cons_succ]; go_simp; first | done | with_reducible rfl)
          simp only [List.getElem_toArray, List.getElem_cons_zero, List.getElem_cons_succ, Act.put, List.setIfInBounds_toArray, List.set_cons_zero, List.set_cons_succ]
          refine wpAnyH_ready (rs := [12]) (by kernel_rfl) (by simp) ?_
          refine AllReadyH.cons rfl (fun K hK => ?_) AllReadyH.nil
          simp only [List.getElem_toArray, List.getElem_cons_zero, List.getElem_cons_succ]
          go_simp
          refine (CK.out _).mono ?_
          rintro e y2 ⟨rfl, hy2⟩
          dsimp only
          refine hK.out _ _ ?_ (fun hHeld => ?_)
          · exact HSS.out _ (bthen hHeld.2 hy2)
          clear hK K
          try simp only [Act.put, List.setIfInBounds_toArray, List.set_cons_zero, List.set_cons_succ]
          refine wpAnyH_take (i := 13) (v := ?_) rfl (by kernel_rfl) (by kernel_rfl) (by kernel_rfl) (fun _ _ _ h => h) (Or.inl ⟨by rfl, ?_⟩) (by assumption) ?_
          rotate_left
          · (intro w hSw; (try dsimp only at hSw); simp only [List.getElem_toArray, List.getElem_cons_zero, List.getElem_cons_succ]; go_simp; first | done | with_reducible rfl)
          simp only [List.getElem_toArray, List.getElem_cons_zero, List.getElem_cons_succ, Act.put, List.setIfInBounds_toArray, List.set_cons_zero, List.set_cons_succ]
          refine wpAnyH_take (i := 14) (v := ?_) rfl (by kernel_rfl) (by kernel_rfl) (by kernel_rfl) (fun _ _ _ h => h) (Or.inl ⟨by rfl, ?_⟩) (by assumption) ?_
          rotate_left
          · (intro w hSw; (try dsimp only at hSw); simp only [List.getElem_toArray, List.getElem_cons_zero, List.getElem_cons_succ]; go_simp; first | done | with_reducible rfl)
          simp only [List.getElem_toArray, List.getElem_cons_zero, List.getElem_cons_succ, Act.put, List.setIfInBounds_toArray, List.set_cons_zero, List.set_cons_succ]
          refine wpAnyH_done (by kernel_rfl) ?_ _
          go_wp2_with fail
          go_ret
          exact ⟨rfl, bthen HBR.out hHeld.2⟩
end Go.Proofs.Ytgkelbdgdhkeoaa
