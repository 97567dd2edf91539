/- CommandMeans, walked. -/
import Derived.Deep.DeepCutAuto
import Derived.Test.YtgkelbdgdhkeoaaReadsL
import Derived.Test.YtgkelbdgdhkeoaaCmdOpsL
namespace Go.Proofs.Ytgkelbdgdhkeoaa
open Go.RowKit
set_option linter.unusedVariables false
set_option linter.unusedSimpArgs false
open Wire Cmd

theorem ofO_parts {b : List UInt8} {d : Op0} (h : ofO b = some d) : d.Ok ∧ d.data.length ≤ b.length := by
  cases b with
  | nil => cases h
  | cons k r =>
    rw [ofO] at h
    cases hu : unpack (shS (nm (k.toNat : Int))) r with
    | none => rw [hu] at h; cases h
    | some p =>
      obtain ⟨l, n⟩ := p
      rw [hu, Option.bind_some] at h
      split at h
      · split at h
        · obtain rfl := Option.some.inj h
          have h2 := (unpack_blen _ _ _ _ hu).1
          refine ⟨getAll_ok (unpackT _ _ _ _ hu) (nm_six _) (kind0_ok k), getAll_dlen (Nat.zero_le _) fun v hv => ?_⟩
          have := h2 v hv
          rw [List.length_cons]; omega
        · cases h
      · cases h
theorem mayA_ok {a : Ans0} (h : mayA a = true) : a.Ok := by
  obtain ⟨h1, h2, h3, h4, _⟩ := mayA_iff.1 h
  exact ⟨⟨by omega, by omega⟩, by omega, by omega⟩
theorem packO_len {o : Op0} {bs : List UInt8} (h : packO o = some bs) (hl : o.data.length ≤ 100000) : bs.length ≤ 1000000 := by
  obtain ⟨_, r, rfl, hp⟩ := packO_parts h
  have h1 := pack_len _ _ _ 100000 (fun v hv => ⟨vals_x o _ v hv, Nat.le_trans (vals_blen o _ v hv) hl⟩) hp
  have h2 : (shS (nm o.k)).length ≤ 3 := by unfold shS; rw [List.length_map]; exact nm_len _
  have h3 : (shS (nm o.k)).length * (100000 + 260) ≤ 3 * 100260 := Nat.mul_le_mul_right _ h2
  rw [List.length_cons]; omega
theorem packA_len2 {a : Ans0} {bs : List UInt8} (h : packA a = some bs) (hl : a.data.length ≤ 100000) : bs.length ≤ 1000000 := by
  obtain ⟨_, hp⟩ := packA_parts h
  have h1 := pack_len _ _ _ 100000 (fun v hv => by
    simp only [List.mem_cons, List.not_mem_nil, or_false] at hv
    rcases hv with rfl | rfl | rfl
    · exact ⟨rep256, Nat.zero_le _⟩
    · exact ⟨rep256, Nat.zero_le _⟩
    · exact ⟨rep256, hl⟩) hp
  have h3 : ([49, 52, 42] : List UInt8).length * (100000 + 260) = 300780 := by decide
  omega
theorem strB_eq (x y : List UInt8) : ((strB x).toList == (strB y).toList) = (x == y) := by rw [strB_toList, strB_toList]
/-- Bytes of either, in one form: the bytes or none, the error's number. -/
theorem PackP.form {w w' : World} {o : Option (List UInt8)} {e : Ending} (h : PackP w o e w') : ∃ bs v em, e = .returned (.tuple #[v, .int .i64 em]) ∧ ((o = some bs ∧ em = 0) ∨ (o = none ∧ em = 2 ∧ bs = [])) ∧ Rd w' 1 v bs.length (bV bs) ∧ Below w.heap.size w w' := by
  obtain ⟨hb, hP⟩ := h
  cases o with
  | none => exact ⟨[], _, 2, hP, .inr ⟨rfl, rfl, rfl⟩, Rd.of_own (World.ownsRow_nil w' 0 5 1), hb⟩
  | some bs =>
    obtain ⟨v', rfl, ho⟩ := hP
    exact ⟨bs, v', 0, rfl, .inl ⟨rfl, rfl⟩, Rd.of_own ho, hb⟩

set_option maxRecDepth 100000 in
set_option maxHeartbeats 25600000 in
theorem commandMeans_walk (o p : Op0) (a : Ans0) (bs cs : List UInt8) (oko : o.Ok) (okp : p.Ok) (oka : a.Ok) (so sp sa v u : Value) (w : World) (hdo : Rd w 1 so o.data.length (bV o.data)) (hdp : Rd w 1 sp p.data.length (bV p.data)) (hda : Rd w 1 sa a.data.length (bV a.data)) (hv : Rd w 1 v bs.length (bV bs)) (hu : Rd w 1 u cs.length (bV cs)) :
    Calls Try.prog 8 #[.agg (oC o so), .agg (oC p sp), .agg (aC a sa), v, u] w fun e w' => e = .returned (.bool true) ∧ Below w.heap.size w w' := by
  have HDO := Lib.hid hdo
  have HDP := Lib.hid hdp
  have HDA := Lib.hid hda
  have HV := Lib.hid hv
  have HU := Lib.hid hu
  have CK := Lib.hid (fun W => known13_any W)
  have hlo : o.data.length ≤ 9223372036854775807 := by obtain ⟨_, _, _, _, h, _⟩ := hdo; unfold maxLen at h; exact h
  have hlp : p.data.length ≤ 9223372036854775807 := by obtain ⟨_, _, _, _, h, _⟩ := hdp; unfold maxLen at h; exact h
  have hla : a.data.length ≤ 9223372036854775807 := by obtain ⟨_, _, _, _, h, _⟩ := hda; unfold maxLen at h; exact h
  have hlv : bs.length ≤ 9223372036854775807 := by obtain ⟨_, _, _, _, h, _⟩ := hv; unfold maxLen at h; exact h
  have hlu : cs.length ≤ 9223372036854775807 := by obtain ⟨_, _, _, _, h, _⟩ := hu; unfold maxLen at h; exact h
  have CMo : Hid (∀ W : World, Calls Try.prog 17 #[.agg (oC o so)] W fun e w' => e = .returned (.bool (decide (9000 < (o.data.length : Int)))) ∧ Below W.heap.size W w') := Lib.hid (fun W => by
    obtain ⟨ao, cap, rfl, _⟩ := HDO.out
    exact much13_any o ao cap W hlo)
  have CMp : Hid (∀ W : World, Calls Try.prog 17 #[.agg (oC p sp)] W fun e w' => e = .returned (.bool (decide (9000 < (p.data.length : Int)))) ∧ Below W.heap.size W w') := Lib.hid (fun W => by
    obtain ⟨ao, cap, rfl, _⟩ := HDP.out
    exact much13_any p ao cap W hlp)
  have CBo : Hid (∀ W : World, o.data.length ≤ 9000 → Below w.heap.size w W → Calls Try.prog 19 #[.agg (oC o so)] W fun e w' => ∃ bs v em, e = .returned (.tuple #[v, .int .i64 em]) ∧ ((packO o = some bs ∧ em = 0) ∨ (packO o = none ∧ em = 2 ∧ bs = [])) ∧ Rd w' 1 v bs.length (bV bs) ∧ Below W.heap.size W w') := Lib.hid (fun W h9 hb => (bytes_any o oko so W (HDO.out.below hb) (by omega)).mono fun _ _ h => h.form)
  have CBp : Hid (∀ W : World, p.data.length ≤ 9000 → Below w.heap.size w W → Calls Try.prog 19 #[.agg (oC p sp)] W fun e w' => ∃ bs v em, e = .returned (.tuple #[v, .int .i64 em]) ∧ ((packO p = some bs ∧ em = 0) ∨ (packO p = none ∧ em = 2 ∧ bs = [])) ∧ Rd w' 1 v bs.length (bV bs) ∧ Below W.heap.size W w') := Lib.hid (fun W h9 hb => (bytes_any p okp sp W (HDP.out.below hb) (by omega)).mono fun _ _ h => h.form)
  have CBa : Hid (∀ W : World, Below w.heap.size w W → Calls Try.prog 29 #[.agg (aC a sa)] W fun e w' => ∃ bs v em, e = .returned (.tuple #[v, .int .i64 em]) ∧ ((packA a = some bs ∧ em = 0) ∨ (packA a = none ∧ em = 2 ∧ bs = [])) ∧ Rd w' 1 v bs.length (bV bs) ∧ Below W.heap.size W w') := Lib.hid (fun W hb => (bytesA_any a oka sa W (HDA.out.below hb)).mono fun _ _ h => h.form)
  have COF : Hid (∀ (bs : List UInt8) (v : Value) (W : World), Rd W 1 v bs.length (bV bs) → bs.length ≤ 1000000 → Calls Try.prog 43 #[v] W (OOfP W (ofO bs))) := Lib.hid (fun bs v W h hl => ofO_any bs v W h hl)
  have CAF : Hid (∀ (bs : List UInt8) (v : Value) (W : World), Rd W 1 v bs.length (bV bs) → bs.length ≤ 1000000 → Calls Try.prog 45 #[v] W (AOfP W (ofA bs))) := Lib.hid (fun bs v W h hl => ansOf_any bs v W h hl)
  have CSO : Hid (∀ (x y : Op0) (s1 s2 : Value) (W : World), Rd W 1 s1 x.data.length (bV x.data) → Rd W 1 s2 y.data.length (bV y.data) → Calls Try.prog 24 #[.agg (oC x s1), .agg (oC y s2)] W fun e w' => e = .returned (.bool (opEq x y)) ∧ Below W.heap.size W w') := Lib.hid (fun x y s1 s2 W h1 h2 => rsame_any x y s1 s2 W h1 h2)
  have CSA : Hid (∀ (x y : Ans0) (s1 s2 : Value) (W : World), Rd W 1 s1 x.data.length (bV x.data) → Rd W 1 s2 y.data.length (bV y.data) → Calls Try.prog 34 #[.agg (aC x s1), .agg (aC y s2)] W fun e w' => e = .returned (.bool (ansEq x y)) ∧ Below W.heap.size W w') := Lib.hid (fun x y s1 s2 W h1 h2 => rsameA_any x y s1 s2 W h1 h2)
  have CBY : Hid (∀ (d : Op0) (ok : d.Ok) (s : Value) (W : World), Rd W 1 s d.data.length (bV d.data) → d.data.length ≤ 1000000 → Calls Try.prog 19 #[.agg (oC d s)] W (PackP W (packO d))) := Lib.hid (fun d ok s W h hl => bytes_any d ok s W h hl)
  have CAY : Hid (∀ (d : Ans0) (ok : d.Ok) (s : Value) (W : World), Rd W 1 s d.data.length (bV d.data) → Calls Try.prog 29 #[.agg (aC d s)] W (PackP W (packA d))) := Lib.hid (fun d ok s W h => bytesA_any d ok s W h)
  obtain ⟨OC, hOC, hol, hon⟩ := oC_list o hdo
  obtain ⟨PC, hPC, hpl, hpn⟩ := oC_list p hdp
  obtain ⟨AC, hAC, hal, han, hak⟩ := aC_list a hda
  have HAK := Lib.hid hak
  have HPE : Hid (∀ (W : World) (b : Nat), W.rangeAt b 0 PC → W.cell? ⟨b, 0, none⟩ = some (.int .i64 p.k) ∧ W.cell? ⟨b, 1, none⟩ = some (.int .u64 (p.vol : Int)) ∧ W.cell? ⟨b, 2, none⟩ = some (.int .u64 (p.to : Int)) ∧ W.cell? ⟨b, 3, none⟩ = some (.int .i64 p.size) ∧ W.cell? ⟨b, 4, none⟩ = some (.int .i64 p.pl) ∧ W.cell? ⟨b, 5, none⟩ = some (.int .i64 p.count) ∧ W.cell? ⟨b, 6, none⟩ = some sp) := Lib.hid (by
    have e : ∀ (i : Nat) (z : Value), (oC p sp)[i]? = some z → PC[i]? = some z := fun i z h => by rw [hPC] at h; simpa using h
    intro W b h
    exact ⟨h 0 _ (e 0 _ rfl), h 1 _ (e 1 _ rfl), h 2 _ (e 2 _ rfl), h 3 _ (e 3 _ rfl), h 4 _ (e 4 _ rfl), h 5 _ (e 5 _ rfl), h 6 _ (e 6 _ rfl)⟩)
  have HOC := Lib.hid hOC
  have HPC := Lib.hid hPC
  have HAC := Lib.hid hAC
  have HIO : Hid ((Try.prog.info? 26).map (·.size) = some OC.length) := Lib.hid (by rw [hol]; exact infoOp)
  have HIP : Hid ((Try.prog.info? 26).map (·.size) = some PC.length) := Lib.hid (by rw [hpl]; exact infoOp)
  have HIA : Hid ((Try.prog.info? 47).map (·.size) = some AC.length) := Lib.hid (by rw [hal]; exact infoAn)
  rw [hOC] at CMo CBo
  rw [hPC] at CBp
  rw [hAC] at CBa
  unfold oC at CMp
  rw [hOC, hPC, hAC]
  obtain ⟨W0, hW0⟩ : ∃ W, ((w.alloc (.cells OC.toArray 26)).alloc (.cells PC.toArray 26)).alloc (.cells AC.toArray 47) = W := ⟨_, rfl⟩
  have HB0 : Hid (Below w.heap.size w W0) := Lib.hid (by rw [← hW0]; exact balloc (balloc (balloc (Below.refl _ _) _) _) _)
  have HSS : Hid (∀ X, Below W0.heap.size W0 X → (X.rangeAt w.heap.size 0 OC ∧ X.rangeAt (w.heap.size + 1) 0 PC ∧ X.rangeAt (w.heap.size + 1 + 1) 0 AC) ∧ Below W0.heap.size W0 X) := Lib.hid (fun X hX => by
    have e1 : W0.heap.size = w.heap.size + 1 + 1 + 1 := by rw [← hW0]; simp
    have e2 : W0.heap[w.heap.size]? = some (.cells OC.toArray 26 (0, 0)) := by rw [← hW0]; exact (Below.heap_alloc _ _ _ (by simp; omega)).trans ((Below.heap_alloc _ _ _ (by simp)).trans (heap_alloc_new w _))
    have e3 : W0.heap[w.heap.size + 1]? = some (.cells PC.toArray 26 (0, 0)) := by
      rw [← hW0]
      have h := heap_alloc_new (w.alloc (.cells OC.toArray 26)) (.cells PC.toArray 26)
      rw [World.size_alloc] at h
      exact (Below.heap_alloc _ _ _ (by simp)).trans h
    have e4 : W0.heap[w.heap.size + 1 + 1]? = some (.cells AC.toArray 47 (0, 0)) := by
      rw [← hW0]
      have h := heap_alloc_new ((w.alloc (.cells OC.toArray 26)).alloc (.cells PC.toArray 26)) (.cells AC.toArray 47)
      rw [World.size_alloc, World.size_alloc] at h
      exact h
    refine ⟨⟨fun j z hj => ?_, fun j z hj => ?_, fun j z hj => ?_⟩, hX⟩
    · rw [Nat.zero_add]; exact cellIs ((hX.block _ (by omega)).trans e2) (by simpa using hj)
    · rw [Nat.zero_add]; exact cellIs ((hX.block _ (by omega)).trans e3) (by simpa using hj)
    · rw [Nat.zero_add]; exact cellIs ((hX.block _ (by omega)).trans e4) (by simpa using hj))
  have HW0 := Lib.hid hW0
  obtain ⟨ao, cap, rfl, _⟩ := hv
  obtain ⟨bo, cbp, rfl, _⟩ := hu
  obtain ⟨aoa, capa, hsa, _⟩ := hda
  rw [hsa] at hak
  clear hsa
  clear hdo hdp hOC hPC hAC hol hpl hal hon hpn han hW0
  go_enter Try.func8, Try.ntmps8
  go_wp2_with fail
  rw [HW0.out]
  refine (CK.out _).mono ?_
  rintro e w1 ⟨rfl, hb1⟩
  have HS1 := Lib.hid (HSS.out _ hb1)
  clear hb1
  have CEND : Hid (∀ X, Below W0.heap.size W0 X → Below w.heap.size w X) := Lib.hid (fun X hX => bthen HB0.out hX)
  by_cases hbo : 9000 < (o.data.length : Int)
  · have HT : Hid (decide (9000 < (o.data.length : Int)) = true) := Lib.hid (decide_eq_true hbo)
    rw [HT.out] at CMo
    clear hbo
    go_wp2_with (refine wpList_load_mid rfl 26 _ rfl w.heap.size 0 rfl OC _ HS1.out.1.1 Try.underlying26 rfl HIO.out ?_)
    refine (CMo.out _).mono ?_
    rintro e w2 ⟨rfl, hb2⟩
    have HE := Lib.hid (CEND.out _ (bthen HS1.out.2 hb2))
    clear hb2
    go_wp2_with fail
    go_ret
    exact ⟨rfl, HE.out⟩
  have HT : Hid (decide (9000 < (o.data.length : Int)) = false) := Lib.hid (decide_eq_false hbo)
  rw [HT.out] at CMo
  have H9o : Hid (o.data.length ≤ 9000) := Lib.hid (by omega)
  clear hbo
  by_cases hbp : 9000 < (p.data.length : Int)
  · have HTp : Hid (decide (9000 < (p.data.length : Int)) = true) := Lib.hid (decide_eq_true hbp)
    rw [HTp.out] at CMp
    clear hbp
    go_wp2_with (refine wpList_load_mid rfl 26 _ rfl w.heap.size 0 rfl OC _ HS1.out.1.1 Try.underlying26 rfl HIO.out ?_)
    refine (CMo.out _).mono ?_
    rintro e w2 ⟨rfl, hb2⟩
    have HS2 := Lib.hid (HSS.out _ (bthen HS1.out.2 hb2))
    clear hb2
    obtain ⟨f0, f1, f2, f3, f4, f5, f6⟩ := HPE.out _ _ HS2.out.1.2.1
    go_wp2_with fail
    clear f0 f1 f2 f3 f4 f5 f6
    refine (CMp.out _).mono ?_
    rintro e w3 ⟨rfl, hb3⟩
    have HE := Lib.hid (CEND.out _ (bthen HS2.out.2 hb3))
    clear hb3
    go_wp2_with fail
    go_ret
    exact ⟨rfl, HE.out⟩
  have HTp : Hid (decide (9000 < (p.data.length : Int)) = false) := Lib.hid (decide_eq_false hbp)
  rw [HTp.out] at CMp
  have H9p : Hid (p.data.length ≤ 9000) := Lib.hid (by omega)
  clear hbp
  go_wp2_with (refine wpList_load_mid rfl 26 _ rfl w.heap.size 0 rfl OC _ HS1.out.1.1 Try.underlying26 rfl HIO.out ?_)
  refine (CMo.out _).mono ?_
  rintro e w2 ⟨rfl, hb2⟩
  have HS2 := Lib.hid (HSS.out _ (bthen HS1.out.2 hb2))
  clear hb2
  obtain ⟨f0, f1, f2, f3, f4, f5, f6⟩ := HPE.out _ _ HS2.out.1.2.1
  go_wp2_with fail
  clear f0 f1 f2 f3 f4 f5 f6
  refine (CMp.out _).mono ?_
  rintro e w3 ⟨rfl, hb3⟩
  have HS3 := Lib.hid (HSS.out _ (bthen HS2.out.2 hb3))
  have HE3 := Lib.hid (CEND.out _ (bthen HS2.out.2 hb3))
  clear hb3
  have f2 : w3.cell? ⟨w.heap.size + 1 + 1, 2, none⟩ = some (.slice aoa a.data.length capa) := HS3.out.1.2.2 2 _ hak.2.2
  clear hak
  by_cases h3 : 70000 < (a.data.length : Int)
  · go_wp2_with fail
    go_ret
    exact ⟨rfl, HE3.out⟩
  by_cases h4 : 9000 < (bs.length : Int)
  · go_wp2_with fail
    go_ret
    exact ⟨rfl, HE3.out⟩
  by_cases h5 : 9000 < (cs.length : Int)
  · go_wp2_with fail
    go_ret
    exact ⟨rfl, HE3.out⟩
  have H9 : Hid (a.data.length ≤ 70000 ∧ bs.length ≤ 9000 ∧ cs.length ≤ 9000) := Lib.hid (by omega)
  have j3 : (a.data.length : Int) ≤ 70000 := by omega
  have j4 : (bs.length : Int) ≤ 9000 := by omega
  have j5 : (cs.length : Int) ≤ 9000 := by omega
  clear h3 h4 h5
  go_wp2_with (refine wpList_load_mid rfl 26 _ rfl w.heap.size 0 rfl OC _ HS3.out.1.1 Try.underlying26 rfl HIO.out ?_)
  clear j3 j4 j5 f2
  refine (CBo.out _ H9o.out HE3.out).mono ?_
  rintro e w4 ⟨x, xv, xe, rfl, hx, hxr, hb4⟩
  have HS4 := Lib.hid (HSS.out _ (bthen HS3.out.2 hb4))
  have HX := Lib.hid hx
  have HXR := Lib.hid hxr
  clear hb4 hx hxr
  go_wp2_with (refine wpList_load_mid rfl 26 _ rfl (w.heap.size + 1) 0 rfl PC _ HS4.out.1.2.1 Try.underlying26 rfl HIP.out ?_)
  refine (CBp.out _ H9p.out (CEND.out _ HS4.out.2)).mono ?_
  rintro e w5 ⟨y, yv, ye, rfl, hy, hyr, hb5⟩
  have HS5 := Lib.hid (HSS.out _ (bthen HS4.out.2 hb5))
  have HY := Lib.hid hy
  have HYR := Lib.hid hyr
  have HXR5 := Lib.hid (HXR.out.below hb5)
  clear hb5 hy hyr
  obtain ⟨axo, axc, rfl, _⟩ := HXR.out
  obtain ⟨ayo, ayc, rfl, _⟩ := HYR.out
  go_wp2_with fail
  refine (num13_any _ _).mono ?_
  rintro e z1 ⟨rfl, rfl⟩
  go_upto_if 65 with (fail)
  go_cut [] (fun wx => Below W0.heap.size W0 wx)
  case first =>
    rcases HX.out with ⟨hx, rfl⟩ | ⟨hx, rfl, rfl⟩
    · have HPO := Lib.hid hx
      have CF : Hid (Calls Try.prog 43 #[.slice axo x.length axc] w5 fun e w' => ∃ sl, e = .returned (.tuple #[.agg (oC o sl), .int .i64 0]) ∧ Rd w' 1 sl o.data.length (bV o.data) ∧ Below w5.heap.size w5 w') := Lib.hid ((COF.out x _ w5 HXR5.out (packO_len hx (by have := H9o.out; omega))).mono fun e w' h => by
        rw [ofO_packO hx] at h
        obtain ⟨hb, sl, he, hr⟩ := h
        exact ⟨sl, he, hr, hb⟩)
      clear hx
      go_wp2_with fail
      refine CF.out.mono ?_
      rintro e w6 ⟨s6, rfl, hr6, hb6⟩
      obtain ⟨D, hD, hdl, hdn⟩ := oC_list o hr6
      rw [hD]
      have hst := run_storeNew (P := Try.prog) w6 26 #[.int .i64 0, .int .u64 0, .int .u64 0, .int .i64 0, .int .i64 0, .int .i64 0, .slice none 0 0] D.toArray (by simp [hdl]) (by simpa using hdn)
      have HD := Lib.hid hD
      have HID : Hid ((Try.prog.info? 26).map (·.size) = some D.length) := Lib.hid (by rw [hdl]; exact infoOp)
      have HS6 := Lib.hid (HSS.out _ (bthen HS5.out.2 hb6))
      have HR6 := Lib.hid hr6
      have HXR6 := Lib.hid (HXR5.out.below hb6)
      have HYR6 := Lib.hid (HYR.out.below hb6)
      clear hb6 hr6 hD hdn
      go_upto_region 9 with fail
      clear hst hdl
      obtain ⟨wq, hwq⟩ : ∃ W, w6.alloc (.cells D.toArray 26) = W := ⟨_, rfl⟩
      have HBQ : Hid (Below w6.heap.size w6 wq) := Lib.hid (by rw [← hwq]; exact balloc (Below.refl _ _) _)
      have HDQ : Hid (wq.rangeAt w6.heap.size 0 D ∧ w6.heap.size < wq.heap.size) := Lib.hid (by rw [← hwq]; exact ⟨range_new w6 _ D, by simp⟩)
      have HSQ := Lib.hid (HSS.out _ (bthen HS6.out.2 HBQ.out))
      rw [hwq]
      clear hwq
      have HST : Hid (∀ X, Below wq.heap.size wq X → (X.rangeAt w6.heap.size 0 D ∧ X.rangeAt w.heap.size 0 OC ∧ X.rangeAt (w.heap.size + 1) 0 PC) ∧ Below wq.heap.size wq X) := Lib.hid (fun X hX => ⟨⟨rangeAt_below HDQ.out.1 HDQ.out.2 hX, (HSS.out _ (bthen HSQ.out.2 hX)).1.1, (HSS.out _ (bthen HSQ.out.2 hX)).1.2.1⟩, hX⟩)
      have CS1 : Hid (∀ X, Below wq.heap.size wq X → Calls Try.prog 24 #[.agg D.toArray, .agg OC.toArray] X fun e w' => e = .returned (.bool true) ∧ Below X.heap.size X w') := Lib.hid (fun X hX => by
        rw [← HD.out, ← HOC.out, ← opEq_yes (rfl : o = o)]
        exact CSO.out o o s6 so X ((HR6.out.below HBQ.out).below hX) (HDO.out.below (CEND.out _ (bthen HSQ.out.2 hX))))
      have CS2 : Hid (∀ X, Below wq.heap.size wq X → Calls Try.prog 24 #[.agg OC.toArray, .agg PC.toArray] X fun e w' => e = .returned (.bool (opEq o p)) ∧ Below X.heap.size X w') := Lib.hid (fun X hX => by
        rw [← HOC.out, ← HPC.out]
        exact CSO.out o p so sp X (HDO.out.below (CEND.out _ (bthen HSQ.out.2 hX))) (HDP.out.below (CEND.out _ (bthen HSQ.out.2 hX))))
      have HXQ := Lib.hid (HXR6.out.below HBQ.out)
      have HYQ := Lib.hid (HYR6.out.below HBQ.out)
      rcases HY.out with ⟨hy, rfl⟩ | ⟨hy, rfl, rfl⟩
      · have HEQ : Hid (((strB x).toList == (strB y).toList) = opEq o p) := Lib.hid (by rw [strB_eq]; exact packO_inj HPO.out hy)
        clear hy
        generalize opEq o p = q at *
        have HXT : Hid (∀ X, Below wq.heap.size wq X → ((convert 24 9 (.slice axo x.length axc)).run Try.prog X).andThen (fun a w' => Result.ok (Next.value a) w') = .ok (.value (.string (strB x))) X) := Lib.hid (fun X hX => run_text_ok X _ _ x (HXQ.out.below hX))
        have HYT : Hid (∀ X, Below wq.heap.size wq X → ((convert 24 9 (.slice ayo y.length ayc)).run Try.prog X).andThen (fun a w' => Result.ok (Next.value a) w') = .ok (.value (.string (strB y))) X) := Lib.hid (fun X hX => run_text_ok X _ _ y (HYQ.out.below hX))
        generalize strB x = SX at *
        generalize strB y = SY at *
        refine wp_region_held_drew (S := fun X => (X.rangeAt w6.heap.size 0 D ∧ X.rangeAt w.heap.size 0 OC ∧ X.rangeAt (w.heap.size + 1) 0 PC) ∧ Below wq.heap.size wq X) (by kernel_rfl) ?_ (fun hHeld => ?_)
        · exact HST.out _ (Below.refl _ wq).drew
        refine wpAnyH_take (i := 0) (v := ?_) rfl (by kernel_rfl) (by kernel_rfl) (by kernel_rfl) (fun _ _ _ h => h) (Or.inl ⟨by rfl, ?_⟩) (by assumption) ?_
        rotate_left
        · (intro w hSw; (try dsimp only at hSw); simp only [List.getElem_toArray, List.getElem_cons_zero, List.getElem_cons_succ]; go_simp; first | done | with_reducible rfl)
        simp only [List.getElem_toArray, List.getElem_cons_zero, List.getElem_cons_succ, Act.put, List.setIfInBounds_toArray, List.set_cons_zero, List.set_cons_succ]
        refine wpAnyH_ready (rs := [1]) (by kernel_rfl) (by simp) ?_
        refine AllReadyH.cons rfl (fun K hK => ?_) AllReadyH.nil
        simp only [List.getElem_toArray, List.getElem_cons_zero, List.getElem_cons_succ]
        go_simp
        refine (num13_any _ _).mono ?_
        rintro e z2 ⟨rfl, rfl⟩
        dsimp only
        refine hK.out _ _ ?_ (fun hHeld => ?_)
        · exact hHeld
        clear hK K
        try simp only [Act.put, List.setIfInBounds_toArray, List.set_cons_zero, List.set_cons_succ]
        refine wpAnyH_take (i := 2) (v := ?_) rfl (by kernel_rfl) (by kernel_rfl) (by kernel_rfl) (fun _ _ _ h => h) (Or.inl ⟨by rfl, ?_⟩) (by assumption) ?_
        rotate_left
        · (intro w hSw; (try dsimp only at hSw); simp only [List.getElem_toArray, List.getElem_cons_zero, List.getElem_cons_succ]; go_simp; first | done | with_reducible rfl)
        simp only [List.getElem_toArray, List.getElem_cons_zero, List.getElem_cons_succ, Act.put, List.setIfInBounds_toArray, List.set_cons_zero, List.set_cons_succ]
        refine wpAnyH_take (i := 3) (v := ?_) rfl (by kernel_rfl) (by kernel_rfl) (by kernel_rfl) (fun _ _ _ h => h) (Or.inl ⟨by rfl, ?_⟩) (by assumption) ?_
        rotate_left
        · (intro w hSw; (try dsimp only at hSw); simp only [List.getElem_toArray, List.getElem_cons_zero, List.getElem_cons_succ]; go_simp; first | done | with_reducible rfl)
        simp only [List.getElem_toArray, List.getElem_cons_zero, List.getElem_cons_succ, Act.put, List.setIfInBounds_toArray, List.set_cons_zero, List.set_cons_succ]
        refine wpAnyH_take (i := 4) (v := _) rfl (by kernel_rfl) (by kernel_rfl) (by kernel_rfl) (fun _ _ _ h => h) (yieldsIf_load_mid (by rfl) 26 _ rfl (w6.heap.size) (0) rfl (D) _ (fun w hw => hw.1.1) (Try.underlying26) rfl (HID.out)) (by assumption) ?_
        simp only [List.getElem_toArray, List.getElem_cons_zero, List.getElem_cons_succ, Act.put, List.setIfInBounds_toArray, List.set_cons_zero, List.set_cons_succ]
        refine wpAnyH_take (i := 5) (v := _) rfl (by kernel_rfl) (by kernel_rfl) (by kernel_rfl) (fun _ _ _ h => h) (yieldsIf_load_mid (by rfl) 26 _ rfl (w.heap.size) (0) rfl (OC) _ (fun w hw => hw.1.2.1) (Try.underlying26) rfl (HIO.out)) (by assumption) ?_
        simp only [List.getElem_toArray, List.getElem_cons_zero, List.getElem_cons_succ, Act.put, List.setIfInBounds_toArray, List.set_cons_zero, List.set_cons_succ]
        refine wpAnyH_ready (rs := [6]) (by kernel_rfl) (by simp) ?_
        refine AllReadyH.cons rfl (fun K hK => ?_) AllReadyH.nil
        simp only [List.getElem_toArray, List.getElem_cons_zero, List.getElem_cons_succ]
        go_simp
        refine (CS1.out _ hHeld.2).mono ?_
        rintro e x1 ⟨rfl, hb1⟩
        dsimp only
        refine hK.out _ _ ?_ (fun hHeld => ?_)
        · exact HST.out _ (bthen hHeld.2 hb1)
        clear hK K
        try simp only [Act.put, List.setIfInBounds_toArray, List.set_cons_zero, List.set_cons_succ]
        refine wpAnyH_take (i := 7) (v := ?_) rfl (by kernel_rfl) (by kernel_rfl) (by kernel_rfl) (fun _ _ _ h => h) (Or.inl ⟨by rfl, ?_⟩) (by assumption) ?_
        rotate_left
        · (intro w hSw; (try dsimp only at hSw); simp only [List.getElem_toArray, List.getElem_cons_zero, List.getElem_cons_succ]; go_simp; first | done | with_reducible rfl)
        simp only [List.getElem_toArray, List.getElem_cons_zero, List.getElem_cons_succ, Act.put, List.setIfInBounds_toArray, List.set_cons_zero, List.set_cons_succ]
        refine wpAnyH_take (i := 8) (v := ?_) rfl (by kernel_rfl) (by kernel_rfl) (by kernel_rfl) (fun _ _ _ h => h) (Or.inl ⟨by rfl, ?_⟩) (by assumption) ?_
        rotate_left
        · (intro w hSw; (try dsimp only at hSw); simp only [List.getElem_toArray, List.getElem_cons_zero, List.getElem_cons_succ]; go_simp; first | done | with_reducible rfl)
        simp only [List.getElem_toArray, List.getElem_cons_zero, List.getElem_cons_succ, Act.put, List.setIfInBounds_toArray, List.set_cons_zero, List.set_cons_succ]
        refine wpAnyH_take (i := 9) (v := ?_) rfl (by kernel_rfl) (by kernel_rfl) (by kernel_rfl) (fun _ _ _ h => h) (Or.inl ⟨by rfl, ?_⟩) (by assumption) ?_
        rotate_left
        · (intro w hSw; (try dsimp only at hSw); simp only [List.getElem_toArray, List.getElem_cons_zero, List.getElem_cons_succ]; go_simp; first | done | with_reducible rfl)
        simp only [List.getElem_toArray, List.getElem_cons_zero, List.getElem_cons_succ, Act.put, List.setIfInBounds_toArray, List.set_cons_zero, List.set_cons_succ]
        refine wpAnyH_take (i := 10) (v := ?_) rfl (by kernel_rfl) (by kernel_rfl) (by kernel_rfl) (fun _ _ _ h => h) (Or.inl ⟨by rfl, ?_⟩) (by assumption) ?_
        rotate_left
        · (intro w hSw; (try dsimp only at hSw); simp only [List.getElem_toArray, List.getElem_cons_zero, List.getElem_cons_succ]; go_simp; first | done | with_reducible rfl)
        simp only [List.getElem_toArray, List.getElem_cons_zero, List.getElem_cons_succ, Act.put, List.setIfInBounds_toArray, List.set_cons_zero, List.set_cons_succ]
        refine wpAnyH_ready (rs := [11]) (by kernel_rfl) (by simp) ?_
        refine AllReadyH.cons rfl (fun K hK => ?_) AllReadyH.nil
        simp only [List.getElem_toArray, List.getElem_cons_zero, List.getElem_cons_succ]
        go_simp
        refine (num13_any _ _).mono ?_
        rintro e z3 ⟨rfl, rfl⟩
        dsimp only
        refine hK.out _ _ ?_ (fun hHeld => ?_)
        · exact hHeld
        clear hK K
        try simp only [Act.put, List.setIfInBounds_toArray, List.set_cons_zero, List.set_cons_succ]
        refine wpAnyH_take (i := 12) (v := ?_) rfl (by kernel_rfl) (by kernel_rfl) (by kernel_rfl) (fun _ _ _ h => h) (Or.inl ⟨by rfl, ?_⟩) (by assumption) ?_
        rotate_left
        · (intro w hSw; (try dsimp only at hSw); simp only [List.getElem_toArray, List.getElem_cons_zero, List.getElem_cons_succ]; go_simp; first | done | with_reducible rfl)
        simp only [List.getElem_toArray, List.getElem_cons_zero, List.getElem_cons_succ, Act.put, List.setIfInBounds_toArray, List.set_cons_zero, List.set_cons_succ]
        refine wpAnyH_take (i := 13) (v := ?_) rfl (by kernel_rfl) (by kernel_rfl) (by kernel_rfl) (fun _ _ _ h => h) (Or.inl ⟨by rfl, ?_⟩) (by assumption) ?_
        rotate_left
        · (intro w hSw; (try dsimp only at hSw); simp only [List.getElem_toArray, List.getElem_cons_zero, List.getElem_cons_succ]; go_simp; first | done | with_reducible rfl)
        simp only [List.getElem_toArray, List.getElem_cons_zero, List.getElem_cons_succ, Act.put, List.setIfInBounds_toArray, List.set_cons_zero, List.set_cons_succ]
        refine wpAnyH_take (i := 14) (v := ?_) rfl (by kernel_rfl) (by kernel_rfl) (by kernel_rfl) (fun _ _ _ h => h) (Or.inl ⟨by rfl, ?_⟩) (by assumption) ?_
        rotate_left
        · (intro w hSw; (try dsimp only at hSw); simp only [List.getElem_toArray, List.getElem_cons_zero, List.getElem_cons_succ]; go_simp; first | done | with_reducible rfl)
        simp only [List.getElem_toArray, List.getElem_cons_zero, List.getElem_cons_succ, Act.put, List.setIfInBounds_toArray, List.set_cons_zero, List.set_cons_succ]
        refine wpAnyH_take (i := 15) (v := .string SX) rfl (by kernel_rfl) (by kernel_rfl) (by kernel_rfl) (fun _ _ _ h => h) (Or.inl ⟨by rfl, ?_⟩) (by assumption) ?_
        · (intro w hSw; simp only [List.getElem_toArray, List.getElem_cons_zero, List.getElem_cons_succ]; (go_simp; exact HXT.out w hSw.2))
        simp only [List.getElem_toArray, List.getElem_cons_zero, List.getElem_cons_succ, Act.put, List.setIfInBounds_toArray, List.set_cons_zero, List.set_cons_succ]
        refine wpAnyH_take (i := 16) (v := ?_) rfl (by kernel_rfl) (by kernel_rfl) (by kernel_rfl) (fun _ _ _ h => h) (Or.inl ⟨by rfl, ?_⟩) (by assumption) ?_
        rotate_left
        · (intro w hSw; (try dsimp only at hSw); simp only [List.getElem_toArray, List.getElem_cons_zero, List.getElem_cons_succ]; go_simp; first | done | with_reducible rfl)
        simp only [List.getElem_toArray, List.getElem_cons_zero, List.getElem_cons_succ, Act.put, List.setIfInBounds_toArray, List.set_cons_zero, List.set_cons_succ]
        refine wpAnyH_take (i := 17) (v := .string SY) rfl (by kernel_rfl) (by kernel_rfl) (by kernel_rfl) (fun _ _ _ h => h) (Or.inl ⟨by rfl, ?_⟩) (by assumption) ?_
        · (intro w hSw; simp only [List.getElem_toArray, List.getElem_cons_zero, List.getElem_cons_succ]; (go_simp; exact HYT.out w hSw.2))
        simp only [List.getElem_toArray, List.getElem_cons_zero, List.getElem_cons_succ, Act.put, List.setIfInBounds_toArray, List.set_cons_zero, List.set_cons_succ]
        refine wpAnyH_take (i := 18) (v := .bool q) rfl (by kernel_rfl) (by kernel_rfl) (by kernel_rfl) (fun _ _ _ h => h) (Or.inl ⟨by rfl, ?_⟩) (by assumption) ?_
        · (intro w hSw; simp only [List.getElem_toArray, List.getElem_cons_zero, List.getElem_cons_succ]; (have hq := HEQ.out; go_simp; first | done | (rw [hq])))
        simp only [List.getElem_toArray, List.getElem_cons_zero, List.getElem_cons_succ, Act.put, List.setIfInBounds_toArray, List.set_cons_zero, List.set_cons_succ]
        refine wpAnyH_take (i := 19) (v := _) rfl (by kernel_rfl) (by kernel_rfl) (by kernel_rfl) (fun _ _ _ h => h) (yieldsIf_load_mid (by rfl) 26 _ rfl (w.heap.size) (0) rfl (OC) _ (fun w hw => hw.1.2.1) (Try.underlying26) rfl (HIO.out)) (by assumption) ?_
        simp only [List.getElem_toArray, List.getElem_cons_zero, List.getElem_cons_succ, Act.put, List.setIfInBounds_toArray, List.set_cons_zero, List.set_cons_succ]
        refine wpAnyH_take (i := 20) (v := _) rfl (by kernel_rfl) (by kernel_rfl) (by kernel_rfl) (fun _ _ _ h => h) (yieldsIf_load_mid (by rfl) 26 _ rfl ((w.heap.size + 1)) (0) rfl (PC) _ (fun w hw => hw.1.2.2) (Try.underlying26) rfl (HIP.out)) (by assumption) ?_
        simp only [List.getElem_toArray, List.getElem_cons_zero, List.getElem_cons_succ, Act.put, List.setIfInBounds_toArray, List.set_cons_zero, List.set_cons_succ]
        refine wpAnyH_ready (rs := [21]) (by kernel_rfl) (by simp) ?_
        refine AllReadyH.cons rfl (fun K hK => ?_) AllReadyH.nil
        simp only [List.getElem_toArray, List.getElem_cons_zero, List.getElem_cons_succ]
        go_simp
        refine (CS2.out _ hHeld.2).mono ?_
        rintro e x2 ⟨rfl, hb2⟩
        dsimp only
        refine hK.out _ _ ?_ (fun hHeld => ?_)
        · exact HST.out _ (bthen hHeld.2 hb2)
        clear hK K
        try simp only [Act.put, List.setIfInBounds_toArray, List.set_cons_zero, List.set_cons_succ]
        refine wpAnyH_take (i := 22) (v := .bool false) rfl (by kernel_rfl) (by kernel_rfl) (by kernel_rfl) (fun _ _ _ h => h) (Or.inl ⟨by rfl, ?_⟩) (by assumption) ?_
        · (intro w hSw; simp only [List.getElem_toArray, List.getElem_cons_zero, List.getElem_cons_succ]; (go_simp; first | done | simp))
        simp only [List.getElem_toArray, List.getElem_cons_zero, List.getElem_cons_succ, Act.put, List.setIfInBounds_toArray, List.set_cons_zero, List.set_cons_succ]
        refine wpAnyH_take (i := 23) (v := ?_) rfl (by kernel_rfl) (by kernel_rfl) (by kernel_rfl) (fun _ _ _ h => h) (Or.inl ⟨by rfl, ?_⟩) (by assumption) ?_
        rotate_left
        · (intro w hSw; (try dsimp only at hSw); simp only [List.getElem_toArray, List.getElem_cons_zero, List.getElem_cons_succ]; go_simp; first | done | with_reducible rfl)
        simp only [List.getElem_toArray, List.getElem_cons_zero, List.getElem_cons_succ, Act.put, List.setIfInBounds_toArray, List.set_cons_zero, List.set_cons_succ]
        refine wpAnyH_take (i := 24) (v := ?_) rfl (by kernel_rfl) (by kernel_rfl) (by kernel_rfl) (fun _ _ _ h => h) (Or.inl ⟨by rfl, ?_⟩) (by assumption) ?_
        rotate_left
        · (intro w hSw; (try dsimp only at hSw); simp only [List.getElem_toArray, List.getElem_cons_zero, List.getElem_cons_succ]; go_simp; first | done | with_reducible rfl)
        simp only [List.getElem_toArray, List.getElem_cons_zero, List.getElem_cons_succ, Act.put, List.setIfInBounds_toArray, List.set_cons_zero, List.set_cons_succ]
        refine wpAnyH_done (by kernel_rfl) ?_ _
        have HEN := Lib.hid (bthen HSQ.out.2 hHeld.2)
        clear hHeld
        go_wp2_with fail
        go_meet
        exact HEN.out
      · clear hy
        refine wp_region_held_drew (S := fun X => (X.rangeAt w6.heap.size 0 D ∧ X.rangeAt w.heap.size 0 OC ∧ X.rangeAt (w.heap.size + 1) 0 PC) ∧ Below wq.heap.size wq X) (by kernel_rfl) ?_ (fun hHeld => ?_)
        · exact HST.out _ (Below.refl _ wq).drew
        refine wpAnyH_take (i := 0) (v := ?_) rfl (by kernel_rfl) (by kernel_rfl) (by kernel_rfl) (fun _ _ _ h => h) (Or.inl ⟨by rfl, ?_⟩) (by assumption) ?_
        rotate_left
        · (intro w hSw; (try dsimp only at hSw); simp only [List.getElem_toArray, List.getElem_cons_zero, List.getElem_cons_succ]; go_simp; first | done | with_reducible rfl)
        simp only [List.getElem_toArray, List.getElem_cons_zero, List.getElem_cons_succ, Act.put, List.setIfInBounds_toArray, List.set_cons_zero, List.set_cons_succ]
        refine wpAnyH_ready (rs := [1]) (by kernel_rfl) (by simp) ?_
        refine AllReadyH.cons rfl (fun K hK => ?_) AllReadyH.nil
        simp only [List.getElem_toArray, List.getElem_cons_zero, List.getElem_cons_succ]
        go_simp
        refine (num13_any _ _).mono ?_
        rintro e z2 ⟨rfl, rfl⟩
        dsimp only
        refine hK.out _ _ ?_ (fun hHeld => ?_)
        · exact hHeld
        clear hK K
        try simp only [Act.put, List.setIfInBounds_toArray, List.set_cons_zero, List.set_cons_succ]
        refine wpAnyH_take (i := 2) (v := ?_) rfl (by kernel_rfl) (by kernel_rfl) (by kernel_rfl) (fun _ _ _ h => h) (Or.inl ⟨by rfl, ?_⟩) (by assumption) ?_
        rotate_left
        · (intro w hSw; (try dsimp only at hSw); simp only [List.getElem_toArray, List.getElem_cons_zero, List.getElem_cons_succ]; go_simp; first | done | with_reducible rfl)
        simp only [List.getElem_toArray, List.getElem_cons_zero, List.getElem_cons_succ, Act.put, List.setIfInBounds_toArray, List.set_cons_zero, List.set_cons_succ]
        refine wpAnyH_take (i := 3) (v := ?_) rfl (by kernel_rfl) (by kernel_rfl) (by kernel_rfl) (fun _ _ _ h => h) (Or.inl ⟨by rfl, ?_⟩) (by assumption) ?_
        rotate_left
        · (intro w hSw; (try dsimp only at hSw); simp only [List.getElem_toArray, List.getElem_cons_zero, List.getElem_cons_succ]; go_simp; first | done | with_reducible rfl)
        simp only [List.getElem_toArray, List.getElem_cons_zero, List.getElem_cons_succ, Act.put, List.setIfInBounds_toArray, List.set_cons_zero, List.set_cons_succ]
        refine wpAnyH_take (i := 4) (v := _) rfl (by kernel_rfl) (by kernel_rfl) (by kernel_rfl) (fun _ _ _ h => h) (yieldsIf_load_mid (by rfl) 26 _ rfl (w6.heap.size) (0) rfl (D) _ (fun w hw => hw.1.1) (Try.underlying26) rfl (HID.out)) (by assumption) ?_
        simp only [List.getElem_toArray, List.getElem_cons_zero, List.getElem_cons_succ, Act.put, List.setIfInBounds_toArray, List.set_cons_zero, List.set_cons_succ]
        refine wpAnyH_take (i := 5) (v := _) rfl (by kernel_rfl) (by kernel_rfl) (by kernel_rfl) (fun _ _ _ h => h) (yieldsIf_load_mid (by rfl) 26 _ rfl (w.heap.size) (0) rfl (OC) _ (fun w hw => hw.1.2.1) (Try.underlying26) rfl (HIO.out)) (by assumption) ?_
        simp only [List.getElem_toArray, List.getElem_cons_zero, List.getElem_cons_succ, Act.put, List.setIfInBounds_toArray, List.set_cons_zero, List.set_cons_succ]
        refine wpAnyH_ready (rs := [6]) (by kernel_rfl) (by simp) ?_
        refine AllReadyH.cons rfl (fun K hK => ?_) AllReadyH.nil
        simp only [List.getElem_toArray, List.getElem_cons_zero, List.getElem_cons_succ]
        go_simp
        refine (CS1.out _ hHeld.2).mono ?_
        rintro e x1 ⟨rfl, hb1⟩
        dsimp only
        refine hK.out _ _ ?_ (fun hHeld => ?_)
        · exact HST.out _ (bthen hHeld.2 hb1)
        clear hK K
        try simp only [Act.put, List.setIfInBounds_toArray, List.set_cons_zero, List.set_cons_succ]
        refine wpAnyH_take (i := 7) (v := ?_) rfl (by kernel_rfl) (by kernel_rfl) (by kernel_rfl) (fun _ _ _ h => h) (Or.inl ⟨by rfl, ?_⟩) (by assumption) ?_
        rotate_left
        · (intro w hSw; (try dsimp only at hSw); simp only [List.getElem_toArray, List.getElem_cons_zero, List.getElem_cons_succ]; go_simp; first | done | with_reducible rfl)
        simp only [List.getElem_toArray, List.getElem_cons_zero, List.getElem_cons_succ, Act.put, List.setIfInBounds_toArray, List.set_cons_zero, List.set_cons_succ]
        refine wpAnyH_take (i := 8) (v := ?_) rfl (by kernel_rfl) (by kernel_rfl) (by kernel_rfl) (fun _ _ _ h => h) (Or.inl ⟨by rfl, ?_⟩) (by assumption) ?_
        rotate_left
        · (intro w hSw; (try dsimp only at hSw); simp only [List.getElem_toArray, List.getElem_cons_zero, List.getElem_cons_succ]; go_simp; first | done | with_reducible rfl)
        simp only [List.getElem_toArray, List.getElem_cons_zero, List.getElem_cons_succ, Act.put, List.setIfInBounds_toArray, List.set_cons_zero, List.set_cons_succ]
        refine wpAnyH_take (i := 9) (v := ?_) rfl (by kernel_rfl) (by kernel_rfl) (by kernel_rfl) (fun _ _ _ h => h) (Or.inl ⟨by rfl, ?_⟩) (by assumption) ?_
        rotate_left
        · (intro w hSw; (try dsimp only at hSw); simp only [List.getElem_toArray, List.getElem_cons_zero, List.getElem_cons_succ]; go_simp; first | done | with_reducible rfl)
        simp only [List.getElem_toArray, List.getElem_cons_zero, List.getElem_cons_succ, Act.put, List.setIfInBounds_toArray, List.set_cons_zero, List.set_cons_succ]
        refine wpAnyH_take (i := 10) (v := ?_) rfl (by kernel_rfl) (by kernel_rfl) (by kernel_rfl) (fun _ _ _ h => h) (Or.inl ⟨by rfl, ?_⟩) (by assumption) ?_
        rotate_left
        · (intro w hSw; (try dsimp only at hSw); simp only [List.getElem_toArray, List.getElem_cons_zero, List.getElem_cons_succ]; go_simp; first | done | with_reducible rfl)
        simp only [List.getElem_toArray, List.getElem_cons_zero, List.getElem_cons_succ, Act.put, List.setIfInBounds_toArray, List.set_cons_zero, List.set_cons_succ]
        refine wpAnyH_ready (rs := [11]) (by kernel_rfl) (by simp) ?_
        refine AllReadyH.cons rfl (fun K hK => ?_) AllReadyH.nil
        simp only [List.getElem_toArray, List.getElem_cons_zero, List.getElem_cons_succ]
        go_simp
        refine (num13_any _ _).mono ?_
        rintro e z3 ⟨rfl, rfl⟩
        dsimp only
        refine hK.out _ _ ?_ (fun hHeld => ?_)
        · exact hHeld
        clear hK K
        try simp only [Act.put, List.setIfInBounds_toArray, List.set_cons_zero, List.set_cons_succ]
        refine wpAnyH_take (i := 12) (v := ?_) rfl (by kernel_rfl) (by kernel_rfl) (by kernel_rfl) (fun _ _ _ h => h) (Or.inl ⟨by rfl, ?_⟩) (by assumption) ?_
        rotate_left
        · (intro w hSw; (try dsimp only at hSw); simp only [List.getElem_toArray, List.getElem_cons_zero, List.getElem_cons_succ]; go_simp; first | done | with_reducible rfl)
        simp only [List.getElem_toArray, List.getElem_cons_zero, List.getElem_cons_succ, Act.put, List.setIfInBounds_toArray, List.set_cons_zero, List.set_cons_succ]
        refine wpAnyH_take (i := 13) (v := ?_) rfl (by kernel_rfl) (by kernel_rfl) (by kernel_rfl) (fun _ _ _ h => h) (Or.inl ⟨by rfl, ?_⟩) (by assumption) ?_
        rotate_left
        · (intro w hSw; (try dsimp only at hSw); simp only [List.getElem_toArray, List.getElem_cons_zero, List.getElem_cons_succ]; go_simp; first | done | with_reducible rfl)
        simp only [List.getElem_toArray, List.getElem_cons_zero, List.getElem_cons_succ, Act.put, List.setIfInBounds_toArray, List.set_cons_zero, List.set_cons_succ]
        refine wpAnyH_take (i := 14) (v := undef) rfl (by kernel_rfl) (by kernel_rfl) (by kernel_rfl) (fun _ _ _ h => h) (Or.inr ⟨by rfl, rfl⟩) (by assumption) ?_
        simp only [List.getElem_toArray, List.getElem_cons_zero, List.getElem_cons_succ, Act.put, List.setIfInBounds_toArray, List.set_cons_zero, List.set_cons_succ]
        refine wpAnyH_take (i := 15) (v := undef) rfl (by kernel_rfl) (by kernel_rfl) (by kernel_rfl) (fun _ _ _ h => h) (Or.inr ⟨by rfl, rfl⟩) (by assumption) ?_
        simp only [List.getElem_toArray, List.getElem_cons_zero, List.getElem_cons_succ, Act.put, List.setIfInBounds_toArray, List.set_cons_zero, List.set_cons_succ]
        refine wpAnyH_take (i := 16) (v := undef) rfl (by kernel_rfl) (by kernel_rfl) (by kernel_rfl) (fun _ _ _ h => h) (Or.inr ⟨by rfl, rfl⟩) (by assumption) ?_
        simp only [List.getElem_toArray, List.getElem_cons_zero, List.getElem_cons_succ, Act.put, List.setIfInBounds_toArray, List.set_cons_zero, List.set_cons_succ]
        refine wpAnyH_take (i := 17) (v := undef) rfl (by kernel_rfl) (by kernel_rfl) (by kernel_rfl) (fun _ _ _ h => h) (Or.inr ⟨by rfl, rfl⟩) (by assumption) ?_
        simp only [List.getElem_toArray, List.getElem_cons_zero, List.getElem_cons_succ, Act.put, List.setIfInBounds_toArray, List.set_cons_zero, List.set_cons_succ]
        refine wpAnyH_take (i := 18) (v := undef) rfl (by kernel_rfl) (by kernel_rfl) (by kernel_rfl) (fun _ _ _ h => h) (Or.inr ⟨by rfl, rfl⟩) (by assumption) ?_
        simp only [List.getElem_toArray, List.getElem_cons_zero, List.getElem_cons_succ, Act.put, List.setIfInBounds_toArray, List.set_cons_zero, List.set_cons_succ]
        refine wpAnyH_take (i := 19) (v := undef) rfl (by kernel_rfl) (by kernel_rfl) (by kernel_rfl) (fun _ _ _ h => h) (Or.inr ⟨by rfl, rfl⟩) (by assumption) ?_
        simp only [List.getElem_toArray, List.getElem_cons_zero, List.getElem_cons_succ, Act.put, List.setIfInBounds_toArray, List.set_cons_zero, List.set_cons_succ]
        refine wpAnyH_take (i := 20) (v := undef) rfl (by kernel_rfl) (by kernel_rfl) (by kernel_rfl) (fun _ _ _ h => h) (Or.inr ⟨by rfl, rfl⟩) (by assumption) ?_
        simp only [List.getElem_toArray, List.getElem_cons_zero, List.getElem_cons_succ, Act.put, List.setIfInBounds_toArray, List.set_cons_zero, List.set_cons_succ]
        refine wpAnyH_take (i := 21) (v := undef) rfl (by kernel_rfl) (by kernel_rfl) (by kernel_rfl) (fun _ _ _ h => h) (Or.inr ⟨by rfl, rfl⟩) (by assumption) ?_
        simp only [List.getElem_toArray, List.getElem_cons_zero, List.getElem_cons_succ, Act.put, List.setIfInBounds_toArray, List.set_cons_zero, List.set_cons_succ]
        refine wpAnyH_take (i := 22) (v := undef) rfl (by kernel_rfl) (by kernel_rfl) (by kernel_rfl) (fun _ _ _ h => h) (Or.inr ⟨by rfl, rfl⟩) (by assumption) ?_
        simp only [List.getElem_toArray, List.getElem_cons_zero, List.getElem_cons_succ, Act.put, List.setIfInBounds_toArray, List.set_cons_zero, List.set_cons_succ]
        refine wpAnyH_take (i := 23) (v := ?_) rfl (by kernel_rfl) (by kernel_rfl) (by kernel_rfl) (fun _ _ _ h => h) (Or.inl ⟨by rfl, ?_⟩) (by assumption) ?_
        rotate_left
        · (intro w hSw; (try dsimp only at hSw); simp only [List.getElem_toArray, List.getElem_cons_zero, List.getElem_cons_succ]; go_simp; first | done | with_reducible rfl)
        simp only [List.getElem_toArray, List.getElem_cons_zero, List.getElem_cons_succ, Act.put, List.setIfInBounds_toArray, List.set_cons_zero, List.set_cons_succ]
        refine wpAnyH_take (i := 24) (v := ?_) rfl (by kernel_rfl) (by kernel_rfl) (by kernel_rfl) (fun _ _ _ h => h) (Or.inl ⟨by rfl, ?_⟩) (by assumption) ?_
        rotate_left
        · (intro w hSw; (try dsimp only at hSw); simp only [List.getElem_toArray, List.getElem_cons_zero, List.getElem_cons_succ]; go_simp; first | done | with_reducible rfl)
        simp only [List.getElem_toArray, List.getElem_cons_zero, List.getElem_cons_succ, Act.put, List.setIfInBounds_toArray, List.set_cons_zero, List.set_cons_succ]
        refine wpAnyH_done (by kernel_rfl) ?_ _
        have HEN := Lib.hid (bthen HSQ.out.2 hHeld.2)
        clear hHeld
        go_wp2_with fail
        go_meet
        exact HEN.out
    · clear hx
      go_wp2_with fail
      all_goals
        go_meet
        exact HS5.out.2
  case rest =>
    have HS7 := Lib.hid (HSS.out _ hcut)
    clear hcut HX HXR HXR5 HY HYR HS4 HS5 HS3
    go_wp2_with (refine wpList_load_mid rfl 47 _ rfl (w.heap.size + 1 + 1) 0 rfl AC _ HS7.out.1.2.2 Try.underlying47 rfl HIA.out ?_)
    refine (CBa.out _ (CEND.out _ HS7.out.2)).mono ?_
    rintro e w8 ⟨z, zv, ze, rfl, hz, hzr, hb8⟩
    have HS8 := Lib.hid (HSS.out _ (bthen HS7.out.2 hb8))
    have HZ := Lib.hid hz
    have HZR := Lib.hid hzr
    clear hb8 hz hzr
    obtain ⟨azo, azc, rfl, _⟩ := HZR.out
    go_wp2_with fail
    refine (num13_any _ _).mono ?_
    rintro e z1 ⟨rfl, rfl⟩
    go_upto_if 103 with (fail)
    go_cut [] (fun wx => Below W0.heap.size W0 wx)
    case first =>
      rcases HZ.out with ⟨hz, rfl⟩ | ⟨hz, rfl, rfl⟩
      · have CF : Hid (Calls Try.prog 45 #[.slice azo z.length azc] w8 fun e w' => ∃ sl, e = .returned (.tuple #[.agg (aC a sl), .int .i64 0]) ∧ Rd w' 1 sl a.data.length (bV a.data) ∧ Below w8.heap.size w8 w') := Lib.hid ((CAF.out z _ w8 HZR.out (packA_len2 hz (by have := H9.out.1; omega))).mono fun e w' h => by
          rw [ofA_packA hz] at h
          obtain ⟨hb, sl, he, hr⟩ := h
          exact ⟨sl, he, hr, hb⟩)
        clear hz
        go_wp2_with fail
        refine CF.out.mono ?_
        rintro e w6 ⟨s6, rfl, hr6, hb6⟩
        obtain ⟨D, hD, hdl, hdn, hdk⟩ := aC_list a hr6
        rw [hD]
        have hst := run_storeNew (P := Try.prog) w6 47 #[.int .i64 0, .int .i64 0, .slice none 0 0] D.toArray (by simp [hdl]) (by simpa using hdn)
        have HDK := Lib.hid hdk
        have HS6 := Lib.hid (HSS.out _ (bthen HS8.out.2 hb6))
        have HR6 := Lib.hid hr6
        clear hb6 hr6 hD hdn hdk
        go_upto_region 14 with fail
        clear hst hdl
        obtain ⟨wq, hwq⟩ : ∃ W, w6.alloc (.cells D.toArray 47) = W := ⟨_, rfl⟩
        have HBQ : Hid (Below w6.heap.size w6 wq) := Lib.hid (by rw [← hwq]; exact balloc (Below.refl _ _) _)
        have HDQ : Hid (wq.rangeAt w6.heap.size 0 D) := Lib.hid (by rw [← hwq]; exact range_new w6 _ D)
        have HSQ := Lib.hid (HSS.out _ (bthen HS6.out.2 HBQ.out))
        rw [hwq]
        clear hwq
        have CS1 : Hid (Calls Try.prog 34 #[.agg #[.int .i64 a.code, .int .i64 a.done, s6], .agg #[.int .i64 a.code, .int .i64 a.done, sa]] wq fun e w' => e = .returned (.bool true) ∧ Below wq.heap.size wq w') := Lib.hid (by
          rw [← ansEq_yes (rfl : a = a)]
          exact CSA.out a a s6 sa wq (HR6.out.below HBQ.out) (HDA.out.below (CEND.out _ HSQ.out.2)))
        have q0 : wq.cell? ⟨w6.heap.size, 0, none⟩ = _ := HDQ.out 0 _ HDK.out.1
        have q1 : wq.cell? ⟨w6.heap.size, 1, none⟩ = _ := HDQ.out 1 _ HDK.out.2.1
        have q2 : wq.cell? ⟨w6.heap.size, 2, none⟩ = _ := HDQ.out 2 _ HDK.out.2.2
        have q3 : wq.cell? ⟨w.heap.size + 1 + 1, 0, none⟩ = _ := HSQ.out.1.2.2 0 _ HAK.out.1
        have q4 : wq.cell? ⟨w.heap.size + 1 + 1, 1, none⟩ = _ := HSQ.out.1.2.2 1 _ HAK.out.2.1
        have q5 : wq.cell? ⟨w.heap.size + 1 + 1, 2, none⟩ = _ := HSQ.out.1.2.2 2 _ HAK.out.2.2
        go_wp2_with fail
        refine (num13_any _ _).mono ?_
        rintro e z2 ⟨rfl, rfl⟩
        go_wp2_with fail
        clear q0 q1 q2 q3 q4 q5
        refine CS1.out.mono ?_
        rintro e x1 ⟨rfl, hb1⟩
        have HEN := Lib.hid (bthen HSQ.out.2 hb1)
        clear hb1
        go_wp2_with fail
        go_meet
        exact HEN.out
      · clear hz
        go_wp2_with fail
        go_meet
        exact HS8.out.2
    case rest =>
    have HS9 := Lib.hid (HSS.out _ hcut)
    have CF : Hid (∀ W, Below W0.heap.size W0 W → Calls Try.prog 43 #[.slice ao bs.length cap] W fun e w' => ∃ d sl code, e = .returned (.tuple #[.agg (oC d sl), .int .i64 code]) ∧ ((ofO bs = some d ∧ code = 0) ∨ code = 4) ∧ Rd w' 1 sl d.data.length (bV d.data) ∧ Below W.heap.size W w') := Lib.hid (fun W hW => (COF.out bs _ W (HV.out.below (CEND.out _ hW)) (by have := H9.out.2.1; omega)).mono fun e w' h => by
      obtain ⟨hb, sl, he, hr⟩ := h
      cases hq : ofO bs with
      | none => rw [hq] at he hr; exact ⟨_, sl, _, he, .inr rfl, hr, hb⟩
      | some d => rw [hq] at he hr; exact ⟨_, sl, _, he, .inl ⟨rfl, rfl⟩, hr, hb⟩)
    clear hcut HZ HZR HS7 HS8
    go_wp2_with fail
    refine (CF.out _ HS9.out.2).mono ?_
    rintro e w6 ⟨d, s6, code, rfl, hcd, hr6, hb6⟩
    obtain ⟨D, hD, hdl, hdn⟩ := oC_list d hr6
    rw [hD]
    have hst := run_storeNew (P := Try.prog) w6 26 #[.int .i64 0, .int .u64 0, .int .u64 0, .int .i64 0, .int .i64 0, .int .i64 0, .slice none 0 0] D.toArray (by simp [hdl]) (by simpa using hdn)
    have HD := Lib.hid hD
    have HCD := Lib.hid hcd
    have HID : Hid ((Try.prog.info? 26).map (·.size) = some D.length) := Lib.hid (by rw [hdl]; exact infoOp)
    have HS6 := Lib.hid (HSS.out _ (bthen HS9.out.2 hb6))
    have HR6 := Lib.hid hr6
    clear hb6 hr6 hD hdn hcd
    go_upto_region 17 with fail
    clear hst hdl
    obtain ⟨wq, hwq⟩ : ∃ W, w6.alloc (.cells D.toArray 26) = W := ⟨_, rfl⟩
    have HBQ : Hid (Below w6.heap.size w6 wq) := Lib.hid (by rw [← hwq]; exact balloc (Below.refl _ _) _)
    have HDQ : Hid (wq.rangeAt w6.heap.size 0 D) := Lib.hid (by rw [← hwq]; exact range_new w6 _ D)
    have HSQ := Lib.hid (HSS.out _ (bthen HS6.out.2 HBQ.out))
    rw [hwq]
    clear hwq
    go_wp2_with fail
    refine (num13_any _ _).mono ?_
    rintro e z2 ⟨rfl, rfl⟩
    go_upto_if 125 with (fail)
    go_cut [] (fun wx => Below W0.heap.size W0 wx)
    case first =>
      rcases HCD.out with ⟨hcd, rfl⟩ | rfl
      · obtain ⟨hok, hdl⟩ := ofO_parts hcd
        have hpk := packO_ofO hcd
        have CB : Hid (Calls Try.prog 19 #[.agg D.toArray] wq fun e w' => ∃ v', e = .returned (.tuple #[v', .int .i64 0]) ∧ Rd w' 1 v' bs.length (bV bs) ∧ Below wq.heap.size wq w') := Lib.hid (by
          rw [← HD.out]
          refine (CBY.out d hok s6 wq (HR6.out.below HBQ.out) (by have := H9.out.2.1; omega)).mono fun e w' h => ?_
          rw [hpk] at h
          obtain ⟨hb, v', he, ho⟩ := h
          exact ⟨v', he, Rd.of_own ho, hb⟩)
        clear hcd hok hdl hpk
        go_wp2_with (refine wpList_load_mid rfl 26 _ rfl w6.heap.size 0 rfl D _ HDQ.out Try.underlying26 rfl HID.out ?_)
        refine CB.out.mono ?_
        rintro e wz ⟨v', rfl, hvz, hbz⟩
        have HBZ := Lib.hid (bthen HSQ.out.2 hbz)
        have ht1 := run_text wz _ _ bs hvz
        have ht2 := run_text wz _ _ bs (HV.out.below (CEND.out _ (bthen HSQ.out.2 hbz)))
        generalize strB bs = S at ht1 ht2
        clear hvz hbz
        go_wp2_with fail
        refine (num13_any _ _).mono ?_
        rintro e z3 ⟨rfl, rfl⟩
        have hss : (S.toList != S.toList) = false := by simp
        go_wp2_with fail
        go_meet
        exact HBZ.out
      · go_wp2_with fail
        go_meet
        exact HSQ.out.2
    case rest =>
    have HS10 := Lib.hid (HSS.out _ hcut)
    have CF2 : Hid (∀ W, Below W0.heap.size W0 W → Calls Try.prog 45 #[.slice bo cs.length cbp] W fun e w' => ∃ d sl code, e = .returned (.tuple #[.agg (aC d sl), .int .i64 code]) ∧ ((ofA cs = some d ∧ code = 0) ∨ code = 4) ∧ Rd w' 1 sl d.data.length (bV d.data) ∧ Below W.heap.size W w') := Lib.hid (fun W hW => (CAF.out cs _ W (HU.out.below (CEND.out _ hW)) (by have := H9.out.2.2; omega)).mono fun e w' h => by
      obtain ⟨hb, sl, he, hr⟩ := h
      cases hq : ofA cs with
      | none => rw [hq] at he hr; exact ⟨_, sl, _, he, .inr rfl, hr, hb⟩
      | some d => rw [hq] at he hr; exact ⟨_, sl, _, he, .inl ⟨rfl, rfl⟩, hr, hb⟩)
    clear hcut HCD HR6 HSQ HDQ HBQ HS6 HID HD CF HS9
    go_wp2_with fail
    refine (CF2.out _ HS10.out.2).mono ?_
    rintro e w6 ⟨d, s6, code, rfl, hcd, hr6, hb6⟩
    obtain ⟨D, hD, hdl, hdn, _⟩ := aC_list d hr6
    rw [hD]
    have hst := run_storeNew (P := Try.prog) w6 47 #[.int .i64 0, .int .i64 0, .slice none 0 0] D.toArray (by simp [hdl]) (by simpa using hdn)
    have HD := Lib.hid hD
    have HCD := Lib.hid hcd
    have HID : Hid ((Try.prog.info? 47).map (·.size) = some D.length) := Lib.hid (by rw [hdl]; exact infoAn)
    have HS6 := Lib.hid (HSS.out _ (bthen HS10.out.2 hb6))
    have HR6 := Lib.hid hr6
    clear hb6 hr6 hD hdn hcd
    go_upto_region 22 with fail
    clear hst hdl
    obtain ⟨wq, hwq⟩ : ∃ W, w6.alloc (.cells D.toArray 47) = W := ⟨_, rfl⟩
    have HBQ : Hid (Below w6.heap.size w6 wq) := Lib.hid (by rw [← hwq]; exact balloc (Below.refl _ _) _)
    have HDQ : Hid (wq.rangeAt w6.heap.size 0 D) := Lib.hid (by rw [← hwq]; exact range_new w6 _ D)
    have HSQ := Lib.hid (HSS.out _ (bthen HS6.out.2 HBQ.out))
    rw [hwq]
    clear hwq
    go_wp2_with fail
    refine (num13_any _ _).mono ?_
    rintro e z2 ⟨rfl, rfl⟩
    go_upto_if 148 with (fail)
    go_cut [] (fun wx => Below W0.heap.size W0 wx)
    case first =>
      rcases HCD.out with ⟨hcd, rfl⟩ | rfl
      · have hpk := packA_ofA hcd
        have hok := mayA_ok (packA_parts hpk).1
        have CB : Hid (Calls Try.prog 29 #[.agg D.toArray] wq fun e w' => ∃ v', e = .returned (.tuple #[v', .int .i64 0]) ∧ Rd w' 1 v' cs.length (bV cs) ∧ Below wq.heap.size wq w') := Lib.hid (by
          rw [← HD.out]
          refine (CAY.out d hok s6 wq (HR6.out.below HBQ.out)).mono fun e w' h => ?_
          rw [hpk] at h
          obtain ⟨hb, v', he, ho⟩ := h
          exact ⟨v', he, Rd.of_own ho, hb⟩)
        clear hcd hok hpk
        go_wp2_with (refine wpList_load_mid rfl 47 _ rfl w6.heap.size 0 rfl D _ HDQ.out Try.underlying47 rfl HID.out ?_)
        refine CB.out.mono ?_
        rintro e wz ⟨v', rfl, hvz, hbz⟩
        have HBZ := Lib.hid (bthen HSQ.out.2 hbz)
        have ht1 := run_text wz _ _ cs hvz
        have ht2 := run_text wz _ _ cs (HU.out.below (CEND.out _ (bthen HSQ.out.2 hbz)))
        generalize strB cs = S at ht1 ht2
        clear hvz hbz
        go_wp2_with fail
        refine (num13_any _ _).mono ?_
        rintro e z3 ⟨rfl, rfl⟩
        have hss : (S.toList != S.toList) = false := by simp
        go_wp2_with fail
        go_meet
        exact HBZ.out
      · go_wp2_with fail
        go_meet
        exact HSQ.out.2
    case rest =>
    have HE := Lib.hid (CEND.out _ hcut)
    clear hcut
    go_wp2_with fail
    go_ret
    exact ⟨rfl, HE.out⟩
end Go.Proofs.Ytgkelbdgdhkeoaa
