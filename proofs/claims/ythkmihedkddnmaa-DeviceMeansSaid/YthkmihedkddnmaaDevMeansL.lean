/- DeviceMeans, walked. -/
import Derived.Test.YthkmihedkddnmaaDevM1
namespace Go.Proofs.Ythkmihedkddnmaa
open Go.RowKit Go.Maps Wire Cmd
set_option linter.unusedVariables false
set_option linter.unusedSimpArgs false

theorem opBox7 {X : World} {b : Nat} {o : Op0} {sl : Value} (h : X.heap[b]? = some (.cells (oC o sl) 27 (0, 0))) : OpAt X b 0 o sl := op7 h
theorem ddo_e (n0 : Nat) (w : World) (B Ba : Nat) (l : List (Nat × (Vl × Nat))) (h : DevAt n0 w B Ba l) (o : Op0) (ok : o.Ok) (ao : Option Addr) (cap : Nat) (hd : Rd w 1 (.slice ao o.data.length cap) o.data.length (bV o.data)) :
    Calls Try.prog 8 #[.pointer (some ⟨B, 0, none⟩), .agg #[.int .i64 o.k, .int .u64 (o.vol : Int), .int .u64 (o.to : Int), .int .i64 o.size, .int .i64 o.pl, .int .i64 o.count, .slice ao o.data.length cap]] w fun e w' =>
      ∃ u l', e = .returned u ∧ DevAt n0 w' B Ba l' ∧ strip l' = (stepD (strip l) o 1024).2 ∧ Chg (dF Ba l) w w' (dF Ba l') := by
  refine (ddo_at n0 w B Ba l h o ok ao cap hd).mono fun e w' hP => ?_
  obtain ⟨sa, cp, l', h1, h2, h3, h4, h5⟩ := hP.chg
  exact ⟨_, l', h1, h2, h3, h5⟩
set_option maxRecDepth 100000 in
set_option maxHeartbeats 6400000 in
theorem devMeans_any (ao : Option Addr) (n cap : Nat) (L : List (Op0 × Value)) (am : Option Addr) (nm_ capm : Nat) (M : List (Op0 × Value)) (o : Op0) (so : Option Addr) (co : Nat) (w : World) (hL : Ops w ao n cap L) (hM : Ops w am nm_ capm M) (ok : o.Ok) (hd : Rd w 1 (.slice so o.data.length co) o.data.length (bV o.data)) :
    Calls Try.prog 3 #[.slice ao n cap, .agg (oC o (.slice so o.data.length co)), .slice am nm_ capm] w fun e w' => e = .returned (.bool true) ∧ Below w.heap.size w w' := by
  have hdm : o.data.length ≤ 9223372036854775807 := by obtain ⟨_, _, _, _, hm, _⟩ := hd; unfold maxLen at hm; omega
  have hnn : n ≤ 9223372036854775807 := by obtain ⟨_, h1, h2, _⟩ := hL; unfold maxLen at h2; omega
  have hmm : nm_ ≤ 9223372036854775807 := by obtain ⟨_, h1, h2, _⟩ := hM; unfold maxLen at h2; omega
  have HOK := Lib.hid ok
  obtain ⟨sl, hsl⟩ : ∃ s, Value.slice so o.data.length co = s := ⟨_, rfl⟩
  have HSL := Lib.hid hsl
  rw [hsl] at hd ⊢
  obtain ⟨w1, hw1⟩ : ∃ y, w.alloc (.cells #[.int .i64 o.k, .int .u64 (o.vol : Int), .int .u64 (o.to : Int), .int .i64 o.size, .int .i64 o.pl, .int .i64 o.count, sl] 27) = y := ⟨_, rfl⟩
  have hb1 : Below w.heap.size w w1 := by rw [← hw1]; exact balloc (Below.refl _ _) _
  have hx1 : w1.heap[w.heap.size]? = some (.cells (oC o sl) 27 (0, 0)) := by rw [← hw1]; exact heap_alloc_new w _
  have HBX : Hid (∀ X, Below w1.heap.size w1 X → OpAt X w.heap.size 0 o sl) := Lib.hid (fun X hX => opBox7 ((hX.block _ (Array.getElem?_eq_some_iff.1 hx1).1).trans hx1))
  have HLX : Hid (∀ X, Below w1.heap.size w1 X → Ops X ao n cap L) := Lib.hid (fun X hX => hL.below (bthen hb1 hX))
  have HMX : Hid (∀ X, Below w1.heap.size w1 X → Ops X am nm_ capm M) := Lib.hid (fun X hX => hM.below (bthen hb1 hX))
  have HDX : Hid (∀ X, Below w1.heap.size w1 X → Rd X 1 sl o.data.length (bV o.data)) := Lib.hid (fun X hX => hd.below (bthen hb1 hX))
  have HLL := Lib.hid hL.1
  have HLM := Lib.hid hM.1
  have HB1 := Lib.hid hb1
  have HEND : Hid (∀ X, Below w1.heap.size w1 X → Below w.heap.size w X) := Lib.hid (fun X hX => bthen hb1 hX)
  rw [show (oC o sl) = #[.int .i64 o.k, .int .u64 (o.vol : Int), .int .u64 (o.to : Int), .int .i64 o.size, .int .i64 o.pl, .int .i64 o.count, sl] from rfl]
  clear hL hM hd hb1 hx1 hsl ok
  have CK := known14_any w1
  go_enter Try.func3, Try.ntmps3
  go_wp2_with fail
  (try rw [hw1])
  refine CK.mono ?_
  rintro e w2 ⟨rfl, hb2⟩
  have HB2 := Lib.hid hb2
  clear CK hb2 hw1
  have C1 := much14_any ao n cap L w2 (HLX.out _ HB2.out)
  obtain ⟨b1, hb1⟩ : ∃ b, muchD L = b := ⟨_, rfl⟩
  have HMU1 := Lib.hid hb1
  rw [hb1] at C1
  clear hb1
  go_wp2_with fail
  refine C1.mono ?_
  rintro e w3 ⟨rfl, hb3⟩
  have HB3 := Lib.hid (bthen HB2.out hb3)
  clear C1 hb3 HB2
  cases b1 with
  | true =>
    go_wp2_with fail
    go_ret
    exact ⟨rfl, HEND.out _ HB3.out⟩
  | false =>
  have C2 := much14_any am nm_ capm M w3 (HMX.out _ HB3.out)
  obtain ⟨b2, hb2⟩ : ∃ b, muchD M = b := ⟨_, rfl⟩
  have HMU2 := Lib.hid hb2
  rw [hb2] at C2
  clear hb2
  go_wp2_with fail
  refine C2.mono ?_
  rintro e w4 ⟨rfl, hb4⟩
  have HB4 := Lib.hid (bthen HB3.out hb4)
  clear C2 hb4 HB3
  cases b2 with
  | true =>
    go_wp2_with fail
    go_ret
    exact ⟨rfl, HEND.out _ HB4.out⟩
  | false =>
  have C3 := much13_any o so co w4 hdm
  rw [HSL.out] at C3
  change Calls _ _ #[.agg #[.int .i64 o.k, .int .u64 (o.vol : Int), .int .u64 (o.to : Int), .int .i64 o.size, .int .i64 o.pl, .int .i64 o.count, sl]] _ _ at C3
  obtain ⟨b3, hb3⟩ : ∃ b, decide (9000 < (o.data.length : Int)) = b := ⟨_, rfl⟩
  have HMU3 := Lib.hid hb3
  rw [hb3] at C3
  clear hb3
  obtain ⟨c0, c1, c2, c3, c4, c5, c6⟩ := HBX.out _ HB4.out
  go_wp2_with fail
  refine C3.mono ?_
  rintro e w5 ⟨rfl, hb5⟩
  have HB5 := Lib.hid (bthen HB4.out hb5)
  clear C3 hb5 HB4 c0 c1 c2 c3 c4 c5 c6
  cases b3 with
  | true =>
    go_wp2_with fail
    go_ret
    exact ⟨rfl, HEND.out _ HB5.out⟩
  | false =>
  obtain ⟨c0, c1, c2, c3, c4, c5, c6⟩ := HBX.out _ HB5.out
  by_cases hk : o.k = 5
  rotate_left
  · have q : (o.k != 5) = true := by simp [hk]
    clear hk
    go_wp2_with fail
    go_ret
    exact ⟨rfl, HEND.out _ HB5.out⟩
  have q : (o.k != 5) = false := by simp [hk]
  have HK := Lib.hid hk
  clear hk
  have CN := dnew_any w1.heap.size w5 HB5.out.size
  go_wp2_with fail
  refine CN.mono ?_
  rintro e w6 ⟨B, Ba, rfl, hd6, hb6, _, _⟩
  dsimp only
  have HD6 := Lib.hid hd6
  have HB6 := Lib.hid (bthen HB5.out hb6)
  clear CN hd6 hb6 HB5 c0 c1 c2 c3 c4 c5 c6 q
  obtain ⟨os, hos⟩ : ∃ os, L.map (·.1) = os := ⟨_, rfl⟩
  have HOS := Lib.hid hos
  clear hos
  go_wp2_with fail
  go_loopw [8] (fun i wr => ∃ (k : Nat) (l : List (Nat × (Vl × Nat))), k ≤ n ∧ i = .int .i64 (k : Int) ∧ DevAt w1.heap.size wr B Ba l ∧ strip l = runL [] (os.take k) ∧ Below w1.heap.size w1 wr) (fun i _ => n - (intOf i).toNat)
  case atStart => exact ⟨0, [], by omega, rfl, HD6.out, rfl, HB6.out⟩
  case round =>
    obtain ⟨k, l, hk, rfl, hdk, hsk, hbk⟩ := hrel
    have HDK := Lib.hid hdk
    have HSK := Lib.hid hsk
    have HBK := Lib.hid hbk
    clear hdk hsk hbk
    by_cases hlt : k < n
    · have q0 : decide ((k : Int) < (n : Int)) = true := decide_eq_true (by omega)
      obtain ⟨x, hx⟩ : ∃ x, L[k]? = some x := ⟨_, List.getElem?_eq_getElem (by rw [HLL.out]; exact hlt)⟩
      have HX := Lib.hid hx
      obtain ⟨b, off, rfl, _, ⟨c0, c1, c2, c3, c4, c5, c6⟩, okx, hr⟩ := (HLX.out _ HBK.out).2.2.2.2 k x hx
      have hr2 := hr
      obtain ⟨ax, cx, ex, _⟩ := hr
      rw [ex] at c6 hr2
      have C := ddo_e _ wr B Ba l HDK.out x.1 okx ax cx hr2
      have HOX : Hid (os[k]? = some x.1) := Lib.hid (by rw [← HOS.out, List.getElem?_map, hx]; rfl)
      clear hx ex hr2 okx
      go_wp2_with fail
      refine C.mono ?_
      rintro e w7 ⟨u7, l7, rfl, hd7, hs7, hc7⟩
      have HD7 := Lib.hid hd7
      have HB7 := Lib.hid (HDK.out.own HBK.out hc7)
      have HS7 : Hid (strip l7 = runL [] (os.take (k + 1))) := Lib.hid (hs7.trans (by rw [runL_take HOX.out, ← HSK.out]))
      clear c0 c1 c2 c3 c4 c5 c6 C hd7 hs7 hc7
      go_wp2_with fail
      go_round
      case rel => exact ⟨k + 1, l7, by omega, by go_num, HD7.out, HS7.out, HB7.out⟩
      case measure => simp [intOf]; omega
    · obtain rfl : k = n := by omega
      have q0 : decide ((k : Int) < (k : Int)) = false := decide_eq_false (by omega)
      have CC := dcopy_at w1.heap.size wr B Ba l HDK.out
      clear hk hlt
      go_wp2_with fail
      refine CC.mono ?_
      rintro e w8 ⟨C, Ca, m, rfl, hd8, hs8, hb8⟩
      have HT8 := Lib.hid (Two.copied HDK.out HBK.out.size hd8 hb8)
      have HB8 := Lib.hid (HBK.out.trans (hb8.mono HBK.out.size))
      have HS8 := Lib.hid hs8
      clear CC hd8 hs8 hb8 q0 HSK
      have hrd8 : Rd w8 1 (.slice so o.data.length co) o.data.length (bV o.data) := by rw [HSL.out]; exact HDX.out _ HB8.out
      obtain ⟨c0, c1, c2, c3, c4, c5, c6⟩ := HBX.out _ HB8.out
      by_cases hr : refD (strip l) o = 0
      rotate_left
      · have CD := ddo_c _ w8 B Ba l HT8.out.a o HOK.out so co hrd8 _ _ _ _ (step_no hr)
        rw [HSL.out] at CD
        obtain ⟨z, hz⟩ : ∃ z, refD (strip l) o = z := ⟨_, rfl⟩
        rw [hz] at CD hr
        have q : (z != 0) = true := by simp [hr]
        have hfl := fldA
        clear hr hz hrd8
        go_wp2_with fail
        refine CD.mono ?_
        rintro e w9 ⟨sa, cp, l9, rfl, hd9, hs9, _, hc9⟩
        have HT9 := Lib.hid (HT8.out.step hd9 hc9)
        have HB9 := Lib.hid (HT8.out.a.own HB8.out hc9)
        have HS9 := Lib.hid hs9
        have CN := num14_b z w9
        clear CD hd9 hs9 hc9 c0 c1 c2 c3 c4 c5 c6
        go_wp2_with fail
        refine CN.mono ?_
        rintro e w10 ⟨rfl, hb10⟩
        have CS := dsame_in _ _ w10 B Ba C Ca l9 m (HT9.out.a.below hb10) (HT9.out.b.below hb10)
        rw [HS9.out, HS8.out, decide_eq_true rfl] at CS
        have HB10 := Lib.hid (HB9.out.trans (hb10.mono HB9.out.size))
        clear CN hb10
        go_wp2_with fail
        refine CS.mono ?_
        rintro e w11 ⟨rfl, hb11⟩
        have HB11 := Lib.hid (HB10.out.trans (hb11.mono HB10.out.size))
        clear CS hb11
        go_wp2_with fail
        go_ret
        exact ⟨rfl, HEND.out _ HB11.out⟩
      obtain ⟨v, hv, hrow, hpl, hdl, hstep⟩ := write_ok HK.out hr
      obtain ⟨a, ha⟩ : ∃ a : Nat, o.pl = (a : Int) := ⟨o.pl.toNat, by omega⟩
      obtain ⟨ct, hct⟩ : ∃ ct : Nat, o.data.length / 64 = ct := ⟨_, rfl⟩
      have ect : (o.data.length : Int) / 64 = (ct : Int) := by omega
      have hvok : v.Ok := HT8.out.a.ok.vol (o.vol, v) (getA_some hv)
      rw [ect, ha] at hstep hrow
      have HSEC : Hid (∀ s : Nat, sec (putM (a : Int) o.data v.m ((pSpansI (a : Int) (ct : Int)).take 1024)) s = if a ≤ s ∧ s < a + ct then (o.data.drop ((s - a) * 64)).take 64 else sec v.m s) := Lib.hid (fun s => sec_write (by omega) (by omega) (by omega) v.m hvok.blk s)
      obtain ⟨mw, hmw⟩ : ∃ mw, putM (a : Int) o.data v.m ((pSpansI (a : Int) (ct : Int)).take 1024) = mw := ⟨_, rfl⟩
      rw [hmw] at HSEC hstep
      have HA := Lib.hid ha
      have HCT := Lib.hid ect
      have HV := Lib.hid hv
      have HVOK := Lib.hid hvok
      have HROW := Lib.hid hrow
      have HDL := Lib.hid hdl
      have HVN : Hid (1 ≤ o.vol ∧ o.vol < 4294967296) := Lib.hid (HT8.out.a.ok.nat (o.vol, v) (getA_some hv))
      have CD := ddo_c _ w8 B Ba l HT8.out.a o HOK.out so co hrd8 _ _ _ _ hstep
      rw [HSL.out] at CD
      have hfl := fldA
      have HPL := Lib.hid hpl
      clear hr hv hrow hpl hdl hstep ha ect hct hvok hmw hrd8
      go_wp2_with fail
      refine CD.mono ?_
      rintro e w9 ⟨sa, cp, l9, rfl, hd9, hs9, _, hc9⟩
      have HT9 := Lib.hid (HT8.out.step hd9 hc9)
      have HB9 := Lib.hid (HT8.out.a.own HB8.out hc9)
      have HS9 := Lib.hid hs9
      have CN := num14_b 0 w9
      clear CD hd9 hs9 hc9 c0 c1 c2 c3 c4 c5 c6
      go_wp2_with fail
      refine CN.mono ?_
      rintro e w10 ⟨rfl, hb10⟩
      have HT10 := Lib.hid (HT9.out.below hb10)
      have HB10 := Lib.hid (HB9.out.trans (hb10.mono HB9.out.size))
      have HG9 : Hid (getA o.vol (strip l9) = some ⟨v.size, mw⟩) := Lib.hid (by rw [HS9.out, getA_put, if_pos rfl])
      obtain ⟨bv, hbv⟩ := get_strip HG9.out
      have CSZ := dsize_in _ w10 B Ba l9 HT10.out.a o.vol HOK.out.vol _ hbv
      dsimp only at CSZ
      obtain ⟨c0, c1, c2, c3, c4, c5, c6⟩ := HBX.out _ HB10.out
      clear CN hb10 hbv
      go_wp2_with fail
      refine CSZ.mono ?_
      rintro e w11 ⟨rfl, hb11⟩
      have HT11 := Lib.hid (HT10.out.below hb11)
      have HB11 := Lib.hid (HB10.out.trans (hb11.mono HB10.out.size))
      clear CSZ hb11 c0 c1 c2 c3 c4 c5 c6
      obtain ⟨c0, c1, c2, c3, c4, c5, c6⟩ := HBX.out _ HB11.out
      rw [← HSL.out] at c6
      go_wp2_with fail
      clear c0 c1 c2 c3 c4 c5 c6
      rw [HCT.out]
      have hv256 := HVOK.out.size
      have hwr4 : IntKind.i64.wrap (4 * (v.size : Int)) = 4 * (v.size : Int) := IntWalk.i64_in _ (by omega)
      go_loopw [13] (fun i wr => ∃ (s : Nat) (l2 m2 : List (Nat × (Vl × Nat))), s ≤ 4 * v.size ∧ i = .int .i64 (s : Int) ∧ Two w1.heap.size wr B Ba l2 C Ca m2 ∧ strip l2 = strip l9 ∧ strip m2 = strip l ∧ Below w1.heap.size w1 wr) (fun i _ => 4 * v.size - (intOf i).toNat)
      case atStart => exact ⟨0, l9, m, by omega, rfl, HT11.out, rfl, HS8.out, HB11.out⟩
      case round =>
        obtain ⟨s, l2, m2, hs, rfl, ht, hs1, hs2, hbk2⟩ := hrel
        have HT := Lib.hid ht
        have HSL2 := Lib.hid hs1
        have HSM2 := Lib.hid hs2
        have HBK2 := Lib.hid hbk2
        clear ht hs1 hs2 hbk2
        by_cases hlt2 : s < 4 * v.size
        rotate_left
        · obtain rfl : s = 4 * v.size := by omega
          have q3 : decide (((4 * v.size : Nat) : Int) < 4 * (v.size : Int)) = false := decide_eq_false (by omega)
          clear hs
          go_wp2_with fail
          clear q3
          go_loopw [18] (fun i wx => ∃ (k3 : Nat), k3 ≤ nm_ ∧ i = .int .i64 (k3 : Int) ∧ wr = wx ∧ ∀ (j : Nat) (y : Op0 × Value), j < k3 → M[j]? = some y → y.1.vol ≠ 4294967295 ∧ y.1.to ≠ 4294967295) (fun i _ => nm_ - (intOf i).toNat)
          case atStart => exact ⟨0, by omega, rfl, rfl, fun j y hj => absurd hj (Nat.not_lt_zero _)⟩
          case round =>
            obtain ⟨k3, hk3, rfl, rfl, hall3⟩ := hrel
            have HALL := Lib.hid hall3
            clear hall3
            by_cases hlt3 : k3 < nm_
            · have q0 : decide ((k3 : Int) < (nm_ : Int)) = true := decide_eq_true (by omega)
              obtain ⟨x, hx⟩ : ∃ x, M[k3]? = some x := ⟨_, List.getElem?_eq_getElem (by rw [HLM.out]; exact hlt3)⟩
              have HX := Lib.hid hx
              obtain ⟨b, off, rfl, _, ⟨c0, c1, c2, c3, c4, c5, c6⟩, _, _⟩ := (HMX.out _ HBK2.out).2.2.2.2 k3 x hx
              clear hx
              by_cases e1 : x.1.vol = 4294967295
              · have p1 : ((x.1.vol : Int) == 4294967295) = true := by simp [e1]
                clear e1
                go_wp2_with fail
                go_ret
                exact ⟨rfl, HEND.out _ HBK2.out⟩
              have p1 : ((x.1.vol : Int) == 4294967295) = false := by simp; omega
              by_cases e2 : x.1.to = 4294967295
              · have p2 : ((x.1.to : Int) == 4294967295) = true := by simp [e2]
                clear e1 e2
                go_wp2_with fail
                go_ret
                exact ⟨rfl, HEND.out _ HBK2.out⟩
              have p2 : ((x.1.to : Int) == 4294967295) = false := by simp; omega
              have HNE : Hid (x.1.vol ≠ 4294967295 ∧ x.1.to ≠ 4294967295) := Lib.hid ⟨e1, e2⟩
              clear e1 e2
              go_wp2_with fail
              go_round
              case rel =>
                refine ⟨k3 + 1, by omega, by go_num, by first | rfl | trivial, fun j y hj hy => ?_⟩
                rcases Nat.lt_succ_iff_lt_or_eq.1 hj with h1 | rfl
                · exact HALL.out j y h1 hy
                · rw [HX.out] at hy
                  obtain rfl := Option.some.inj hy
                  exact HNE.out
              case measure => simp [intOf]; omega
            obtain rfl : k3 = nm_ := by omega
            have q0 : decide ((k3 : Int) < (k3 : Int)) = false := decide_eq_false (by omega)
            have HG2 : Hid (getA o.vol (strip l2) = some ⟨v.size, mw⟩) := Lib.hid (by rw [HSL2.out]; exact HG9.out)
            cases hto : getA 4294967295 l2 with
            | some xt =>
              have CZ := dsize_in _ wr B Ba l2 HT.out.a 4294967295 (by omega) xt hto
              change Calls _ _ #[_, .int .u64 4294967295] _ _ at CZ
              clear hto hk3 hlt3
              go_wp2_with fail
              refine CZ.mono ?_
              rintro e w15 ⟨rfl, hb15⟩
              have HB15 := Lib.hid (HBK2.out.trans (hb15.mono HBK2.out.size))
              clear CZ hb15
              go_wp2_with fail
              go_ret
              exact ⟨rfl, HEND.out _ HB15.out⟩
            | none =>
            have CZ := dsize_out _ wr B Ba l2 HT.out.a 4294967295 (by omega) hto
            change Calls _ _ #[_, .int .u64 4294967295] _ _ at CZ
            have HTO : Hid (getA 4294967295 (strip l2) = none) := Lib.hid (strip_none hto)
            clear hto hk3 hlt3
            go_wp2_with fail
            refine CZ.mono ?_
            rintro e w15 ⟨rfl, hb15⟩
            have HT15 := Lib.hid (HT.out.below hb15)
            have HB15 := Lib.hid (HBK2.out.trans (hb15.mono HBK2.out.size))
            obtain ⟨c0, c1, c2, c3, c4, c5, c6⟩ := HBX.out _ HB15.out
            clear CZ hb15 q0
            by_cases e1 : o.vol = 4294967295
            · have p1 : ((o.vol : Int) == 4294967295) = true := by simp [e1]
              clear e1
              go_wp2_with fail
              go_ret
              exact ⟨rfl, HEND.out _ HB15.out⟩
            have p1 : ((o.vol : Int) == 4294967295) = false := by simp; omega
            have HE1 : Hid (4294967295 ≠ o.vol) := Lib.hid (fun e => e1 e.symm)
            clear e1
            have CSN := ddo_c _ w15 B Ba l2 HT15.out.a (snOp o.vol 4294967295) (ok_sn HVN.out.2 (by omega)) none 0 (rd_nil _) 0 0 [] _ (step_sn HG2.out HVN.out (by omega) HE1.out HTO.out)
            change Calls _ _ #[_, .agg #[.int .i64 4, .int .u64 (o.vol : Int), .int .u64 4294967295, .int .i64 0, .int .i64 0, .int .i64 0, .slice none 0 0]] _ _ at CSN
            go_wp2_with fail
            refine CSN.mono ?_
            rintro e w16 ⟨sa16, cp16, l16, rfl, hd16, hs16, _, hc16⟩
            dsimp only
            have HD16 := Lib.hid hd16
            have HB16 := Lib.hid (HT15.out.a.own HB15.out hc16)
            have HS16 := Lib.hid hs16
            have CN := num14_b 0 w16
            clear CSN hd16 hs16 hc16 c0 c1 c2 c3 c4 c5 c6 p1
            go_wp2_with fail
            refine CN.mono ?_
            rintro e w17 ⟨rfl, hb17⟩
            have HD17 := Lib.hid (HD16.out.below hb17)
            have HB17 := Lib.hid (HB16.out.trans (hb17.mono HB16.out.size))
            have CC := dcopy_at w1.heap.size w17 B Ba l16 HD17.out
            clear CN hb17
            go_wp2_with fail
            refine CC.mono ?_
            rintro e w18 ⟨E, Ea, m4, rfl, hd18, hs18, hb18⟩
            have HT18 := Lib.hid (Two.copied HD17.out HB17.out.size hd18 hb18)
            have HB18 := Lib.hid (HB17.out.trans (hb18.mono HB17.out.size))
            have HS18 := Lib.hid (hs18.trans HS16.out)
            have HGT : Hid (getA 4294967295 (strip l16) = some ⟨v.size, mw⟩) := Lib.hid (by rw [HS16.out, getA_put, if_pos rfl])
            have HGV : Hid (getA o.vol (strip m4) = some ⟨v.size, mw⟩) := Lib.hid (by rw [HS18.out, getA_put, if_neg (fun e => HE1.out e.symm)]; exact HG2.out)
            have HMOK : Hid ((⟨v.size, mw⟩ : Vl).Ok) := Lib.hid (HT18.out.b.ok.vol (o.vol, ⟨v.size, mw⟩) (getA_some HGV.out))
            clear CC hd18 hs18 hb18
            go_wp2_with fail
            go_loopw [22] (fun i wx => ∃ (k4 : Nat) (l4 : List (Nat × (Vl × Nat))), k4 ≤ k3 ∧ i = .int .i64 (k4 : Int) ∧ Two w1.heap.size wx B Ba l4 E Ea m4 ∧ getA 4294967295 (strip l4) = some ⟨v.size, mw⟩ ∧ Below w1.heap.size w1 wx) (fun i _ => k3 - (intOf i).toNat)
            case atStart => exact ⟨0, l16, by omega, rfl, HT18.out, HGT.out, HB18.out⟩
            case round =>
              obtain ⟨k4, l4, hk4, rfl, ht4, hg4, hbk4⟩ := hrel
              have HT4 := Lib.hid ht4
              have HG4 := Lib.hid hg4
              have HBK4 := Lib.hid hbk4
              clear ht4 hg4 hbk4
              by_cases hlt4 : k4 < k3
              · have q0 : decide ((k4 : Int) < (k3 : Int)) = true := decide_eq_true (by omega)
                obtain ⟨x, hx⟩ : ∃ x, M[k4]? = some x := ⟨_, List.getElem?_eq_getElem (by rw [HLM.out]; exact hlt4)⟩
                have HXN := Lib.hid (HALL.out k4 x hlt4 hx)
                obtain ⟨b, off, rfl, _, ⟨c0, c1, c2, c3, c4, c5, c6⟩, okx, hr⟩ := (HMX.out _ HBK4.out).2.2.2.2 k4 x hx
                have hr2 := hr
                obtain ⟨ax, cx, ex, _⟩ := hr
                rw [ex] at c6 hr2
                have CD := ddo_e _ _ B Ba l4 HT4.out.a x.1 okx ax cx hr2
                clear hx ex hr2 okx
                go_wp2_with fail
                refine CD.mono ?_
                rintro e w19 ⟨u19, l19, rfl, hd19, hs19, hc19⟩
                have HT19 := Lib.hid (HT4.out.step hd19 hc19)
                have HB19 := Lib.hid (HT4.out.a.own HBK4.out hc19)
                have HG19 : Hid (getA 4294967295 (strip l19) = some ⟨v.size, mw⟩) := Lib.hid (by rw [hs19, step_else HXN.out.1 HXN.out.2]; exact HG4.out)
                clear c0 c1 c2 c3 c4 c5 c6 CD hd19 hs19 hc19
                go_wp2_with fail
                go_round
                case rel => exact ⟨k4 + 1, l19, by omega, by go_num, HT19.out, HG19.out, HB19.out⟩
                case measure => simp [intOf]; omega
              obtain rfl : k4 = k3 := by omega
              have q0 : decide ((k4 : Int) < (k4 : Int)) = false := decide_eq_false (by omega)
              clear hk4 hlt4
              go_wp2_with fail
              clear q0
              have HZ : Hid (∀ (X : World) (c : List UInt8), c.length = 256 → (storeCells ⟨X.heap.size, 0, none⟩ (bV c)).run Try.prog (X.alloc (.cells Try.zeroCells42 42)) = .ok () (X.alloc (.cells (bV c).toArray 42))) := Lib.hid (fun X c hc => by
                have := run_storeNew (P := Try.prog) X 42 Try.zeroCells42 (bV c).toArray (by rw [zszM]; simp [bV_len, hc]) (by simpa using bV_one c)
                simpa using this)
              have HEQ : Hid (∀ (X : World) (c d : List UInt8), c.length = 256 → d.length = 256 → (Op.equalIn 10000 42 (.agg (bV c).toArray) (.agg (bV d).toArray)).run Try.prog X = .ok (c == d) X) := Lib.hid (fun X c d hc hd => run_equalIn_bytes (P := Try.prog) X (t := 42) (e := 5) (n := 256) Try.underlying42 Try.underlying5 rfl rfl 9998 c d hc hd)
              go_loopw [23] (fun i wx => ∃ (k5 : Nat), k5 ≤ v.size ∧ i = .int .i64 (k5 : Int) ∧ Two w1.heap.size wx B Ba l4 E Ea m4 ∧ Below w1.heap.size w1 wx) (fun i _ => v.size - (intOf i).toNat)
              case atStart => exact ⟨0, by omega, rfl, HT4.out, HBK4.out⟩
              case round =>
                obtain ⟨k5, hk5, rfl, ht5, hbk5⟩ := hrel
                have HT5 := Lib.hid ht5
                have HBK5 := Lib.hid hbk5
                clear ht5 hbk5
                by_cases hlt5 : k5 < v.size
                rotate_left
                · obtain rfl : k5 = v.size := by omega
                  have q0 : decide ((v.size : Int) < (v.size : Int)) = false := decide_eq_false (by omega)
                  have CCU := cuts_in w1 wr HBK5.out E Ea m4 HT5.out.b o.vol HVN.out ⟨v.size, mw⟩ HGV.out HMOK.out
                  dsimp only at CCU
                  obtain ⟨c0, c1, c2, c3, c4, c5, c6⟩ := HBX.out _ HBK5.out
                  clear hk5 hlt5
                  go_wp2_with fail
                  refine CCU.mono ?_
                  rintro e w30 ⟨rfl, hb30⟩
                  clear c0 c1 c2 c3 c4 c5 c6
                  go_wp2_with fail
                  go_ret
                  exact ⟨rfl, HEND.out _ hb30⟩
                have q0 : decide ((k5 : Int) < (v.size : Int)) = true := decide_eq_true (by omega)
                obtain ⟨bt, hbt⟩ := get_strip HG4.out
                obtain ⟨bu, hbu⟩ := get_strip HGV.out
                obtain ⟨c, hc⟩ : ∃ c, (getI (k5 : Int) mw).getD zeroB = c := ⟨_, rfl⟩
                obtain ⟨z, hz⟩ : ∃ z, (getI (k5 : Int) mw).isSome = z := ⟨_, rfl⟩
                have hcl : c.length = 256 := by rw [← hc, getI_nat]; exact blkAt_len HMOK.out.blk k5
                have CB1 := dblock_in _ wr B Ba l4 HT5.out.a 4294967295 (by omega) _ hbt (k5 : Int) (by omega)
                have CB2 : Hid (∀ X, Below wr.heap.size wr X → Calls Try.prog 13 #[.pointer (some ⟨E, 0, none⟩), .int .u64 (o.vol : Int), .int .i64 (k5 : Int)] X fun e w' => e = .returned (.tuple #[bA c, .bool z]) ∧ Below X.heap.size X w') := Lib.hid (fun X hX => by
                  have h := dblock_in _ X E Ea m4 (HT5.out.b.below hX) o.vol HOK.out.vol _ hbu (k5 : Int) (by omega)
                  dsimp only at h
                  rw [hc, hz] at h
                  exact h)
                dsimp only at CB1
                rw [hc, hz] at CB1
                change Calls _ _ #[_, .int .u64 4294967295, _] _ _ at CB1
                have HCL := Lib.hid hcl
                clear hbt hbu hc hz
                go_wp2_with fail
                refine CB1.mono ?_
                rintro e w20 ⟨rfl, hb20⟩
                unfold bA
                dsimp only
                have hst1 := HZ.out w20 c hcl
                have hcs : (bV c).toArray.size = 256 := by simp [bV_len, hcl]
                obtain ⟨w21, hw21⟩ : ∃ W, w20.alloc (.cells (bV c).toArray 42) = W := ⟨_, rfl⟩
                have hb21 : Below w20.heap.size w20 w21 := by rw [← hw21]; exact balloc (Below.refl _ _) _
                have hx21 : w21.heap[w20.heap.size]? = some (.cells (bV c).toArray 42 (0, 0)) := by rw [← hw21]; exact heap_alloc_new w20 _
                have HB2021 := Lib.hid (bthen hb20 hb21)
                have HB21 := Lib.hid (HBK5.out.trans ((bthen hb20 hb21).mono HBK5.out.size))
                have HX21 := Lib.hid hx21
                obtain ⟨c0, c1, c2, c3, c4, c5, c6⟩ := HBX.out _ HB21.out
                have CB2b := CB2.out w21 HB2021.out
                clear CB1 hb20 hb21 hx21
                go_wp2_with fail
                clear c0 c1 c2 c3 c4 c5 c6 hst1
                refine CB2b.mono ?_
                rintro e w22 ⟨rfl, hb22⟩
                unfold bA
                dsimp only
                have hst2 := HZ.out w22 c hcl
                obtain ⟨w23, hw23⟩ : ∃ W, w22.alloc (.cells (bV c).toArray 42) = W := ⟨_, rfl⟩
                have hb23 : Below w22.heap.size w22 w23 := by rw [← hw23]; exact balloc (Below.refl _ _) _
                have hx23 : w23.heap[w22.heap.size]? = some (.cells (bV c).toArray 42 (0, 0)) := by rw [← hw23]; exact heap_alloc_new w22 _
                have HB23 := Lib.hid (HB21.out.trans ((bthen hb22 hb23).mono HB21.out.size))
                have HT23 := Lib.hid (HT5.out.below (bthen HB2021.out (bthen hb22 hb23)))
                have HX23 := Lib.hid (And.intro (((bthen hb22 hb23).block _ (Array.getElem?_eq_some_iff.1 HX21.out).1).trans HX21.out) hx23)
                have hne := HEQ.out w23 c c hcl hcl
                rw [beq_self_eq_true] at hne
                have HI := Lib.hid (infoB hcl)
                have hzz : (z != z) = false := by simp
                clear CB2b hb22 hb23 hx23 hw21
                go_wp2_with (first
                  | (refine wpList_load_mid rfl 42 _ rfl w20.heap.size 0 rfl (bV c) _ (blkBox HX23.out.1) Try.underlying42 rfl HI.out ?_)
                  | (refine wpList_load_mid rfl 42 _ rfl w22.heap.size 0 rfl (bV c) _ (blkBox HX23.out.2) Try.underlying42 rfl HI.out ?_))
                go_round
                case rel => exact ⟨k5 + 1, by omega, by go_num, HT23.out, HB23.out⟩
                case measure => simp [intOf]; omega
        have q3 : decide ((s : Int) < 4 * (v.size : Int)) = true := decide_eq_true (by omega)
        have HS := Lib.hid hlt2
        obtain ⟨c0, c1, c2, c3, c4, c5, c6⟩ := HBX.out _ HBK2.out
        have hfl2 := fldA2
        go_wp2_with fail
        clear c0 c1 c2 c3 c4 c5 c6
        obtain ⟨w12, hw12⟩ : ∃ y, wr.alloc (.cells #[.int .i64 9, .int .u64 (o.vol : Int), .int .u64 0, .int .i64 0, .int .i64 (s : Int), .int .i64 1, .slice none 0 0] 27) = y := ⟨_, rfl⟩
        have hb12 : Below wr.heap.size wr w12 := by rw [← hw12]; exact balloc (Below.refl _ _) _
        have hx12 : w12.heap[wr.heap.size]? = some (.cells #[.int .i64 9, .int .u64 (o.vol : Int), .int .u64 0, .int .i64 0, .int .i64 (s : Int), .int .i64 1, .slice none 0 0] 27 (0, 0)) := by rw [← hw12]; exact heap_alloc_new wr _
        have HX12 := Lib.hid hx12
        have HT12 := Lib.hid (HT.out.below hb12)
        have HB12 := Lib.hid (HBK2.out.trans (hb12.mono HBK2.out.size))
        obtain ⟨g, hg⟩ : ∃ g, wr.heap.size = g := ⟨_, rfl⟩
        have HGN : Hid (g ∉ dF Ba l2 ∧ g ∉ dF Ca m2 ∧ g < w12.heap.size) := Lib.hid ⟨fun h => by have := HT.out.a.lt_all g h; omega, fun h => by have := HT.out.b.lt_all g h; omega, by rw [← hg]; exact (Array.getElem?_eq_some_iff.1 hx12).1⟩
        have HRST : Hid (stepD (strip l2) (rdOp o.vol (s : Int) 1) 1024 = (⟨0, 0, sec mw s⟩, strip l2)) := Lib.hid (by
          rw [HSL2.out]
          exact step_rd1 (v := ⟨v.size, mw⟩) HG9.out HVN.out hv256 HS.out)
        have HRSM : Hid (stepD (strip m2) (rdOp o.vol (s : Int) 1) 1024 = (⟨0, 0, sec v.m s⟩, strip m2)) := Lib.hid (by
          rw [HSM2.out]
          exact step_rd1 HV.out HVN.out hv256 HS.out)
        obtain ⟨x1, hx1⟩ : ∃ x, sec mw s = x := ⟨_, rfl⟩
        obtain ⟨x2, hx2⟩ : ∃ x, sec v.m s = x := ⟨_, rfl⟩
        have HXS : Hid (x1 = if a ≤ s ∧ s < a + ct then (o.data.drop ((s - a) * 64)).take 64 else x2) := Lib.hid (by rw [← hx1, ← hx2]; exact HSEC.out s)
        rw [hx1] at HRST
        rw [hx2] at HRSM
        have CR := ddo_c _ w12 B Ba l2 HT12.out.a (rdOp o.vol (s : Int) 1) (ok_rd HVN.out.2 (by omega) (by omega)) none 0 (rd_nil _) 0 0 x1 (strip l2) HRST.out
        change Calls _ _ #[_, .agg #[.int .i64 9, .int .u64 (o.vol : Int), .int .u64 0, .int .i64 0, .int .i64 (s : Int), .int .i64 1, .slice none 0 0]] _ _ at CR
        rw [hg] at HX12
        rw [hw12]
        (try rw [hg])
        clear hx12 hx1 hx2 hb12 hlt2 hw12 hg
        refine CR.mono ?_
        rintro e w13 ⟨sa13, cp13, l13, rfl, hd13, hs13, ho13, hc13⟩
        dsimp only
        have HT13 := Lib.hid (HT12.out.step hd13 hc13)
        have HB13 := Lib.hid (HT12.out.a.own HB12.out hc13)
        have HS13 := Lib.hid (hs13.trans HSL2.out)
        have HO13 := Lib.hid ho13
        have hx13 := (hc13.1.block g HGN.out.2.2 HGN.out.1).trans HX12.out
        have d0 := cellOf hx13 0 (v := .int .i64 9) rfl
        have d1 := cellOf hx13 1 (v := .int .u64 (o.vol : Int)) rfl
        have d2 := cellOf hx13 2 (v := .int .u64 0) rfl
        have d3 := cellOf hx13 3 (v := .int .i64 0) rfl
        have d4 := cellOf hx13 4 (v := .int .i64 (s : Int)) rfl
        have d5 := cellOf hx13 5 (v := .int .i64 1) rfl
        have d6 := cellOf hx13 6 (v := .slice none 0 0) rfl
        have CR2 := ddo_c _ w13 C Ca m2 HT13.out.b (rdOp o.vol (s : Int) 1) (ok_rd HVN.out.2 (by omega) (by omega)) none 0 (rd_nil _) 0 0 x2 (strip m2) HRSM.out
        change Calls _ _ #[_, .agg #[.int .i64 9, .int .u64 (o.vol : Int), .int .u64 0, .int .i64 0, .int .i64 (s : Int), .int .i64 1, .slice none 0 0]] _ _ at CR2
        have HSZ13 := Lib.hid hc13.1.size
        clear CR hd13 hs13 ho13 hc13 hx13
        go_wp2_with fail
        refine CR2.mono ?_
        rintro e w14 ⟨sa14, cp14, m14, rfl, hd14, hs14, ho14, hc14⟩
        dsimp only
        have HT14 := Lib.hid (HT13.out.step2 hd14 hc14)
        have HB14 := Lib.hid (HT13.out.b.own HB13.out hc14)
        have HS14 := Lib.hid (hs14.trans HSM2.out)
        have HO14 := Lib.hid (Rd.of_own ho14)
        have HO13b := Lib.hid (Rd.of_own (ownsRow_at HO13.out (fun k hk => hc14.1.block k (ownsRow_lt HO13.out k hk) (fun h => by
          have h1 := ownsRow_ge HO13.out k hk
          have h2 := HT12.out.b.lt_all k h
          omega))))
        clear CR2 hd14 hs14 ho14 hc14 d0 d1 d2 d3 d4 d5 d6
        obtain ⟨c0, c1, c2, c3, c4, c5, c6⟩ := HBX.out _ HB14.out
        have ha := HA.out
        have hpl := HPL.out
        have hdl := HDL.out
        have hctb : ct ≤ 32 ∧ o.data.length = 64 * ct := by have := HCT.out; omega
        have hwr1 : IntKind.i64.wrap (o.pl + (ct : Int)) = o.pl + (ct : Int) := IntWalk.i64_in _ (by omega)
        have hsb := HS.out
        have hcv1 := run_textD w14 _ _ x1 HO13b.out
        by_cases h1 : a ≤ s
        · have p1 : decide ((s : Int) ≥ o.pl) = true := decide_eq_true (by omega)
          have p1b : decide (o.pl ≤ (s : Int)) = true := decide_eq_true (by omega)
          by_cases h2 : s < a + ct
          · have p2 : decide ((s : Int) < o.pl + (ct : Int)) = true := decide_eq_true (by omega)
            have hx : x1 = (o.data.drop ((s - a) * 64)).take 64 := by rw [HXS.out, if_pos ⟨h1, h2⟩]
            have hrdo : Rd w14 1 (.slice so o.data.length co) o.data.length (bV o.data) := by rw [HSL.out]; exact HDX.out _ HB14.out
            rw [← HSL.out] at c6
            have hw1 : IntKind.i64.wrap ((s : Int) - o.pl) = (s : Int) - o.pl := IntWalk.i64_in _ (by omega)
            have hw2 : IntKind.i64.wrap (64 * ((s : Int) - o.pl)) = 64 * ((s : Int) - o.pl) := IntWalk.i64_in _ (by omega)
            have hw3 : IntKind.i64.wrap (64 * ((s : Int) - o.pl) + 64) = 64 * ((s : Int) - o.pl) + 64 := IntWalk.i64_in _ (by omega)
            have hco : o.data.length ≤ co := by
              obtain ⟨_, _, e, _, _, ⟨_, h, _⟩, _⟩ := hrdo
              cases e
              exact h
            obtain ⟨A, hAA⟩ : ∃ A, cutA so co ((s - a) * 64) 1 = A := ⟨_, rfl⟩
            obtain ⟨K2, hK2⟩ : ∃ K, co - (s - a) * 64 = K := ⟨_, rfl⟩
            have hcut : ∀ W, (Instr.slice 25 (.slice so o.data.length co) (some (.int .i64 (64 * ((s : Int) - o.pl)))) (some (.int .i64 (64 * ((s : Int) - o.pl) + 64))) none).run Try.prog W = .ok (.slice A 64 K2) W := fun W => by
              have h := run_cut W 25 so o.data.length co 1 undBytes szBytes (64 * ((s : Int) - o.pl)) (64 * ((s : Int) - o.pl) + 64) (by omega) (by omega) (by omega)
              rw [show (64 * ((s : Int) - o.pl)).toNat = (s - a) * 64 by omega, show (64 * ((s : Int) - o.pl) + 64).toNat - (s - a) * 64 = 64 by omega, hAA, hK2] at h
              exact h
            have hrdc : Rd w14 1 (.slice A 64 K2) 64 (bV x1) := by
              have h := hrdo.mid (l := (s - a) * 64) (k := (s - a) * 64 + 64) (by omega) (by omega)
              rw [show (s - a) * 64 + 64 - (s - a) * 64 = 64 by omega, hAA, hK2, ← hx] at h
              exact h
            have hcv2 := run_textD w14 _ _ x1 hrdc
            obtain ⟨SX, hSX⟩ : ∃ t, strB x1 = t := ⟨_, rfl⟩
            rw [hSX] at hcv1 hcv2
            have hneq : (SX.toList != SX.toList) = false := by simp
            clear hx hrdo hco hAA hK2 hrdc hSX h1 h2 hdl hctb hpl ha
            go_wp2_with fail
            go_round
            case rel => exact ⟨s + 1, l13, m14, by have := HS.out; omega, by go_num, HT14.out, HS13.out, HS14.out, HB14.out⟩
            case measure => have := HS.out; simp [intOf]; omega
          · have p2 : decide ((s : Int) < o.pl + (ct : Int)) = false := decide_eq_false (by omega)
            have hx : x1 = x2 := by rw [HXS.out, if_neg (fun h => h2 h.2)]
            have hcv2 := run_textD w14 _ _ x2 HO14.out
            obtain ⟨SX, hSX⟩ : ∃ t, strB x1 = t := ⟨_, rfl⟩
            rw [← hx, hSX] at hcv2
            rw [hSX] at hcv1
            rw [← hx]
            have hneq : (SX.toList != SX.toList) = false := by simp
            clear hx hSX h1 h2 hdl hctb hpl ha
            go_wp2_with fail
            go_round
            case rel => exact ⟨s + 1, l13, m14, by have := HS.out; omega, by go_num, HT14.out, HS13.out, HS14.out, HB14.out⟩
            case measure => have := HS.out; simp [intOf]; omega
        · have p1 : decide ((s : Int) ≥ o.pl) = false := decide_eq_false (by omega)
          have p1b : decide (o.pl ≤ (s : Int)) = false := decide_eq_false (by omega)
          have hx : x1 = x2 := by rw [HXS.out, if_neg (fun h => h1 h.1)]
          have hcv2 := run_textD w14 _ _ x2 HO14.out
          obtain ⟨SX, hSX⟩ : ∃ t, strB x1 = t := ⟨_, rfl⟩
          rw [← hx, hSX] at hcv2
          rw [hSX] at hcv1
          rw [← hx]
          have hneq : (SX.toList != SX.toList) = false := by simp
          clear hx hSX h1 hdl hctb hpl ha
          go_wp2_with fail
          go_round
          case rel => exact ⟨s + 1, l13, m14, by have := HS.out; omega, by go_num, HT14.out, HS13.out, HS14.out, HB14.out⟩
          case measure => have := HS.out; simp [intOf]; omega
end Go.Proofs.Ythkmihedkddnmaa
