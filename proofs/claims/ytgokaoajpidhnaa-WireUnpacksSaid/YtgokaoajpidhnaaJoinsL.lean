/- WireJoins, walked. -/
import Derived.Test.YtgokaoajpidhnaaJoin0
namespace Go.Proofs.Ytgokaoajpidhnaa
open Go.RowKit
set_option linter.unusedVariables false
set_option linter.unusedSimpArgs false
open Wire

theorem anys_of {w : World} {base : Nat} {v : Value} {l : List V} {xs : List Value} (ho : w.ownsRow base 20 1 v l.length xs) (hx : ∀ (j : Nat) (x : V), l[j]? = some x → ∃ u, xs[j]? = some u ∧ AnyV w u x) :
    ∃ ao cap, v = .slice ao l.length cap ∧ (ao = none → cap = 0) ∧ Anys w ao l.length cap l := by
  obtain ⟨ao, cap, rfl, _, _, ⟨hn, h1, h2⟩, hc⟩ := Rd.of_own ho
  refine ⟨ao, cap, rfl, hn, rfl, h1, h2, fun j x hj => ?_⟩
  obtain ⟨u, hu, ha⟩ := hx j x hj
  obtain ⟨b, off, e, hb, hce⟩ := hc j u hu
  exact ⟨b, off, u, e, hb, hce, ha⟩
theorem Outs.anys {w : World} {base : Nat} {v : Value} {l : List V} (h : Outs base w v l) : ∃ ao cap, v = .slice ao l.length cap ∧ (ao = none → cap = 0) ∧ Anys w ao l.length cap l := by
  obtain ⟨xs, ho, hx⟩ := h
  exact anys_of ho fun j x hj => by
    obtain ⟨u, h1, h2⟩ := hx j x hj
    exact ⟨u, h1, h2.any⟩
/-- The row's cells: each of one cell, and as many as the values. -/
theorem outs_one {w : World} {base : Nat} {v : Value} {l : List V} {xs : List Value} (ho : w.ownsRow base 20 1 v l.length xs) (hx : ∀ (j : Nat) (x : V), l[j]? = some x → ∃ u, xs[j]? = some u ∧ AnyO base w u x) : ∀ u ∈ xs, u.oneCell' = true := by
  intro u hu
  obtain ⟨j, hj⟩ := List.mem_iff_getElem?.1 hu
  have hl : xs.length = l.length := by have := ho.1; omega
  have hjl : j < l.length := by rw [← hl]; exact (List.getElem?_eq_some_iff.1 hj).1
  obtain ⟨z, h1, h2⟩ := hx j _ (List.getElem?_eq_getElem hjl)
  rw [hj] at h1
  obtain rfl := Option.some.inj h1
  obtain ⟨t, y, rfl⟩ := h2.iface
  rfl
theorem pw_app {P : Value → V → Prop} {l1 l2 : List V} {xs1 xs2 : List Value} (hl : xs1.length = l1.length) (h1 : ∀ (j : Nat) (x : V), l1[j]? = some x → ∃ u, xs1[j]? = some u ∧ P u x) (h2 : ∀ (j : Nat) (x : V), l2[j]? = some x → ∃ u, xs2[j]? = some u ∧ P u x) :
    ∀ (j : Nat) (x : V), (l1 ++ l2)[j]? = some x → ∃ u, (xs1 ++ xs2)[j]? = some u ∧ P u x := by
  intro j x hj
  rcases Nat.lt_or_ge j l1.length with h | h
  · rw [List.getElem?_append_left h] at hj
    obtain ⟨u, e, p⟩ := h1 j x hj
    exact ⟨u, by rw [List.getElem?_append_left (by omega)]; exact e, p⟩
  · rw [List.getElem?_append_right h] at hj
    obtain ⟨u, e, p⟩ := h2 _ x hj
    exact ⟨u, by rw [List.getElem?_append_right (by omega), hl]; exact e, p⟩

theorem chs_app (a c : ByteArray) : chs (a ++ c) = chs a ++ chs c := by simp [chs]

/-- Unpack, in one form. -/
theorem u_any (s : ByteArray) {w : World} {v : Value} {m : Nat} {bs : List UInt8} (hrd : Rd w 1 v m (bV bs)) (hm : m ≤ 100000000) (hs : s.size ≤ 1000000) :
    Calls Try.prog 58 #[.string s, v] w fun e w' => ∃ ao cap, e = .returned (.tuple #[.slice ao (uvals (chs s) bs).length cap, .int .i64 (ulen (chs s) bs : Int), .int .i64 (ucode (chs s) bs)]) ∧ Below w.heap.size w w' ∧ Outs w.heap.size w' (.slice ao (uvals (chs s) bs).length cap) (uvals (chs s) bs) := by
  refine (unpack_any s hrd hm hs).mono ?_
  rintro e w' ⟨hb, hP⟩
  unfold uvals ulen ucode
  by_cases hy : may (chs s) = true
  · rw [if_pos hy] at hP
    rw [if_pos hy, if_pos hy, if_pos hy]
    cases hu : unpack (chs s) bs with
    | none =>
      rw [hu] at hP
      obtain rfl := hP
      exact ⟨none, 0, rfl, hb, Outs.nil _ _⟩
    | some lk =>
      obtain ⟨l, k⟩ := lk
      rw [hu] at hP
      obtain ⟨v', rfl, ho⟩ := hP
      obtain ⟨ao, cap, rfl, _⟩ := ho.anys
      exact ⟨ao, cap, rfl, hb, ho⟩
  · rw [if_neg hy] at hP
    rw [if_neg hy, if_neg hy, if_neg hy]
    obtain rfl := hP
    exact ⟨none, 0, rfl, hb, Outs.nil _ _⟩

set_option maxRecDepth 100000 in
set_option maxHeartbeats 6400000 in
theorem wireJoins_walk (a c : ByteArray) (v : Value) (n : Nat) (bs : List UInt8) (w : World) (hrd : Rd w 1 v n (bV bs)) :
    Calls Try.prog 13 #[.string a, .string c, v] w fun e w' => e = .returned (.bool true) ∧ Below w.heap.size w w' := by
  have hlen : bs.length = n := by obtain ⟨_, _, _, hl, _⟩ := hrd; simpa [bV] using hl
  have HLN := Lib.hid hlen
  have HRD := Lib.hid hrd
  obtain ⟨ao, cap, rfl, _, _, ⟨_, hc1, hc2⟩, _⟩ := hrd
  clear hlen
  have CK := fun W => known1_any W
  by_cases hbig4217 : 20 < a.size
  · go_enter Try.func13, Try.ntmps13
    go_wp2_with fail
    refine (CK w).mono ?_
    rintro e w1 ⟨rfl, hb⟩
    have HB1 := Lib.hid hb
    clear hb CK
    go_wp2_with fail
    go_ret
    exact ⟨rfl, HB1.out⟩
  by_cases hbig4435 : 20 < c.size
  · go_enter Try.func13, Try.ntmps13
    go_wp2_with fail
    refine (CK w).mono ?_
    rintro e w1 ⟨rfl, hb⟩
    have HB1 := Lib.hid hb
    clear hb CK
    go_wp2_with fail
    go_ret
    exact ⟨rfl, HB1.out⟩
  by_cases hbig4650 : 3000 < n
  · go_enter Try.func13, Try.ntmps13
    go_wp2_with fail
    refine (CK w).mono ?_
    rintro e w1 ⟨rfl, hb⟩
    have HB1 := Lib.hid hb
    clear hb CK
    go_wp2_with fail
    go_ret
    exact ⟨rfl, HB1.out⟩
  have CN := fun n W => num1_any n W
  have CU1 := u_any a HRD.out (by omega) (by omega)
  have CU12 := fun (W : World) (hb : Below w.heap.size w W) => u_any (a ++ c) (HRD.out.below hb) (by omega) (by rw [ByteArray.size_append]; omega)
  rw [chs_app] at CU12
  have HU2 : Hid (∀ (W : World) (hb : Below w.heap.size w W), _) := Lib.hid fun (W : World) (hb : Below w.heap.size w W) => u_any c (((HRD.out.below hb).mid (show ulen (chs a) bs ≤ n by rw [← HLN.out]; exact ulen_le _ _) (Nat.le_refl n))) (by omega) (by omega)
  have hdt : (bs.drop (ulen (chs a) bs)).take (n - ulen (chs a) bs) = bs.drop (ulen (chs a) bs) := List.take_of_length_le (by rw [List.length_drop, HLN.out]; exact Nat.le_refl _)
  rw [hdt] at HU2
  have HC12 := Lib.hid CU12
  have hk1 : ulen (chs a) bs ≤ n := by rw [← HLN.out]; exact ulen_le _ _
  have hl1 := (uvals_blen (chs a) bs).2
  have hl2 := (uvals_blen (chs c) (bs.drop (ulen (chs a) bs))).2
  rw [chs_len] at hl1 hl2
  clear CU12 hdt
  by_cases h1 : ucode (chs a) bs ≠ 0
  · have hj := join_first (c := chs c) h1
    have g1 : (ucode (chs a) bs == 0) = false := by simpa using h1
    have g2 : (ucode (chs a ++ chs c) bs == 0) = false := by simpa using hj
    go_enter Try.func13, Try.ntmps13
    go_wp2_with fail
    refine CU1.mono ?_
    rintro e w1 ⟨ao1, cap1, rfl, hb1, ho1⟩
    have HB1 := Lib.hid hb1
    have HO1 := Lib.hid ho1
    have CU12 := HC12.out w1 hb1
    clear hb1 ho1 CU1
    go_wp2_with fail
    refine CU12.mono ?_
    rintro e w2 ⟨ao2, cap2, rfl, hb2, ho2⟩
    have HB2 := Lib.hid (bthen HB1.out hb2)
    have HB12 := Lib.hid hb2
    have HO2 := Lib.hid ho2
    clear hb2 ho2 CU12
    go_wp2_with fail
    refine (CN _ w2).mono ?_
    rintro e w3 ⟨rfl, rfl⟩
    go_wp2_with fail
    refine (CN _ w2).mono ?_
    rintro e w3 ⟨rfl, rfl⟩
    go_wp2_with fail
    refine (CK w2).mono ?_
    rintro e w4 ⟨rfl, hb⟩
    have HB4 := Lib.hid (bthen HB2.out hb)
    clear hb
    go_wp2_with fail
    go_ret
    exact ⟨congrArg (fun b => Ending.returned (.bool b)) (show (ucode (chs a ++ chs c) bs != 0) = true by simpa using hj), HB4.out⟩
  have h1' : ucode (chs a) bs = 0 := Decidable.not_not.1 h1
  have hcut := fun W => run_cutL (P := Try.prog) W 36 ao n cap 1 undBytes szBytes (ulen (chs a) bs : Int) (by omega) (by omega)
  simp only [Int.toNat_natCast] at hcut
  have HU2' := HU2.out
  rw [h1'] at CU1
  clear h1
  by_cases h2 : ucode (chs c) (bs.drop (ulen (chs a) bs)) ≠ 0
  · have hj := join_second (c := chs c) h1' h2
    have g2 : (ucode (chs c) (bs.drop (ulen (chs a) bs)) == 0) = false := by simpa using h2
    rw [hj] at HC12
    go_enter Try.func13, Try.ntmps13
    go_wp2_with fail
    refine CU1.mono ?_
    rintro e w1 ⟨ao1, cap1, rfl, hb1, ho1⟩
    have HB1 := Lib.hid hb1
    have HO1 := Lib.hid ho1
    have CU12 := HC12.out w1 hb1
    clear hb1 ho1 CU1
    go_wp2_with fail
    refine CU12.mono ?_
    rintro e w2 ⟨ao2, cap2, rfl, hb2, ho2⟩
    have HB2 := Lib.hid (bthen HB1.out hb2)
    have HB12 := Lib.hid hb2
    have HO2 := Lib.hid ho2
    clear hb2 ho2 CU12
    go_wp2_with fail
    refine (CN _ w2).mono ?_
    rintro e w3 ⟨rfl, rfl⟩
    go_wp2_with fail
    refine (HU2.out w2 HB2.out).mono ?_
    rintro e w3 ⟨ao3, cap3, rfl, hb3, ho3⟩
    have HB3 := Lib.hid (bthen HB2.out hb3)
    clear hb3 ho3
    go_wp2_with fail
    refine (CN _ w3).mono ?_
    rintro e w4 ⟨rfl, rfl⟩
    go_wp2_with fail
    refine (CN _ w3).mono ?_
    rintro e w4 ⟨rfl, rfl⟩
    go_wp2_with fail
    refine (CN _ w3).mono ?_
    rintro e w4 ⟨rfl, rfl⟩
    go_wp2_with fail
    refine (CK w3).mono ?_
    rintro e w4 ⟨rfl, hb⟩
    have HB4 := Lib.hid (bthen HB3.out hb)
    clear hb
    go_wp2_with fail
    go_ret
    exact ⟨rfl, HB4.out⟩
  have h2' : ucode (chs c) (bs.drop (ulen (chs a) bs)) = 0 := Decidable.not_not.1 h2
  obtain ⟨j0, jk, jl⟩ := join_both (c := chs c) h1' h2'
  have hpk := upack j0
  rw [jl] at hpk
  have HPK := Lib.hid hpk
  have hvl : ∀ x ∈ uvals (chs a) bs ++ uvals (chs c) (bs.drop (ulen (chs a) bs)), x.b.length ≤ 3000 := by
    intro x hx
    rw [← jl] at hx
    have := (uvals_blen (chs a ++ chs c) bs).1 x hx
    rw [HLN.out] at this
    omega
  have HVL := Lib.hid hvl
  have hk2 : ulen (chs c) (bs.drop (ulen (chs a) bs)) ≤ n := by
    have := ulen_le (chs c) (bs.drop (ulen (chs a) bs))
    rw [List.length_drop, HLN.out] at this
    omega
  rw [j0, jk, jl] at HC12
  rw [h2'] at HU2
  clear h2 h1' h2' j0 jk jl hpk hvl HU2'
  generalize ulen (chs c) (bs.drop (ulen (chs a) bs)) = k2 at *
  generalize uvals (chs c) (bs.drop (ulen (chs a) bs)) = l2 at *
  generalize ulen (chs a) bs = k1 at *
  generalize uvals (chs a) bs = l1 at *
  generalize List.take _ bs = ps at HPK
  have hla : (l1 ++ l2).length = l1.length + l2.length := List.length_append
  rw [hla] at HC12
  go_enter Try.func13, Try.ntmps13
  go_wp2_with fail
  refine CU1.mono ?_
  rintro e w1 ⟨ao1, cap1, rfl, hb1, ho1⟩
  have HB1 := Lib.hid hb1
  have HO1 := Lib.hid ho1
  have CU12 := HC12.out w1 hb1
  clear hb1 ho1 CU1
  go_wp2_with fail
  refine CU12.mono ?_
  rintro e w2 ⟨ao2, cap2, rfl, hb2, ho2⟩
  have HB2 := Lib.hid (bthen HB1.out hb2)
  have HB12 := Lib.hid hb2
  have HO2 := Lib.hid ho2
  clear hb2 ho2 CU12
  go_wp2_with fail
  refine (CN _ w2).mono ?_
  rintro e w3 ⟨rfl, rfl⟩
  go_wp2_with fail
  refine (HU2.out w2 HB2.out).mono ?_
  rintro e w3 ⟨ao3, cap3, rfl, hb3, ho3⟩
  have HB3 := Lib.hid (bthen HB2.out hb3)
  have HB13 := Lib.hid (HB12.out.trans (hb3.mono HB12.out.size))
  have HB23 := Lib.hid hb3
  have HO3 := Lib.hid ho3
  clear hb3 ho3
  go_wp2_with fail
  refine (CN _ w3).mono ?_
  rintro e w4 ⟨rfl, rfl⟩
  go_wp2_with fail
  refine (CN _ w3).mono ?_
  rintro e w4 ⟨rfl, rfl⟩
  obtain ⟨xs1, hx1, hp1⟩ := HO1.out.below HB13.out
  obtain ⟨xs3, hx3, hp3⟩ := HO3.out
  have hone1 := outs_one hx1 hp1
  have hone3 := outs_one hx3 hp3
  have hrx1 := Rd.of_own hx1
  have hrx3 := Rd.of_own hx3
  have HX3 := Lib.hid hrx3
  have HP1 := Lib.hid hp1
  have HP3 := Lib.hid hp3
  have HL1 : Hid (xs1.length = l1.length) := Lib.hid (by have := hx1.1; omega)
  have hbK : w3.heap.size ≤ w3.heap.size := Nat.le_refl _
  have hnil : w3.ownsRow w3.heap.size 20 1 (.slice none 0 0) 0 [] := World.ownsRow_nil _ _ _ _
  have HO1' := Lib.hid hone1
  have HO3' := Lib.hid hone3
  have HX1 := Lib.hid hrx1
  have HNL := Lib.hid hnil
  clear hp1 hp3 hx1 hx3 hone1 hone3 hrx1 hrx3 hbK hnil hla
  go_wp2_with (at_builtin; go_must (first
    | (refine wpList_apps rfl _ _ 81 rfl w3.heap.size 20 _ 1 16 Try.underlying81 infoAny rfl (by decide) (by decide) _ (0 + l1.length) ([] ++ xs1) rfl (by assumption) _ l2.length xs3 rfl (HX3.out.below (by assumption)) HO3'.out (by omega) (Below.size (by assumption)) ?_; intro v5 w5 ho5 hb5 hg5 hs5 hn5; have hb35 := hb4.trans hb5; have HB35 := Lib.hid hb35; obtain ⟨ao5, cap5, rfl, hn5', ha5⟩ := anys_of (l := l1 ++ l2) (by rw [List.length_append]; simpa using ho5) (pw_app HL1.out (fun j x hj => by obtain ⟨u, e, p⟩ := HP1.out j x hj; exact ⟨u, e, (p.below hb35).any⟩) (fun j x hj => by obtain ⟨u, e, p⟩ := HP3.out j x hj; exact ⟨u, e, (p.below hb35).any⟩)); have HA5 : Hid (Anys w5 ao5 (l1.length + l2.length) cap5 (l1 ++ l2)) := Lib.hid (by rw [← List.length_append]; exact ha5); have HN5 := Lib.hid hn5'; clear ho5 hb5 hg5 hs5 hn5 ho4 hb4 hg4 hs4 hn4 hn5' ha5 hb35)
    | (refine wpList_apps rfl _ _ 81 rfl w3.heap.size 20 _ 1 16 Try.underlying81 infoAny rfl (by decide) (by decide) _ 0 [] rfl HNL.out _ l1.length xs1 rfl HX1.out HO1'.out (by omega) (Nat.le_refl _) ?_; intro v4 w4 ho4 hb4 hg4 hs4 hn4)))
  refine (pack_any (a ++ c) HA5.out 3000 HVL.out (by omega) (by rw [ByteArray.size_append]; omega) HN5.out).mono ?_
  intro e w6 hP
  rw [chs_app, HPK.out] at hP
  obtain ⟨hb6, v6, rfl, ho6⟩ := hP
  have HR6 := Lib.hid (Rd.of_own ho6)
  have HB36 := Lib.hid (HB35.out.trans (hb6.mono HB35.out.size))
  have HB6 := Lib.hid (bthen HB3.out HB36.out)
  have HB26 := Lib.hid (HB23.out.trans (HB36.out.mono HB23.out.size))
  obtain ⟨ao7, cap7, he7, hn7, ha7⟩ := HO2.out.anys
  obtain ⟨e71, e72, e73⟩ := Value.slice.inj he7
  subst e71 e73
  clear e72
  have hap := ha7.below HB26.out
  rw [List.length_append] at hap
  have HA7 := Lib.hid hap
  have HN7 := Lib.hid hn7
  clear he7 hn7 ha7 hap hb6 ho6
  dsimp only
  go_wp2_with fail
  refine (pack_any (a ++ c) HA7.out 3000 HVL.out (by omega) (by rw [ByteArray.size_append]; omega) HN7.out).mono ?_
  intro e w7 hP
  rw [chs_app, HPK.out] at hP
  obtain ⟨hb7, v7, rfl, ho7⟩ := hP
  have htx6 := run_text w7 v6 _ ps (HR6.out.below hb7)
  have htx7 := run_text w7 v7 _ ps (Rd.of_own ho7)
  have HB7 := Lib.hid (bthen HB6.out hb7)
  generalize strB ps = S at htx6 htx7
  clear hb7 ho7
  dsimp only
  go_wp2_with fail
  refine (CN _ w7).mono ?_
  rintro e w8 ⟨rfl, rfl⟩
  go_wp2_with fail
  refine (CN _ w7).mono ?_
  rintro e w8 ⟨rfl, rfl⟩
  go_wp2_with fail
  refine (CK w7).mono ?_
  rintro e w8 ⟨rfl, hb⟩
  have HB8 := Lib.hid (bthen HB7.out hb)
  clear hb
  go_wp2_with fail
  go_ret
  exact ⟨rfl, HB8.out⟩
end Go.Proofs.Ytgokaoajpidhnaa
