/- WireMeans, walked. -/
import Derived.Deep.DeepCutAuto
import Derived.Test.YtgokaoajpidhnaaJoinsL
import Derived.Test.YtgokaoajpidhnaaAre
namespace Go.Proofs.Ytgokaoajpidhnaa
open Go.RowKit
set_option linter.unusedVariables false
set_option linter.unusedSimpArgs false
open Wire

theorem RVs.xlen {w : World} {ao : Option Addr} {n cap : Nat} {l : List V} (h : RVs w ao n cap l) : ∀ v ∈ l, v.x.length = 256 := by
  intro v hv
  obtain ⟨j, hj⟩ := List.mem_iff_getElem?.1 hv
  exact (h.2.2.2.2 j v hj).1.x

theorem ucode_short {s : List UInt8} {l : List V} {bs : List UInt8} (hx : ∀ v ∈ l, v.x.length = 256) (h : pack s l = some bs) {m : Nat} (hm : m < bs.length) : ucode s (bs.take m) = 4 := by
  unfold ucode
  rw [if_pos (unpack_pack s l bs hx h []).1, unpack_short s l bs hx h m hm]
  rfl

set_option maxRecDepth 100000 in
set_option maxHeartbeats 12800000 in
theorem wireMeans_walk (s : ByteArray) (ao : Option Addr) (n cap : Nat) (l : List V) (rv bv : Value) (nr nb : Nat) (rs bs : List UInt8) (w : World) (hv : RVs w ao n cap l) (hr : Rd w 1 rv nr (bV rs)) (hb : Rd w 1 bv nb (bV bs)) :
    Calls Try.prog 12 #[.string s, .slice ao n cap, rv, bv] w fun e w' => e = .returned (.bool true) ∧ Below w.heap.size w w' := by
  have hrl : rs.length = nr := by obtain ⟨_, _, _, hl, _⟩ := hr; simpa [bV] using hl
  have hbl : bs.length = nb := by obtain ⟨_, _, _, hl, _⟩ := hb; simpa [bV] using hl
  have HRL := Lib.hid hrl
  have HBL := Lib.hid hbl
  have HV := Lib.hid hv
  have HR := Lib.hid hr
  have HB := Lib.hid hb
  have CK := fun W => known1_any W
  have CN := fun n W => num1_any n W
  obtain ⟨aor, capr, rfl, _, _, ⟨_, hr1, hr2⟩, _⟩ := hr
  obtain ⟨aob, capb, rfl, _, _, ⟨_, hb1, hb2⟩, _⟩ := hb
  clear hrl hbl hv
  go_enter Try.func12, Try.ntmps12
  go_wp2_with fail
  refine (CK w).mono ?_
  rintro e w1 ⟨rfl, hbb⟩
  have HB1 := Lib.hid hbb
  have CM := much_any s ao n cap l w1 (HV.out.below hbb)
  clear hbb CK
  go_wp2_with fail
  refine CM.mono ?_
  rintro e w2 ⟨⟨y, rfl, hy⟩, rfl⟩
  clear CM
  cases y with
  | true =>
    clear hy
    go_wp2_with fail
    go_ret
    exact ⟨rfl, HB1.out⟩
  | false =>
  obtain ⟨hs40, hn40, hl3⟩ := hy rfl
  have HL3 := Lib.hid hl3
  clear hl3 hy
  by_cases hr3 : 3000 < nr
  · go_wp2_with fail
    go_ret
    exact ⟨rfl, HB1.out⟩
  by_cases hb3 : 3000 < nb
  · go_wp2_with fail
    go_ret
    exact ⟨rfl, HB1.out⟩
  have CA := all_any ao n cap l w1 (HV.out.below HB1.out) hn40 HL3.out
  go_wp2_with fail
  refine CA.mono ?_
  rintro e w3 ⟨v3, rfl, ho3, hb3'⟩
  have HB13 := Lib.hid (bthen HB1.out hb3')
  obtain ⟨ao3, cap3, rfl, hn3, ha3⟩ := ho3.anys
  have hll : l.length = n := HV.out.1
  rw [hll] at ha3
  have CP := p_any s ha3 3000 HL3.out (by omega) (by omega) hn3
  have hrw : (Value.slice ao3 l.length cap3) = .slice ao3 n cap3 := by rw [hll]
  rw [hrw]
  obtain ⟨pc, hpc⟩ : ∃ x, pcode (chs s) l = x := ⟨_, rfl⟩
  rw [hpc] at CP
  have HPC := Lib.hid hpc
  clear CA ho3 hb3' hn3 ha3 hll hrw hpc
  go_wp2_with fail
  refine CP.mono ?_
  rintro e w4 ⟨ao4, k, cap4, rfl, hb4, hbs4⟩
  have HB4 := Lib.hid (bthen HB13.out hb4)
  have HBS := Lib.hid hbs4
  have hz34 := hb4.size
  clear CP hb4 hbs4
  go_wp2_with fail
  refine (CN _ w4).mono ?_
  rintro e w5 ⟨rfl, rfl⟩
  go_upto_if 46 with (fail)
  go_cut [] (fun wx => Below w.heap.size w wx)
  case first =>
    cases hp : pack (chs s) l with
    | none =>
      have hpc : pc = 2 := by rw [← HPC.out]; exact pcode_none hp
      subst hpc
      go_wp2_with fail
      go_meet
      exact HB4.out
    | some ps =>
      have hpc : pc = 0 := by rw [← HPC.out]; exact pcode_some hp
      subst hpc
      obtain ⟨hkl, ho4⟩ := HBS.out ps hp
      have hx4 := Rd.of_own ho4
      have HX := Lib.hid hx4
      have hkc : k ≤ cap4 ∧ cap4 ≤ 9223372036854775807 := by
        obtain ⟨a1, c1, e1, _, _, ⟨_, q1, q2⟩, _⟩ := hx4
        obtain ⟨_, _, rfl⟩ := Value.slice.inj e1
        unfold maxLen at q2
        exact ⟨q1, q2⟩
      have hk9 : k ≤ 130400 := by
        have := pack_len (chs s) l ps 3000 (fun v hv => ⟨HV.out.xlen v hv, HL3.out v hv⟩) hp
        rw [chs_len] at this
        have h2 : s.size * (3000 + 260) ≤ 40 * 3260 := Nat.mul_le_mul_right _ hs40
        omega
      obtain ⟨hmy, l', hun, hsv⟩ := unpack_pack (chs s) l ps HV.out.xlen hp rs
      obtain ⟨u1, u2, u3⟩ := ucode_of hmy hun
      have HKL := Lib.hid hkl
      have hll : l'.length = n := by rw [hsv.1]; exact HV.out.1
      have CU : Hid (∀ W v, Rd W 1 v (k + nr) (bV (ps ++ rs)) → Calls Try.prog 58 #[.string s, v] W fun e w' => ∃ ao cap, e = .returned (.tuple #[.slice ao n cap, .int .i64 (k : Int), .int .i64 0]) ∧ Below W.heap.size W w' ∧ Outs W.heap.size w' (.slice ao n cap) l') := Lib.hid (fun W v hrd => by
        have := u_any s hrd (by omega) (by omega)
        rw [u1, u2, u3, ← hkl, hll] at this
        exact this)
      have CS : Hid (∀ W v m, m < k → Rd W 1 v m (bV (ps.take m)) → Calls Try.prog 58 #[.string s, v] W fun e w' => ∃ v' j, e = .returned (.tuple #[v', .int .i64 j, .int .i64 4]) ∧ Below W.heap.size W w') := Lib.hid (fun W v m hm hrd => by
        refine (u_any s hrd (by omega) (by omega)).mono ?_
        rintro e w' ⟨a1, c1, rfl, hb, _⟩
        rw [ucode_short HV.out.xlen hp (by omega)]
        exact ⟨_, _, rfl, hb⟩)
      have hnil : w4.ownsRow w4.heap.size 5 1 (.slice none 0 0) 0 [] := World.ownsRow_nil _ _ _ _
      have HNL := Lib.hid hnil
      have HSV := Lib.hid hsv
      have HLL := Lib.hid hll
      have HO4 := Lib.hid ho4
      have HRR := Lib.hid (HR.out.below HB4.out)
      clear hp hkl ho4 hx4 hmy hun hsv u1 u2 u3 hnil hll
      have hkk : ((k : Int) != (k : Int)) = false := by simp
      have hnn : ((n : Int) != (n : Int)) = false := by simp
      go_wp2_with (at_builtin; go_must (first
        | (refine wpList_apps rfl _ _ 36 rfl w4.heap.size 5 _ 1 1 Try.underlying36 infoByte rfl (by decide) (by decide) _ (0 + k) ([] ++ bV ps) rfl (by assumption) _ nr (bV rs) rfl (HRR.out.below (by assumption)) (bV_one _) (by omega) (Below.size (by assumption)) ?_; intro v6 w6 ho6 hb6 hg6 hs6 hn6; have hb46 := hb5.trans hb6; have HB46 := Lib.hid hb46; have hr6 : Rd w6 1 v6 (k + nr) (bV (ps ++ rs)) := (by have := Rd.of_own ho6; rw [Nat.zero_add, List.nil_append, ← bV_app] at this; exact this); have HR6 := Lib.hid hr6; clear ho5 hb5 hg5 hs5 hn5 ho6 hb6 hg6 hs6 hn6 hr6 hb46)
        | (refine wpList_apps rfl _ _ 36 rfl w4.heap.size 5 _ 1 1 Try.underlying36 infoByte rfl (by decide) (by decide) _ 0 [] rfl HNL.out _ k (bV ps) rfl HX.out (bV_one _) (by omega) (Nat.le_refl _) ?_; intro v5 w5 ho5 hb5 hg5 hs5 hn5)))
      refine (CU.out _ _ HR6.out).mono ?_
      rintro e w7 ⟨ao7, cap7, rfl, hb7, ho7⟩
      have HB47 := Lib.hid (HB46.out.trans (hb7.mono HB46.out.size))
      obtain ⟨ao8, cap8, he8, _, ha8⟩ := ho7.anys
      rw [HLL.out] at he8 ha8
      obtain ⟨e81, e82, e83⟩ := Value.slice.inj he8
      subst e81 e83
      clear e82
      have CAR := are_true ao7 n cap7 l' ao n cap l w7 ha8 (HV.out.below (bthen HB4.out HB47.out)) HSV.out
      clear hb7 ho7 ha8 he8
      go_wp2_with fail
      refine (CN _ w7).mono ?_
      rintro e w8 ⟨rfl, rfl⟩
      go_wp2_with fail
      refine CAR.mono ?_
      rintro e w8 ⟨rfl, hb8⟩
      have HB8 := Lib.hid (HB47.out.trans (hb8.mono HB47.out.size))
      clear hb8 CAR hkk hnn
      by_cases hk0 : k = 0
      · subst hk0
        go_wp2_with fail
        go_meet
        exact bthen HB4.out HB8.out
      · have hk1 : 1 ≤ k := by omega
        have hcut := fun W => run_cutH (P := Try.prog) W 36 ao4 k cap4 1 undBytes szBytes ((k : Int) - 1) (by omega) (by omega)
        rw [show ((k : Int) - 1).toNat = k - 1 by omega] at hcut
        have CSS := CS.out w8 _ (k - 1) (by omega) ((HX.out.below HB8.out).head (by omega))
        clear hk0
        go_wp2_with fail
        refine CSS.mono ?_
        rintro e w9 ⟨v9, j9, rfl, hb9⟩
        have HB9 := Lib.hid (HB8.out.trans (hb9.mono HB8.out.size))
        clear hb9 CSS hcut
        go_wp2_with fail
        refine (CN _ w9).mono ?_
        rintro e w10 ⟨rfl, rfl⟩
        go_wp2_with fail
        go_meet
        exact bthen HB4.out HB9.out
  case rest =>
    have HX := Lib.hid hcut
    obtain ⟨c, hc⟩ : ∃ c, ucode (chs s) bs = c := ⟨_, rfl⟩
    have CU := u_any s (HB.out.below hcut) (by omega) (by omega)
    rw [hc] at CU
    have HC := Lib.hid hc
    clear hcut hc
    by_cases h0 : c = 0
    · subst h0
      have hpk := upack HC.out
      have hvl : ∀ x ∈ uvals (chs s) bs, x.b.length ≤ 3000 := by
        intro x hx
        have := (uvals_blen (chs s) bs).1 x hx
        rw [HBL.out] at this
        omega
      have hk1 : ulen (chs s) bs ≤ nb := by rw [← HBL.out]; exact ulen_le _ _
      have HPK := Lib.hid hpk
      have HVL := Lib.hid hvl
      clear hpk hvl
      generalize ulen (chs s) bs = k1 at *
      generalize uvals (chs s) bs = l1 at *
      have hcut := fun W => run_cutH (P := Try.prog) W 36 aob nb capb 1 undBytes szBytes (k1 : Int) (by omega) (by omega)
      simp only [Int.toNat_natCast] at hcut
      go_wp2_with fail
      refine CU.mono ?_
      rintro e w5 ⟨ao5, cap5, rfl, hb5, ho5⟩
      have HB5 := Lib.hid (bthen HX.out hb5)
      obtain ⟨ao6, cap6, he6, hn6, ha6⟩ := ho5.anys
      obtain ⟨e61, e62, e63⟩ := Value.slice.inj he6
      subst e61 e63
      clear e62
      have CP := pack_any s ha6 3000 HVL.out (by omega) (by omega) hn6
      clear hb5 ho5 ha6 hn6 he6 CU
      go_wp2_with fail
      refine (CN _ w5).mono ?_
      rintro e w6 ⟨rfl, rfl⟩
      go_wp2_with fail
      refine CP.mono ?_
      intro e w7 hP
      rw [HPK.out] at hP
      obtain ⟨hb7, v7, rfl, ho7⟩ := hP
      have HB7 := Lib.hid (bthen HB5.out hb7)
      have htx7 := fun nq => run_text (w7.drewN nq) v7 _ (bs.take k1) ((Rd.of_own ho7).below (below_drewN (Below.refl _ _) nq))
      have htx8 := fun nq => run_text (w7.drewN nq) _ _ (bs.take k1) (((HB.out.below (bthen HB5.out hb7)).head hk1).below (below_drewN (Below.refl _ _) nq))
      generalize strB (bs.take k1) = S at htx7 htx8
      clear hb7 ho7 CP
      dsimp only
      go_wp2_with fail
      go_quiet ((go_at_call 57; exact Calls.quiet_of_same ((CN _ _).mono fun _ _ ⟨a, b⟩ => ⟨a, b.symm⟩)))
      go_wp2_with fail
      go_ret
      exact ⟨by simp, below_drewN HB7.out _⟩
    · have g1 : (c == 0) = false := by simpa using h0
      have g2 : (c != 0) = true := by simpa using h0
      clear h0
      go_wp2_with fail
      refine CU.mono ?_
      rintro e w5 ⟨ao5, cap5, rfl, hb5, _⟩
      have HB5 := Lib.hid (bthen HX.out hb5)
      clear hb5 CU
      go_wp2_with fail
      refine (CN _ w5).mono ?_
      rintro e w6 ⟨rfl, rfl⟩
      go_wp2_with fail
      go_ret
      exact ⟨rfl, HB5.out⟩
end Go.Proofs.Ytgokaoajpidhnaa
