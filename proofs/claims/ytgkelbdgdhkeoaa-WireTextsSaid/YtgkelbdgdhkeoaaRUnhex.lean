/- The reference's Unhex, walked. -/
import Derived.Test.YtgkelbdgdhkeoaaUnhex
namespace Go.Proofs.Ytgkelbdgdhkeoaa
open Go.RowKit
set_option linter.unusedVariables false
set_option linter.unusedSimpArgs false
open Hex Wire

set_option maxRecDepth 100000 in
set_option maxHeartbeats 1600000 in
theorem rdigit_any (c : UInt8) (w : World) : Calls Try.prog 99 #[.int .u8 (c.toNat : Int)] w fun e w' => e = .returned (.int .i64 (dg c : Int)) ∧ w = w' := by
  have h256 := c.toNat_lt
  by_cases h1 : 48 ≤ c.toNat
  · by_cases h2 : c.toNat ≤ 57
    · have e : ((dg c : Nat) : Int) = (c.toNat : Int) - 48 := by unfold dg; rw [if_pos ⟨h1, h2⟩]; omega
      rw [e]
      generalize c.toNat = q at *
      go_enter Try.func99, Try.ntmps99
      go_wp2_with fail
      go_ret
      exact ⟨rfl, rfl⟩
    · by_cases h3 : 97 ≤ c.toNat
      · by_cases h4 : c.toNat ≤ 102
        · have e : ((dg c : Nat) : Int) = (c.toNat : Int) - 97 + 10 := by unfold dg; rw [if_neg (by omega), if_pos ⟨h3, h4⟩]; omega
          rw [e]
          generalize c.toNat = q at *
          go_enter Try.func99, Try.ntmps99
          go_wp2_with fail
          go_ret
          exact ⟨rfl, rfl⟩
        · have e : ((dg c : Nat) : Int) = 16 := by unfold dg; rw [if_neg (by omega), if_neg (by omega)]; rfl
          rw [e]
          generalize c.toNat = q at *
          go_enter Try.func99, Try.ntmps99
          go_wp2_with fail
          go_ret
          exact ⟨rfl, rfl⟩
      · have e : ((dg c : Nat) : Int) = 16 := by unfold dg; rw [if_neg (by omega), if_neg (by omega)]; rfl
        rw [e]
        generalize c.toNat = q at *
        go_enter Try.func99, Try.ntmps99
        go_wp2_with fail
        go_ret
        exact ⟨rfl, rfl⟩
  · have e : ((dg c : Nat) : Int) = 16 := by unfold dg; rw [if_neg (by omega), if_neg (by omega)]; rfl
    rw [e]
    generalize c.toNat = q at *
    go_enter Try.func99, Try.ntmps99
    go_wp2_with fail
    go_ret
    exact ⟨rfl, rfl⟩

set_option maxRecDepth 100000 in
set_option maxHeartbeats 6400000 in
theorem runhex_any (s : ByteArray) (w : World) (hs : s.size ≤ 1000000) : Calls Try.prog 38 #[.string s] w (UnhexP w (unhex (chs s))) := by
  obtain ⟨B, hB⟩ : ∃ B, w.heap.size = B := ⟨_, rfl⟩
  have HB := Lib.hid hB
  clear hB
  by_cases hodd : s.size % 2 = 1
  · have HE : Hid (unhex (chs s) = none) := Lib.hid (unhex_odd _ (by rw [chs_len]; exact hodd))
    have hm : (s.size : Int) % 2 = 1 := by omega
    clear hodd
    go_enter Try.func38, Try.ntmps38
    go_wp2_with fail
    go_ret2
    exact UnhexP.none_of HE.out rfl (Below.refl _ _)
  · have hm : (s.size : Int) % 2 = 0 := by omega
    obtain ⟨m, hm2⟩ : ∃ m, s.size = 2 * m := ⟨s.size / 2, by omega⟩
    have HM := Lib.hid hm2
    clear hodd hm2
    go_enter Try.func38, Try.ntmps38
    go_wp2_with fail
    clear hm
    go_loopw [4, 5] (fun o i wr => ∃ (k : Nat) (v' : Value) (acc : List UInt8), k ≤ m ∧ i = .int .i64 ((2 * k : Nat) : Int) ∧ v' = o ∧ wr.ownsRow B 5 1 v' acc.length (bV acc) ∧ Below B w wr ∧ acc.length ≤ k ∧ unhex (chs s) = (unhex ((chs s).drop (2 * k))).map (acc ++ ·)) (fun _ i _ => s.size - (intOf i).toNat)
    case atStart => exact ⟨0, _, [], by omega, rfl, rfl, World.ownsRow_nil _ _ _ _, Below.refl _ _, by simp, by simp⟩
    case round =>
      obtain ⟨k, v', acc, hk, rfl, rfl, ho, hb, hacc, hun⟩ := hrel
      have HO := Lib.hid ho
      have HBW := Lib.hid hb
      have HUN := Lib.hid hun
      clear ho hb hun
      by_cases hlt : k < m
      · have hk1 : 2 * k < s.size := by have := HM.out; omega
        have hk2 : 2 * k + 1 < s.size := by have := HM.out; omega
        have hd1 := chs_drop hk1
        have hd2 := chs_drop hk2
        have HD : Hid (unhex (chs s) = (unhex ((s[2 * k]'hk1) :: (s[2 * k + 1]'hk2) :: (chs s).drop (2 * (k + 1)))).map (acc ++ ·)) := Lib.hid (by
          rw [HUN.out, hd1, hd2]; rfl)
        have hwr : IntKind.i64.wrap (((2 * k : Nat) : Int) + 1) = ((2 * k : Nat) : Int) + 1 := IntWalk.i64_in _ (by omega)
        have htn : (((2 * k : Nat) : Int) + 1).toNat = 2 * k + 1 := by omega
        have hle : (((2 * k : Nat) : Int) + 1) < (s.size : Int) := by omega
        have hle0 : (0 : Int) ≤ ((2 * k : Nat) : Int) + 1 := by omega
        have hle2 : (((2 * k : Nat) : Int)) < (s.size : Int) := by omega
        have hx0 := dg_le (s[2 * k]'hk1)
        have hx1 := dg_le (s[2 * k + 1]'hk2)
        clear hd1 hd2
        generalize hj : 2 * k = j at *
        have CD := fun c W => rdigit_any c W
        go_wp2_with fail
        go_quiet ((go_at_call 99; exact Calls.quiet_of_same ((CD _ _).mono fun _ _ ⟨a, b⟩ => ⟨a, b.symm⟩)))
        rename_i nq
        have HBQ := Lib.hid (below_drewN HBW.out nq)
        have hoq := ownsRow_below HO.out (below_drewN (Below.refl _ wr) nq)
        have hszq : B ≤ (wr.drewN nq).heap.size := by have := HBQ.out.size; rw [HB.out] at this; exact this
        rw [unhex] at HD
        generalize dg (s[j]'hk1) = a at *
        generalize dg (s[j + 1]'hk2) = c at *
        by_cases ha : a ≤ 15
        · have ha2 : ¬ (15 < (a : Int)) := by omega
          by_cases hc : c ≤ 15
          · have hc2 : ¬ (15 < (c : Int)) := by omega
            have HNX : Hid (unhex (chs s) = (unhex ((chs s).drop (2 * (k + 1)))).map ((acc ++ [UInt8.ofNat (16 * a + c)]) ++ ·)) := Lib.hid (by
              rw [HD.out, if_pos ⟨ha, hc⟩, Option.map_map]
              congr 1
              funext z
              simp [Function.comp])
            have hcv : (Value.int .u8 (16 * (a : Int) + (c : Int))) = .int .u8 ((UInt8.ofNat (16 * a + c)).toNat : Int) := by
              congr 1
              rw [UInt8.toNat_ofNat']
              omega
            have HCV := Lib.hid hcv
            have hcl : (16 * (a : Int) + (c : Int)) < 256 := by omega
            clear hcv
            go_wp2_with (at_builtin; go_must (refine wpList_app rfl _ _ 24 rfl B 5 _ 1 1 Try.underlying24 infoByte rfl (by decide) (by decide) v' acc.length (bV acc) rfl hoq rfl rfl (by simp [Value.oneCell']) (by omega) hszq ?_); intro v5 w5 ho5 hb5 hg5 hs5 hn5)
            have HO5 : Hid (w5.ownsRow B 5 1 v5 (acc ++ [UInt8.ofNat (16 * a + c)]).length (bV (acc ++ [UInt8.ofNat (16 * a + c)]))) := Lib.hid (by
              rw [bV_app, List.length_append]
              have e : bV [UInt8.ofNat (16 * a + c)] = [Value.int .u8 (16 * (a : Int) + (c : Int))] := by rw [HCV.out]; rfl
              rw [e]; exact ho5)
            have HB5 := Lib.hid (HBQ.out.trans hb5)
            have HAL : Hid ((acc ++ [UInt8.ofNat (16 * a + c)]).length ≤ k + 1) := Lib.hid (by rw [List.length_append, List.length_singleton]; omega)
            have HJ := Lib.hid hj
            clear ho5 hb5 hg5 hs5 hn5 hoq hj
            go_wp2_with fail
            go_roundw
            case rel => exact ⟨k + 1, v5, _, by omega, by have := HJ.out; go_num, rfl, HO5.out, HB5.out, HAL.out, HNX.out⟩
            case measure => simp [intOf]; omega
          · have hc2 : 15 < (c : Int) := by omega
            have HE : Hid (unhex (chs s) = none) := Lib.hid (by rw [HD.out, if_neg (fun h => hc h.2)]; rfl)
            clear hoq
            go_wp2_with fail
            go_ret2
            exact UnhexP.none_of HE.out rfl (by rw [HB.out]; exact HBQ.out)
        · have ha2 : 15 < (a : Int) := by omega
          have HE : Hid (unhex (chs s) = none) := Lib.hid (by rw [HD.out, if_neg (fun h => ha h.1)]; rfl)
          clear hoq
          go_wp2_with fail
          go_ret2
          exact UnhexP.none_of HE.out rfl (by rw [HB.out]; exact HBQ.out)
      · obtain rfl : k = m := by omega
        have HE : Hid (unhex (chs s) = some acc) := Lib.hid (by
          rw [HUN.out, List.drop_eq_nil_of_le (by rw [chs_len, HM.out]; exact Nat.le_refl _)]; simp [unhex])
        have hge : ¬ (((2 * k : Nat) : Int) < (s.size : Int)) := by have := HM.out; omega
        generalize 2 * k = j at *
        go_wp2_with fail
        go_ret2
        exact UnhexP.some_of HE.out rfl (by rw [HB.out]; exact HO.out) (by rw [HB.out]; exact HBW.out)
end Go.Proofs.Ytgkelbdgdhkeoaa
