/- The reference's values, walked. -/
import Derived.Test.YtgkelbdgdhkeoaaSMsg18
namespace Go.Proofs.Ytgkelbdgdhkeoaa
open Go.RowKit
set_option linter.unusedVariables false
set_option linter.unusedSimpArgs false
open Wire Cmd
def lows (l : List Nat) : List UInt8 := l.flatMap fun n => low n 8
theorem lows_app (l m : List Nat) : lows (l ++ m) = lows l ++ lows m := List.flatMap_append
theorem lows_succ (l : List Nat) (k n : Nat) (h : l[k]? = some n) : lows (l.take (k + 1)) = lows (l.take k) ++ low n 8 := by
 rw [List.take_add_one, h, lows_app]
 simp [lows]
def uV (l : List Nat) : List Value := l.map fun n : Nat => Value.int .u64 (n : Int)
set_option maxRecDepth 100000 in
set_option maxHeartbeats 6400000 in
theorem values19_any (l : List Nat) (v : Value) (w : World) (hd : Rd w 1 v l.length (uV l)) (hl : l.length ≤ 1000) (h64 : ∀ n ∈ l, n < 18446744073709551616) : Calls Try.prog 123 #[v] w fun e w' => ∃ v', e = .returned v' ∧ w'.ownsRow w.heap.size 5 1 v' (8 * l.length) (bV (lows l)) ∧ Below w.heap.size w w' := by
 have HD := Lib.hid hd
 obtain ⟨B, hB⟩ : ∃ B, w.heap.size = B := ⟨_, rfl⟩
 have HBE := Lib.hid hB
 rw [hB]
 clear hB
 obtain ⟨ao, cap, rfl, _⟩ := hd
 obtain ⟨L, hL⟩ : ∃ L, l.length = L := ⟨_, rfl⟩
 have HL := Lib.hid hL
 rw [hL] at hl ⊢
 rw [hL] at HD
 clear hL
 have H64 := Lib.hid h64
 clear h64
 go_enter Try.func123, Try.ntmps123
 go_upto_region 3 with fail
 go_loopw [3, 4] (fun b i wr => ∃ (k : Nat), k ≤ L ∧ i = .int .i64 (k : Int) ∧ wr.ownsRow B 5 1 b (8 * k) (bV (lows (l.take k))) ∧ Below B w wr) (fun b i _ => L - (intOf i).toNat)
 case atStart => exact ⟨0, by omega, rfl, World.ownsRow_nil _ _ _ _, Below.refl _ _⟩
 case round =>
  obtain ⟨k, hk, rfl, hown, hlow⟩ := hrel
  have HOWN := Lib.hid hown
  have HLOW := Lib.hid hlow
  have HDr := HD.out.below (show Below w.heap.size w wr by rw [HBE.out]; exact hlow)
  have hsz : B ≤ wr.heap.size := by have := hlow.size; rw [HBE.out] at this; exact this
  clear hown hlow
  by_cases hlt : k < L
  ·obtain ⟨z, hz⟩ : ∃ z, l[k]? = some z := ⟨_, List.getElem?_eq_getElem (by rw [HL.out]; omega)⟩
   have hzl : z < 18446744073709551616 := H64.out z (List.mem_of_getElem? hz)
   have HZ := Lib.hid hz
   obtain ⟨_, _, he, _, _, _, hc⟩ := HDr
   injection he with he1 he2 he3
   subst he1 he3
   obtain ⟨g, off, rfl, hgl, hcell⟩ := hc k (.int .u64 (z : Int)) (by simp [uV, hz])
   have CL := rlow_any z 8 wr hzl (by omega)
   have HCL := Lib.hid CL
   clear CL hc hz
   go_wp2_with fail
   refine HCL.out.mono ?_
   rintro e w1 ⟨v1, rfl, ho1, hb1⟩
   have ho0 := ownsRow_below HOWN.out hb1
   have hr1 := Rd.of_own ho1
   have HB1 := Lib.hid hb1
   have hsz1 : B ≤ w1.heap.size := Nat.le_trans hsz hb1.size
   clear hb1 ho1
   go_wp2_with (at_builtin; go_must (refine wpList_apps rfl _ _ 24 rfl B 5 _ 1 1 Try.underlying24 infoByte rfl (by decide) (by decide) _ (8 * k) _ rfl ho0 _ 8 _ rfl hr1 (bV_one _) (by omega) hsz1 ?_); intro v5 w5 ho5 hb5 hg5 hs5 hn5)
   refine ⟨⟨k + 1, by omega, by go_num, ?_, ?_⟩, by simp [intOf]; omega⟩
   ·rw [lows_succ l k z HZ.out, bV_app]
    exact ho5
   ·exact (HLOW.out.trans (HB1.out.mono hsz)).trans hb5
  ·have hkL : k = L := by omega
   subst hkL
   go_wp2_with fail
   go_ret
   refine ⟨_, rfl, ?_, HLOW.out⟩
   have h := HOWN.out
   rw [List.take_of_length_le (by have := HL.out; omega)] at h
   exact h
end Go.Proofs.Ytgkelbdgdhkeoaa
