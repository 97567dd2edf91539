/- WireTexts, walked. -/
import Derived.Test.YtgkelbdgdhkeoaaKnown1
import Derived.Test.YtgkelbdgdhkeoaaHexW
import Derived.Test.YtgkelbdgdhkeoaaRUnhex
import Derived.Test.YtgkelbdgdhkeoaaDecimal
namespace Go.Proofs.Ytgkelbdgdhkeoaa
open Go.RowKit
set_option linter.unusedVariables false
set_option linter.unusedSimpArgs false
open Hex Wire Dec

/-- Unhex, in one form. -/
def ubytes (o : Option (List UInt8)) : List UInt8 := o.getD []
theorem UnhexP.one {w w' : World} {o : Option (List UInt8)} {e : Ending} (h : UnhexP w o e w') : ∃ ao cap, e = .returned (.tuple #[.slice ao (ubytes o).length cap, .bool o.isSome]) ∧ Below w.heap.size w w' ∧ Rd w' 1 (.slice ao (ubytes o).length cap) (ubytes o).length (bV (ubytes o)) := by
  obtain ⟨hb, hP⟩ := h
  cases o with
  | none =>
    refine ⟨none, 0, hP, hb, none, 0, rfl, rfl, by simp [ubytes], ⟨fun _ => rfl, by simp [ubytes], by simp⟩, fun j u hj => by simp [ubytes, bV] at hj⟩
  | some bs =>
    obtain ⟨v', rfl, ho⟩ := hP
    have hr := Rd.of_own ho
    obtain ⟨ao, cap, rfl, _⟩ := hr
    exact ⟨ao, cap, rfl, hb, Rd.of_own ho⟩
theorem DecP.one {w w' : World} {o : Option Nat} {e : Ending} (h : DecP w o e w') : e = .returned (.tuple #[.int .u64 ((o.getD 0 : Nat) : Int), .bool o.isSome]) ∧ Below w.heap.size w w' := by
  obtain ⟨hb, hP⟩ := h
  cases o with
  | none => exact ⟨hP, hb⟩
  | some n => exact ⟨hP, hb⟩

set_option maxRecDepth 100000 in
set_option maxHeartbeats 6400000 in
theorem wireTexts_walk (v : Value) (n : Nat) (bs : List UInt8) (s : ByteArray) (most : Nat) (hm : most < 2 ^ 64) (w : World) (hrd : Rd w 1 v n (bV bs)) :
    Calls Try.prog 6 #[v, .string s, .int .u64 (most : Int)] w fun e w' => e = .returned (.bool true) ∧ Below w.heap.size w w' := by
  have HRD := Lib.hid hrd
  have HM := Lib.hid hm
  have CK := fun W => known1_any W
  obtain ⟨ao, cap, rfl, _, _, ⟨_, hc1, hc2⟩, _⟩ := hrd
  unfold maxLen at hc2
  clear hm
  by_cases hn : 5000 < n
  · go_enter Try.func6, Try.ntmps6
    go_wp2_with fail
    refine (CK _).mono ?_
    rintro e w1 ⟨rfl, hb⟩
    go_wp2_with fail
    go_ret
    exact ⟨rfl, hb⟩
  by_cases hs : 5000 < s.size
  · go_enter Try.func6, Try.ntmps6
    go_wp2_with fail
    refine (CK _).mono ?_
    rintro e w1 ⟨rfl, hb⟩
    go_wp2_with fail
    go_ret
    exact ⟨rfl, hb⟩
  have C1 := fun W => unhex_any s W (by omega)
  have C2 := fun W => runhex_any s W (by omega)
  have C3 := fun W => dec_any s most HM.out W (by omega)
  have C4 := fun W => rdec_any s most HM.out W (by omega)
  generalize unhex (chs s) = o at *
  generalize dec (chs s) most = q at *
  go_enter Try.func6, Try.ntmps6
  go_wp2_with fail
  refine (C1 _).mono ?_
  intro e w1 hP
  obtain ⟨a1, c1, rfl, hb1, hr1⟩ := hP.one
  have HB1 := Lib.hid hb1
  have HR1 := Lib.hid hr1
  clear hP hb1 hr1 C1
  go_wp2_with fail
  refine (C2 _).mono ?_
  intro e w2 hP
  obtain ⟨a2, c2, rfl, hb2, hr2⟩ := hP.one
  have HB12 := Lib.hid hb2
  have HB2 := Lib.hid (bthen HB1.out hb2)
  have HR2 := Lib.hid hr2
  clear hP hb2 hr2 C2
  go_wp2_with fail
  refine (C3 _).mono ?_
  intro e w3 hP
  obtain ⟨rfl, hb3⟩ := hP.one
  have HB23 := Lib.hid hb3
  have HB3 := Lib.hid (bthen HB2.out hb3)
  clear hP hb3 C3
  go_wp2_with fail
  refine (C4 _).mono ?_
  intro e w4 hP
  obtain ⟨rfl, hb4⟩ := hP.one
  have HB24 := Lib.hid (bthen HB23.out hb4)
  have HB4 := Lib.hid (bthen HB3.out hb4)
  clear hP hb4 C4
  go_wp2_with fail
  refine (hex_any _ n bs w4 (HRD.out.below HB4.out) (by omega)).mono ?_
  rintro e w5 ⟨rfl, hb5⟩
  have HB25 := Lib.hid (bthen HB24.out hb5)
  have HB5 := Lib.hid (bthen HB4.out hb5)
  clear hb5
  go_wp2_with fail
  refine (rhex_any _ n bs w5 (HRD.out.below HB5.out) (by omega)).mono ?_
  rintro e w6 ⟨rfl, hb6⟩
  have HB26 := Lib.hid (bthen HB25.out hb6)
  have HB6 := Lib.hid (bthen HB5.out hb6)
  clear hb6
  have ht1 := run_text w6 _ _ (ubytes o) (HR1.out.below (bthen HB12.out HB26.out))
  have ht2 := run_text w6 _ _ (ubytes o) (HR2.out.below HB26.out)
  generalize strB (ubytes o) = T at *
  generalize strB (hexOf bs) = X at *
  have hT : (T.toList == T.toList) = true := by simp
  have hX : (X.toList == X.toList) = true := by simp
  obtain ⟨ob, hob⟩ : ∃ b, o.isSome = b := ⟨_, rfl⟩
  obtain ⟨qb, hqb⟩ : ∃ b, q.isSome = b := ⟨_, rfl⟩
  rw [hob, hqb]
  have hO : (ob == ob) = true := by simp
  have hQ : (qb == qb) = true := by simp
  have hN : (((q.getD 0 : Nat) : Int) == ((q.getD 0 : Nat) : Int)) = true := by simp
  clear hob hqb
  go_wp2_with fail
  refine (CK _).mono ?_
  rintro e w7 ⟨rfl, hb7⟩
  have HB7 := Lib.hid (bthen HB6.out hb7)
  clear hb7 ht1 ht2
  go_wp2_with fail
  go_ret
  exact ⟨rfl, HB7.out⟩
end Go.Proofs.Ytgkelbdgdhkeoaa
