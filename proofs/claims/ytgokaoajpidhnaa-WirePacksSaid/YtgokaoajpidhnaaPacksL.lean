/- WirePacks, walked. -/
import Derived.Test.YtgokaoajpidhnaaRPack
namespace Go.Proofs.Ytgokaoajpidhnaa
open Go.RowKit
set_option linter.unusedVariables false
set_option linter.unusedSimpArgs false
open Wire

def ocode (o : Option (List UInt8)) : Int := if o.isSome then 0 else 2
/-- What Pack of either leaves, in one form: the text of the bytes, the error's number. -/
def PQ (w : World) (o : Option (List UInt8)) (e : Ending) (w' : World) : Prop :=
  Below w.heap.size w w' ∧ ∃ ao n cap, e = .returned (.tuple #[.slice ao n cap, .int .i64 (ocode o)]) ∧ Rd w' 1 (.slice ao n cap) n (bV (o.getD []))
theorem PackP.pq {w w' : World} {o : Option (List UInt8)} {e : Ending} (h : PackP w o e w') : PQ w o e w' := by
  obtain ⟨hb, h⟩ := h
  cases o with
  | none => exact ⟨hb, none, 0, 0, h, Rd.of_own (World.ownsRow_nil w' 0 5 1)⟩
  | some bs =>
    obtain ⟨v', rfl, ho⟩ := h
    have hr := Rd.of_own ho
    obtain ⟨ao, cap, rfl, _⟩ := hr
    exact ⟨hb, ao, _, cap, rfl, Rd.of_own ho⟩

set_option maxRecDepth 100000 in
set_option maxHeartbeats 6400000 in
theorem wirePacks_walk (s : ByteArray) (ao : Option Addr) (n cap : Nat) (l : List V) (w : World) (hv : RVs w ao n cap l) :
    Calls Try.prog 10 #[.string s, .slice ao n cap] w fun e w' => e = .returned (.bool true) ∧ Below w.heap.size w w' := by
  have HV := Lib.hid hv
  have CM := much_any s ao n cap l w hv
  have CK := fun W => known1_any W
  have CN := fun n W => num1_any n W
  have hll := hv.1
  have HLL := Lib.hid hll
  clear hv hll
  go_enter Try.func10, Try.ntmps10
  go_wp2_with fail
  refine CM.mono ?_
  rintro e w2 ⟨⟨y, rfl, hy⟩, rfl⟩
  clear CM
  cases y with
  | true =>
    clear hy
    go_wp2_with fail
    refine (CK w).mono ?_
    rintro e w3 ⟨rfl, hb⟩
    have HB := Lib.hid hb
    clear hb
    go_wp2_with fail
    go_ret
    exact ⟨rfl, HB.out⟩
  | false =>
  obtain ⟨hs40, hn40, hl3⟩ := hy rfl
  have HL3 := Lib.hid hl3
  have CA := all_any ao n cap l w HV.out hn40 hl3
  clear hl3 hy
  go_wp2_with fail
  refine CA.mono ?_
  rintro e w3 ⟨v3, rfl, ho3, hb3⟩
  have HB3 := Lib.hid hb3
  obtain ⟨ao3, cap3, rfl, hn3, ha3⟩ := ho3.anys
  rw [HLL.out] at ha3
  have CP := (pack_any s ha3 3000 HL3.out (by omega) (by omega) hn3)
  have hrw : (Value.slice ao3 l.length cap3) = .slice ao3 n cap3 := by rw [HLL.out]
  rw [hrw]
  clear CA ho3 hb3 hn3 ha3 hrw
  go_wp2_with fail
  refine CP.mono ?_
  intro e w4 hP
  obtain ⟨hb4, ao4, n4, cap4, he4, hr4⟩ := hP.pq
  obtain ⟨code, hco⟩ : ∃ x, ocode (pack (chs s) l) = x := ⟨_, rfl⟩
  rw [hco] at he4
  have HCO := Lib.hid hco
  subst he4
  have HB4 := Lib.hid (bthen HB3.out hb4)
  have HR4 := Lib.hid hr4
  have CR := rpack_any s ao n cap l w4 (HV.out.below HB4.out) hn40 hs40 HL3.out
  clear hP hb4 hr4 CP hco
  generalize pack (chs s) l = o at *
  dsimp only
  go_wp2_with fail
  refine CR.mono ?_
  intro e w5 hP
  obtain ⟨hb5, ao5, n5, cap5, he5, hr5⟩ := hP.pq
  rw [HCO.out] at he5
  subst he5
  have HB5 := Lib.hid (bthen HB4.out hb5)
  have htx4 := run_text w5 _ _ (o.getD []) (HR4.out.below hb5)
  have htx5 := run_text w5 _ _ (o.getD []) hr5
  generalize strB (o.getD []) = S at *
  clear hP hb5 hr5 CR
  dsimp only
  go_wp2_with fail
  refine (CN _ w5).mono ?_
  rintro e w6 ⟨rfl, rfl⟩
  go_wp2_with fail
  refine (CK w5).mono ?_
  rintro e w6 ⟨rfl, hb6⟩
  have HB6 := Lib.hid (bthen HB5.out hb6)
  clear hb6
  go_wp2_with fail
  go_ret
  exact ⟨by simp, HB6.out⟩
end Go.Proofs.Ytgokaoajpidhnaa
