/- The law's are; Pack in one form. -/
import Derived.Test.YtgkelbdgdhkeoaaStill
import Derived.Deep.DeepCutAuto
import Derived.Test.YtgkelbdgdhkeoaaMeans0
namespace Go.Proofs.Ytgkelbdgdhkeoaa
open Go.RowKit
set_option linter.unusedVariables false
set_option linter.unusedSimpArgs false
open Wire

def pcode (s : List UInt8) (l : List V) : Int := if (pack s l).isSome then 0 else 2
theorem pcode_none {s : List UInt8} {l : List V} (h : pack s l = none) : pcode s l = 2 := by unfold pcode; rw [h]; rfl
theorem pcode_some {s : List UInt8} {l : List V} {bs : List UInt8} (h : pack s l = some bs) : pcode s l = 0 := by unfold pcode; rw [h]; rfl
/-- Pack, in one form. -/
theorem p_any (s : ByteArray) {w : World} {ao : Option Addr} {n cap : Nat} {vs : List V} (hv : Anys w ao n cap vs) (L : Nat) (hl : ∀ v ∈ vs, v.b.length ≤ L) (hL : L ≤ 40000000) (hs : s.size * (L + 260) ≤ 40000000) (hcap : ao = none → cap = 0) :
    Calls Try.prog 83 #[.string s, .slice ao n cap] w fun e w' => ∃ ao' k cap', e = .returned (.tuple #[.slice ao' k cap', .int .i64 (pcode (chs s) vs)]) ∧ Below w.heap.size w w' ∧ (∀ bs, pack (chs s) vs = some bs → k = bs.length ∧ w'.ownsRow w.heap.size 5 1 (.slice ao' k cap') k (bV bs)) := by
  refine (pack_any s hv L hl hL hs hcap).mono ?_
  rintro e w' ⟨hb, hP⟩
  cases hp : pack (chs s) vs with
  | none =>
    rw [hp] at hP
    obtain rfl := hP
    exact ⟨none, 0, 0, by rw [pcode_none hp], hb, fun bs h => by cases h⟩
  | some bs =>
    rw [hp] at hP
    obtain ⟨v', rfl, ho⟩ := hP
    obtain ⟨ao', cap', rfl, _⟩ := Rd.of_own ho
    exact ⟨ao', _, cap', by rw [pcode_some hp], hb, fun bs' h => by obtain rfl := Option.some.inj h; exact ⟨rfl, ho⟩⟩
end Go.Proofs.Ytgkelbdgdhkeoaa
