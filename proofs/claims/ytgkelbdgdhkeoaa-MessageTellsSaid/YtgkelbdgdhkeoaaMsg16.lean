/- The law's spoil, walked. -/
import Derived.Test.YtgkelbdgdhkeoaaMsg15
namespace Go.Proofs.Ytgkelbdgdhkeoaa
open Go.RowKit
set_option linter.unusedVariables false
set_option linter.unusedSimpArgs false
open Wire Cmd

def nV (zs : List Int) : List Value := zs.map (Value.int .u8)
/-- What spoil leaves: the row its own still, other blocks as they were. -/
structure SpoilP (B : Nat) (w : World) (v : Value) (n : Nat) (wr : World) : Prop where
  own : ∃ zs : List Int, zs.length = n ∧ wr.ownsRow B 5 1 v n (nV zs)
  low : Below B w wr
  hi : ∀ j, (∀ ad n c, v = .slice (some ad) n c → j ≠ ad.block) → wr.heap[j]? = w.heap[j]?
set_option maxRecDepth 100000 in
set_option maxHeartbeats 6400000 in
theorem spoil19_any (B : Nat) (ao : Option Addr) (n cap : Nat) (bs : List UInt8) (w : World) (hn : n ≤ 9223372036854775807) (ho : w.ownsRow B 5 1 (.slice ao n cap) n (bV bs)) (hbl : bs.length = n) :
    Calls Try.prog 56 #[.slice ao n cap] w fun e w' => e = .returned (.tuple #[]) ∧ SpoilP B w (.slice ao n cap) n w' := by
  have HLR : Hid (SpoilP B w (.slice ao n cap) n w) := Lib.hid ⟨⟨bs.map fun b => (b.toNat : Int), by simpa using hbl, by
    rw [show nV (bs.map fun b => (b.toNat : Int)) = bV bs from by simp [nV, bV, Function.comp_def]]
    exact ho⟩, Below.refl _ _, fun _ _ => rfl⟩
  clear ho hbl
  go_enter Try.func56, Try.ntmps56
  go_upto_region 1 with fail
  go_loopw [2] (fun i wr => ∃ (k : Nat), k ≤ n ∧ i = .int .i64 (k : Int) ∧ SpoilP B w (.slice ao n cap) n wr) (fun i _ => n - (intOf i).toNat)
  case atStart => exact ⟨0, by omega, rfl, HLR.out⟩
  case round =>
    obtain ⟨k, hk, rfl, hlr⟩ := hrel
    have HLRk := Lib.hid hlr
    obtain ⟨⟨zs, hzl, hown⟩, hlow, hhi⟩ := hlr
    by_cases hlt : k < n
    · obtain ⟨g, rfl⟩ : ∃ g, ao = some ⟨g, 0, none⟩ := by
        rcases hown.2 with ⟨hv, hn0⟩ | ⟨g, cap', cur, hv, _⟩
        · omega
        · simp at hv; exact ⟨g, hv.1⟩
      obtain ⟨z, hz⟩ : ∃ z, zs[k]? = some z := ⟨_, List.getElem?_eq_getElem (by omega)⟩
      have hcell := hown.cellAt k (by omega)
      have hfz := hown.frozenAt k
      have hx : (nV zs)[k]? = some (.int .u8 z) := by simp [nV, hz]
      rw [hx] at hcell
      have hge := (hown.lt g rfl).1
      have HST := Lib.hid (fun u => hown.stored k u)
      have HLOW := Lib.hid hlow
      have HHI := Lib.hid hhi
      clear hx hz hown hlow hhi
      go_wp2_with fail
      refine ⟨⟨k + 1, by omega, by go_num, ⟨zs.set k (bits BinOp.xor IntKind.u8 z 255), by simpa using hzl, ?_⟩, HLOW.out.setCell (p := ⟨g, k, none⟩) hge _, fun j hj => ?_⟩, by simp [intOf]; omega⟩
      · have h2 := (HST.out (.int .u8 (bits BinOp.xor IntKind.u8 z 255))).1
        simpa [nV, List.map_set] using h2
      · refine (Below.heap_setCell wr ⟨g, k, none⟩ _ j (fun e => ?_)).trans (HHI.out j hj)
        exact hj _ _ _ rfl e
    · go_wp2_with fail
      go_end0
      exact ⟨rfl, HLRk.out⟩
end Go.Proofs.Ytgkelbdgdhkeoaa
