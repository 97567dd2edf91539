/- The law's are; Pack in one form. -/
import Derived.Test.YtgokaoajpidhnaaStill
import Derived.Deep.DeepCutAuto
import Derived.Test.YtgokaoajpidhnaaMeans0
namespace Go.Proofs.Ytgokaoajpidhnaa
open Go.RowKit
set_option linter.unusedVariables false
set_option linter.unusedSimpArgs false
open Wire

set_option maxRecDepth 100000 in
set_option maxHeartbeats 6400000 in
theorem are_true (ao1 : Option Addr) (n1 cap1 : Nat) (l1 : List V) (ao2 : Option Addr) (n2 cap2 : Nat) (l2 : List V) (w : World) (h1 : Anys w ao1 n1 cap1 l1) (h2 : RVs w ao2 n2 cap2 l2) (hs : SameVs l1 l2) :
    Calls Try.prog 60 #[.slice ao1 n1 cap1, .slice ao2 n2 cap2] w fun e w' => e = .returned (.bool true) ∧ Below w.heap.size w w' := by
  have H1 := Lib.hid h1
  have H2 := Lib.hid h2
  have HS := Lib.hid hs
  obtain rfl : n1 = n2 := by rw [← h1.1, ← h2.1]; exact hs.1
  have hc1 : n1 ≤ cap1 ∧ cap1 ≤ 9223372036854775807 := by obtain ⟨_, h2, h3, _⟩ := h1; unfold maxLen at h3; exact ⟨h2, h3⟩
  have hc2 : n1 ≤ cap2 ∧ cap2 ≤ 9223372036854775807 := by obtain ⟨_, h2, h3, _⟩ := h2; unfold maxLen at h3; exact ⟨h2, h3⟩
  have HL1 := Lib.hid h1.1
  have HL2 := Lib.hid h2.1
  obtain ⟨B, hB⟩ : ∃ B, w.heap.size = B := ⟨_, rfl⟩
  have HB := Lib.hid hB
  have hnn : ((n1 : Int) == (n1 : Int)) = true := by simp
  have hnm : ((n1 : Int) != (n1 : Int)) = false := by simp
  clear h1 h2 hs hB
  go_enter Try.func60, Try.ntmps60
  go_wp2_with fail
  go_loopw [5] (fun i wr => ∃ k : Nat, k ≤ n1 ∧ i = .int .i64 (k : Int) ∧ Below B w wr) (fun i _ => n1 - (intOf i).toNat)
  case atStart => exact ⟨0, by omega, rfl, Below.refl _ _⟩
  case round =>
    obtain ⟨k, hk, rfl, hb⟩ := hrel
    have HBW := Lib.hid hb
    clear hnn hnm
    by_cases hlt : k < n1
    · obtain ⟨x, hx⟩ : ∃ x, l1[k]? = some x := ⟨_, List.getElem?_eq_getElem (by rw [HL1.out]; exact hlt)⟩
      obtain ⟨y, hy⟩ : ∃ y, l2[k]? = some y := ⟨_, List.getElem?_eq_getElem (by rw [HL2.out]; exact hlt)⟩
      have hb' : Below w.heap.size w wr := by rw [HB.out]; exact hb
      obtain ⟨b1, off1, u, rfl, hl1, hce, hau⟩ := (H1.out.below hb').2.2.2 k x hx
      obtain ⟨hok, b2, off2, sl, rfl, hl2, hra, hrd⟩ := (H2.out.below hb').2.2.2.2 k y hy
      have hsv := HS.out.2 k x y hx hy
      have hi : (Try.prog.info? 103).map (·.size) = some (rC y sl).length := by rw [rC_len hok.x]; exact infoRV
      have CI : Hid (∀ W, Below wr.heap.size wr W → Calls Try.prog 86 #[u, rA y sl] W fun e w' => e = .returned (.bool true) ∧ Below W.heap.size W w') := Lib.hid fun W hW => is_true u x y sl W (hau.below hW) hsv hok (hrd.below hW)
      have hbw : Below wr.heap.size wr wr := Below.refl _ _
      have hbs : B ≤ wr.heap.size := by rw [← HB.out]; exact hb'.size
      have hul : (rC y sl).length = 260 := rC_len hok.x
      have hone : ∀ v ∈ rC y sl, v.oneCell' = true := by
        intro v hv
        simp only [rC, List.mem_cons] at hv
        rcases hv with rfl | rfl | rfl | rfl | hv
        · rfl
        · rfl
        · rfl
        · obtain ⟨_, _, rfl, _⟩ := hrd; rfl
        · exact bV_one _ v hv
      have hund := Try.underlying103
      unfold rA at CI
      generalize rC y sl = R at *
      clear hx hy hau hsv hok hrd hb hb'
      have hB0 : Below wr.heap.size wr wr.drew := (Below.refl _ _).drew
      have hce0 : wr.drew.cell? ⟨b1, off1 + k, none⟩ = some u := hce
      have hra0 : wr.drew.rangeAt b2 (off2 + k * 260) R := hra
      go_upto_region 6 with fail
      go_cut [26] (fun s wx => s = .bool false ∧ Below B w wx)
      case first =>
        refine wp_region_still_tail 8 (by kernel_rfl) (by kernel_rfl) ?_
        change wpStill _ _ wr.drew (fun a' => wpList _ _ _ _ a' wr.drew) _ _
        simp only [List.take_succ_cons, List.take_zero, List.drop_succ_cons, List.drop_zero]
        iterate 7 still_step
        refine wpStill_load_mid rfl 103 _ rfl b2 (off2 + k * 260) rfl R _ hra0 hund rfl hi ?_
        refine wpStill_nil ?_
        go_wp2_with fail
        refine (CI.out _ hB0).mono ?_
        rintro e wx ⟨rfl, hbx⟩
        have hBf := HBW.out.trans ((hB0.trans (hbx.mono hB0.size)).mono hbs)
        clear hbx
        go_wp2_with fail
        go_meet
        exact ⟨rfl, hBf⟩
      case rest =>
        obtain ⟨rfl, hbx⟩ := hcut
        have HBX := Lib.hid hbx
        clear hbx
        go_wp2_with fail
        go_roundw
        case rel => exact ⟨k + 1, by omega, by go_num, HBX.out⟩
        case measure => simp [intOf]; omega
    · obtain rfl : k = n1 := by omega
      clear hb
      go_wp2_with fail
      go_ret
      exact ⟨rfl, by rw [HB.out]; exact HBW.out⟩

def pcode (s : List UInt8) (l : List V) : Int := if (pack s l).isSome then 0 else 2
theorem pcode_none {s : List UInt8} {l : List V} (h : pack s l = none) : pcode s l = 2 := by unfold pcode; rw [h]; rfl
theorem pcode_some {s : List UInt8} {l : List V} {bs : List UInt8} (h : pack s l = some bs) : pcode s l = 0 := by unfold pcode; rw [h]; rfl
/-- Pack, in one form. -/
theorem p_any (s : ByteArray) {w : World} {ao : Option Addr} {n cap : Nat} {vs : List V} (hv : Anys w ao n cap vs) (L : Nat) (hl : ∀ v ∈ vs, v.b.length ≤ L) (hL : L ≤ 40000000) (hs : s.size * (L + 260) ≤ 40000000) (hcap : ao = none → cap = 0) :
    Calls Try.prog 54 #[.string s, .slice ao n cap] w fun e w' => ∃ ao' k cap', e = .returned (.tuple #[.slice ao' k cap', .int .i64 (pcode (chs s) vs)]) ∧ Below w.heap.size w w' ∧ (∀ bs, pack (chs s) vs = some bs → k = bs.length ∧ w'.ownsRow w.heap.size 5 1 (.slice ao' k cap') k (bV bs)) := by
  refine (pack_any s hv L hl hL hs hcap).mono ?_
  rintro e w' ⟨hb, hP⟩
  cases hp : pack (chs s) vs with
  | none =>
    rw [hp] at hP
    obtain rfl := hP
    exact ⟨none, 0, 0, by rw [pcode_none hp], hb, fun bs h => by cases h⟩
  | some bs =>
    rw [hp] at hP
    obtain ⟨v', rfl, ho⟩ := hP
    obtain ⟨ao', cap', rfl, _⟩ := Rd.of_own ho
    exact ⟨ao', _, cap', by rw [pcode_some hp], hb, fun bs' h => by obtain rfl := Option.some.inj h; exact ⟨rfl, ho⟩⟩
end Go.Proofs.Ytgokaoajpidhnaa
