/- CountPlays, walked. -/
import Derived.Test.YtgokaoajpidhnaaSame6
import Derived.Test.YtgokaoajpidhnaaBegin6
import Derived.Test.YtgokaoajpidhnaaDoAll6
import Derived.Test.YtgokaoajpidhnaaOpens6
namespace Go.Proofs.Ytgokaoajpidhnaa
open Go.RowKit
set_option linter.unusedVariables false

/-- Both areas have gone on, from world w on, in blocks that were not there. -/
def Run (w wr : World) (p r : Nat) : Prop := ∃ A F G, Two wr p r A F G ∧ Below w.heap.size w wr ∧ ∀ j ∈ F ++ G, w.heap.size ≤ j
theorem Run.step {w wr w1 : World} {p r : Nat} {F G : List Nat} (hb : Below w.heap.size w wr) (hF : ∀ j ∈ F ++ G, w.heap.size ≤ j) (h : TwoP p r F G wr w1) : Run w w1 p r := by
  obtain ⟨A', F', G', h2, hl⟩ := h
  refine ⟨A', F', G', h2, hb.trans (hl.1.below hF hb.size), fun j hj => ?_⟩
  rcases hl.2 j hj with h3 | h3
  · exact hF j h3
  · exact Nat.le_trans hb.size h3
theorem Run.post {w wr w1 : World} {p r : Nat} (h : Run w wr p r) (hb : Below wr.heap.size wr w1) : Run w w1 p r := by
  obtain ⟨A, F, G, h1, h2, h3⟩ := h
  exact ⟨A, F, G, h1.below hb, bthen h2 hb, h3⟩

set_option maxRecDepth 100000 in
set_option maxHeartbeats 3200000 in
theorem plays_much {w : World} {v u : Value} {n m : Nat} {xs : List Nat} (h : Rd w 1 v n (kV .u16 xs)) (hu : Acts w u m) (hn : 1010 < n ∨ 60 < m) :
    Calls Try.prog 7 #[v, u] w fun e w' => e = .returned (.bool true) ∧ Below w.heap.size w w' := by
  obtain ⟨ao, cap, rfl, hl, hm, hcap, hc⟩ := h
  obtain ⟨bo, ucap, rfl, hmu, hcu⟩ := hu
  have K := known6 (w := w)
  unfold maxLen at hm hmu
  clear hl hcap hc hcu
  by_cases h1 : 1010 < n
  · go_enter Try.func7, Try.ntmps7
    go_wp2_with fail
    refine (K).mono ?_
    rintro e w1 ⟨rfl, hb⟩
    have HB := Lib.hid hb
    go_wp2_with fail
    go_ret
    exact ⟨rfl, HB.out⟩
  · have h2 : 60 < m := by omega
    go_enter Try.func7, Try.ntmps7
    go_wp2_with fail
    refine (K).mono ?_
    rintro e w1 ⟨rfl, hb⟩
    have HB := Lib.hid hb
    go_wp2_with fail
    go_ret
    exact ⟨rfl, HB.out⟩

set_option maxRecDepth 100000 in
set_option maxHeartbeats 3200000 in
theorem plays_out {w : World} {v u : Value} {n m : Nat} {xs : List Nat} (h : Rd w 1 v n (kV .u16 xs)) (hu : Acts w u m) (hn : n < 1 ∨ 1000 < n) (hx1 : n ≤ 1010) (hx2 : m ≤ 60) :
    Calls Try.prog 7 #[v, u] w fun e w' => e = .returned (.bool true) ∧ Below w.heap.size w w' := by
  have C1 := begin_out v n xs h hn
  have C2 := new_out v n xs h hn
  obtain ⟨ao, cap, rfl, hl, hm, hcap, hc⟩ := h
  obtain ⟨bo, ucap, rfl, hmu, hcu⟩ := hu
  have K := known6 (w := w)
  clear hl hcap hc hcu hm hmu
  rcases hn with h1 | h1
  · go_enter Try.func7, Try.ntmps7
    go_wp2_with fail
    refine (C1).mono ?_
    rintro e w1 ⟨rfl, rfl⟩
    go_wp2_with fail
    refine (C2).mono ?_
    rintro e w1 ⟨rfl, rfl⟩
    go_wp2_with fail
    refine (K).mono ?_
    rintro e w1 ⟨rfl, hb⟩
    have HB := Lib.hid hb
    go_wp2_with fail
    go_ret
    exact ⟨rfl, HB.out⟩
  · go_enter Try.func7, Try.ntmps7
    go_wp2_with fail
    refine (C1).mono ?_
    rintro e w1 ⟨rfl, rfl⟩
    go_wp2_with fail
    refine (C2).mono ?_
    rintro e w1 ⟨rfl, rfl⟩
    go_wp2_with fail
    refine (K).mono ?_
    rintro e w1 ⟨rfl, hb⟩
    have HB := Lib.hid hb
    go_wp2_with fail
    go_ret
    exact ⟨rfl, HB.out⟩

set_option maxRecDepth 100000 in
set_option maxHeartbeats 6400000 in
theorem plays_in {w : World} {v u : Value} {n m : Nat} {xs : List Nat} (h : Rd w 1 v n (kV .u16 xs)) (hxs : ∀ x ∈ xs, x < 65536) (hu : Acts w u m) (hn1 : 1 ≤ n) (hn2 : n ≤ 1000) (hx2 : m ≤ 60) :
    Calls Try.prog 7 #[v, u] w fun e w' => e = .returned (.bool true) ∧ Below w.heap.size w w' := by
  have C1 := begin_in v n xs h ⟨hn1, hn2⟩ hxs
  have HU := Lib.hid hu
  obtain ⟨ao, cap, rfl, hl, hm, hcap, hc⟩ := h
  obtain ⟨bo, ucap, rfl, hmu, hcu⟩ := hu
  unfold pt at C1
  clear hl hcap hc hcu hm hmu hxs
  go_enter Try.func7, Try.ntmps7
  go_wp2_with fail
  refine (C1).mono ?_
  rintro e w1 ⟨p, r, F, G, rfl, hT, hb, hF⟩
  have HR : Hid (Run w w1 p r) := Lib.hid ⟨_, F, G, hT, hb, hF⟩
  have C2 := same_any hT
  unfold pt at C2
  clear C1 hT hb hF
  go_wp2_with fail
  refine (C2).mono ?_
  rintro e w2 ⟨rfl, hb⟩
  have HR2 := Lib.hid (HR.out.post hb)
  clear C2 hb HR
  go_wp2_with fail
  go_loopw [9] (fun i wr => ∃ k : Nat, k ≤ m ∧ i = .int .i64 k ∧ Run w wr p r) (fun i _ => m - (intOf i).toNat)
  case atStart => exact ⟨0, by omega, rfl, HR2.out⟩
  case round =>
    obtain ⟨k, hk, rfl, hR⟩ := hrel
    have HR := Lib.hid hR
    obtain ⟨A, F, G, hT, hb, hF⟩ := hR
    by_cases hlt : k < m
    · obtain ⟨ao', cap', hv, _, hcc⟩ := HU.out.below hb
      obtain ⟨b, off, x, y, rfl, hbl, c0, c1⟩ := hcc k hlt
      have hao := (Value.slice.inj hv).1
      subst hao
      have C1 := do_any hT x y
      have HB := Lib.hid (And.intro hb hF)
      unfold pt at C1
      clear hcc hv hb hF hT HR
      go_wp2_with fail
      refine C1.mono ?_
      rintro e w1 ⟨rfl, hP⟩
      have HS := Lib.hid (Run.step HB.out.1 HB.out.2 hP)
      clear hP C1
      obtain ⟨A, F, G, hT, hb, hF⟩ := HS.out
      have C2 := same_any hT
      unfold pt at C2
      clear hT hb hF
      go_wp2_with fail
      refine C2.mono ?_
      rintro e w3 ⟨rfl, hb⟩
      have HS3 := Lib.hid (HS.out.post hb)
      clear hb C2
      go_wp2_with fail
      go_roundw
      case rel => exact ⟨k + 1, by omega, by go_num, HS3.out⟩
      case measure => simp [intOf]; omega
    · obtain rfl : k = m := by omega
      have HB := Lib.hid hb
      clear hb hF hT
      go_wp2_with fail
      refine (known6).mono ?_
      rintro e w3 ⟨rfl, hb⟩
      have HB3 := Lib.hid (bthen HB.out hb)
      clear hb
      go_wp2_with fail
      go_ret
      exact ⟨rfl, HB3.out⟩

theorem plays_walk {w : World} {v u : Value} {n m : Nat} {xs : List Nat} (h : Rd w 1 v n (kV .u16 xs)) (hxs : ∀ x ∈ xs, x < 65536) (hu : Acts w u m) :
    Calls Try.prog 7 #[v, u] w fun e w' => e = .returned (.bool true) ∧ Below w.heap.size w w' := by
  by_cases h1 : 1010 < n ∨ 60 < m
  · exact plays_much h hu h1
  · by_cases h2 : n < 1 ∨ 1000 < n
    · exact plays_out h hu h2 (by omega) (by omega)
    · exact plays_in h hxs hu (by omega) (by omega) (by omega)
end Go.Proofs.Ytgokaoajpidhnaa
