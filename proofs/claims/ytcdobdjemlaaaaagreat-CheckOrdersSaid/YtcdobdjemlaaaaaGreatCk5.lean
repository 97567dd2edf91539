/- CheckOrders, walked. -/
import Derived.Test.YtcdobdjemlaaaaaGreatCk4
namespace Go.Proofs.YtcdobdjemlaaaaaGreat
open Go.RowKit Wire
set_option linter.unusedVariables false
set_option linter.unusedSimpArgs false

/-- A fault. -/
structure Flt where
  k : Int
  b : Nat
  t : Nat
  g : Nat
structure Flt.Wf (f : Flt) : Prop where
  k : -9223372036854775808 ≤ f.k ∧ f.k ≤ 9223372036854775807
  b : f.b < 4294967296
  t : f.t < 18446744073709551616
  g : f.g < 18446744073709551616
def fltC (f : Flt) : Array Value := #[.int .i64 f.k, .int .u32 (f.b : Int), .int .u64 (f.t : Int), .int .u64 (f.g : Int)]
def cmpI (a b : Int) : Int := if a < b then -1 else if b < a then 1 else 0
def or4 (a b c d : Int) : Int := if a ≠ 0 then a else if b ≠ 0 then b else if c ≠ 0 then c else d
def cmpF (x y : Flt) : Int := or4 (cmpI x.k y.k) (cmpI x.b y.b) (cmpI x.t y.t) (cmpI x.g y.g)
def ltF (x y : Flt) : Bool := decide (cmpF x y < 0)
theorem cmpI_cases (a b : Int) : (a < b ∧ cmpI a b = -1) ∨ (b < a ∧ cmpI a b = 1) ∨ (a = b ∧ cmpI a b = 0) := by
  unfold cmpI
  by_cases h : a < b
  · exact .inl ⟨h, if_pos h⟩
  · by_cases h2 : b < a
    · exact .inr (.inl ⟨h2, by rw [if_neg h, if_pos h2]⟩)
    · exact .inr (.inr ⟨by omega, by rw [if_neg h, if_neg h2]⟩)
theorem lt4 (a a' b b' c c' d d' : Int) : decide (or4 (cmpI a a') (cmpI b b') (cmpI c c') (cmpI d d') < 0) = if a ≠ a' then decide (a < a') else if b ≠ b' then decide (b < b') else if c ≠ c' then decide (c < c') else decide (d < d') := by
  rcases cmpI_cases a a' with ⟨h1, e1⟩ | ⟨h1, e1⟩ | ⟨h1, e1⟩
  · have n1 : a ≠ a' := by omega
    simp [or4, e1, n1, h1]
  · have n1 : a ≠ a' := by omega
    have m1 : a' ≤ a := by omega
    simp [or4, e1, n1, m1]
  · subst h1
    rcases cmpI_cases b b' with ⟨h2, e2⟩ | ⟨h2, e2⟩ | ⟨h2, e2⟩
    · have n1 : b ≠ b' := by omega
      simp [or4, e1, e2, n1, h2]
    · have n1 : b ≠ b' := by omega
      have m1 : b' ≤ b := by omega
      simp [or4, e1, e2, n1, m1]
    · subst h2
      rcases cmpI_cases c c' with ⟨h3, e3⟩ | ⟨h3, e3⟩ | ⟨h3, e3⟩
      · have n1 : c ≠ c' := by omega
        simp [or4, e1, e2, e3, n1, h3]
      · have n1 : c ≠ c' := by omega
        have m1 : c' ≤ c := by omega
        simp [or4, e1, e2, e3, n1, m1]
      · subst h3
        rcases cmpI_cases d d' with ⟨h4, e4⟩ | ⟨h4, e4⟩ | ⟨h4, e4⟩
        · simp [or4, e1, e2, e3, e4, h4]
        · have m1 : d' ≤ d := by omega
          simp [or4, e1, e2, e3, e4, m1]
        · subst h4
          simp [or4, e1, e2, e3, e4]
theorem ltF_eq (x y : Flt) : ltF x y = if x.k ≠ y.k then decide (x.k < y.k) else if (x.b : Int) ≠ y.b then decide ((x.b : Int) < y.b) else if (x.t : Int) ≠ y.t then decide ((x.t : Int) < y.t) else decide ((x.g : Int) < y.g) := lt4 ..
theorem ltF_self (x : Flt) : ltF x x = false := by rw [ltF_eq]; simp
theorem ltF_tot {x y : Flt} (h1 : ltF x y = false) (h2 : ltF y x = false) : x = y := by
  rw [ltF_eq] at h1 h2
  obtain ⟨a, b, c, d⟩ := x
  obtain ⟨a', b', c', d'⟩ := y
  dsimp only at h1 h2
  by_cases e1 : a = a'
  · subst e1
    rw [if_neg (by simp)] at h1 h2
    by_cases e2 : b = b'
    · subst e2
      rw [if_neg (by simp)] at h1 h2
      by_cases e3 : c = c'
      · subst e3
        rw [if_neg (by simp)] at h1 h2
        have : d = d' := by
          have := of_decide_eq_false h1
          have := of_decide_eq_false h2
          omega
        subst this
        rfl
      · rw [if_pos (by omega)] at h1 h2
        have := of_decide_eq_false h1
        have := of_decide_eq_false h2
        omega
    · rw [if_pos (by omega)] at h1 h2
      have := of_decide_eq_false h1
      have := of_decide_eq_false h2
      omega
  · rw [if_pos (by omega)] at h1 h2
    have := of_decide_eq_false h1
    have := of_decide_eq_false h2
    omega
set_option maxRecDepth 100000 in
set_option maxHeartbeats 1600000 in
theorem nan_k (w : World) (a : Int) : Calls Tryz.prog 165 #[.int .i64 a] w fun e w' => e = .returned (.bool false) ∧ w = w' := by
  go_enter Tryz.func165, Tryz.ntmps165
  go_wp2_with fail
  go_ret
  exact ⟨rfl, rfl⟩
set_option maxRecDepth 100000 in
set_option maxHeartbeats 1600000 in
theorem nan_32 (w : World) (a : Int) : Calls Tryz.prog 166 #[.int .u32 a] w fun e w' => e = .returned (.bool false) ∧ w = w' := by
  go_enter Tryz.func166, Tryz.ntmps166
  go_wp2_with fail
  go_ret
  exact ⟨rfl, rfl⟩
set_option maxRecDepth 100000 in
set_option maxHeartbeats 1600000 in
theorem nan_64 (w : World) (a : Int) : Calls Tryz.prog 167 #[.int .u64 a] w fun e w' => e = .returned (.bool false) ∧ w = w' := by
  go_enter Tryz.func167, Tryz.ntmps167
  go_wp2_with fail
  go_ret
  exact ⟨rfl, rfl⟩
set_option maxRecDepth 100000 in
set_option maxHeartbeats 3200000 in
theorem cmp_k (w : World) (a b : Int) : Calls Tryz.prog 138 #[.int .i64 a, .int .i64 b] w fun e w' => e = .returned (.int .i64 (cmpI a b)) ∧ w = w' := by
  have C1 := nan_k w a
  have C2 := nan_k w b
  rcases cmpI_cases a b with ⟨h, e⟩ | ⟨h, e⟩ | ⟨h, e⟩
  · rw [e]
    clear e
    go_enter Tryz.func138, Tryz.ntmps138
    go_wp2_with fail
    refine C1.mono ?_
    rintro e w2 ⟨rfl, rfl⟩
    clear C1
    go_wp2_with fail
    refine C2.mono ?_
    rintro e w2 ⟨rfl, rfl⟩
    clear C2
    go_wp2_with fail
    go_ret
    exact ⟨rfl, rfl⟩
  · rw [e]
    have h2 : ¬ a < b := by omega
    clear e
    go_enter Tryz.func138, Tryz.ntmps138
    go_wp2_with fail
    refine C1.mono ?_
    rintro e w2 ⟨rfl, rfl⟩
    clear C1
    go_wp2_with fail
    refine C2.mono ?_
    rintro e w2 ⟨rfl, rfl⟩
    clear C2
    go_wp2_with fail
    go_ret
    exact ⟨rfl, rfl⟩
  · rw [e]
    subst h
    clear e
    go_enter Tryz.func138, Tryz.ntmps138
    go_wp2_with fail
    refine C1.mono ?_
    rintro e w2 ⟨rfl, rfl⟩
    clear C1
    go_wp2_with fail
    refine C2.mono ?_
    rintro e w2 ⟨rfl, rfl⟩
    clear C2
    go_wp2_with fail
    go_ret
    exact ⟨rfl, rfl⟩
set_option maxRecDepth 100000 in
set_option maxHeartbeats 3200000 in
theorem cmp_32 (w : World) (a b : Int) : Calls Tryz.prog 139 #[.int .u32 a, .int .u32 b] w fun e w' => e = .returned (.int .i64 (cmpI a b)) ∧ w = w' := by
  have C1 := nan_32 w a
  have C2 := nan_32 w b
  rcases cmpI_cases a b with ⟨h, e⟩ | ⟨h, e⟩ | ⟨h, e⟩
  · rw [e]
    clear e
    go_enter Tryz.func139, Tryz.ntmps139
    go_wp2_with fail
    refine C1.mono ?_
    rintro e w2 ⟨rfl, rfl⟩
    clear C1
    go_wp2_with fail
    refine C2.mono ?_
    rintro e w2 ⟨rfl, rfl⟩
    clear C2
    go_wp2_with fail
    go_ret
    exact ⟨rfl, rfl⟩
  · rw [e]
    have h2 : ¬ a < b := by omega
    clear e
    go_enter Tryz.func139, Tryz.ntmps139
    go_wp2_with fail
    refine C1.mono ?_
    rintro e w2 ⟨rfl, rfl⟩
    clear C1
    go_wp2_with fail
    refine C2.mono ?_
    rintro e w2 ⟨rfl, rfl⟩
    clear C2
    go_wp2_with fail
    go_ret
    exact ⟨rfl, rfl⟩
  · rw [e]
    subst h
    clear e
    go_enter Tryz.func139, Tryz.ntmps139
    go_wp2_with fail
    refine C1.mono ?_
    rintro e w2 ⟨rfl, rfl⟩
    clear C1
    go_wp2_with fail
    refine C2.mono ?_
    rintro e w2 ⟨rfl, rfl⟩
    clear C2
    go_wp2_with fail
    go_ret
    exact ⟨rfl, rfl⟩
set_option maxRecDepth 100000 in
set_option maxHeartbeats 3200000 in
theorem cmp_64 (w : World) (a b : Int) : Calls Tryz.prog 140 #[.int .u64 a, .int .u64 b] w fun e w' => e = .returned (.int .i64 (cmpI a b)) ∧ w = w' := by
  have C1 := nan_64 w a
  have C2 := nan_64 w b
  rcases cmpI_cases a b with ⟨h, e⟩ | ⟨h, e⟩ | ⟨h, e⟩
  · rw [e]
    clear e
    go_enter Tryz.func140, Tryz.ntmps140
    go_wp2_with fail
    refine C1.mono ?_
    rintro e w2 ⟨rfl, rfl⟩
    clear C1
    go_wp2_with fail
    refine C2.mono ?_
    rintro e w2 ⟨rfl, rfl⟩
    clear C2
    go_wp2_with fail
    go_ret
    exact ⟨rfl, rfl⟩
  · rw [e]
    have h2 : ¬ a < b := by omega
    clear e
    go_enter Tryz.func140, Tryz.ntmps140
    go_wp2_with fail
    refine C1.mono ?_
    rintro e w2 ⟨rfl, rfl⟩
    clear C1
    go_wp2_with fail
    refine C2.mono ?_
    rintro e w2 ⟨rfl, rfl⟩
    clear C2
    go_wp2_with fail
    go_ret
    exact ⟨rfl, rfl⟩
  · rw [e]
    subst h
    clear e
    go_enter Tryz.func140, Tryz.ntmps140
    go_wp2_with fail
    refine C1.mono ?_
    rintro e w2 ⟨rfl, rfl⟩
    clear C1
    go_wp2_with fail
    refine C2.mono ?_
    rintro e w2 ⟨rfl, rfl⟩
    clear C2
    go_wp2_with fail
    go_ret
    exact ⟨rfl, rfl⟩
set_option maxRecDepth 100000 in
set_option maxHeartbeats 3200000 in
theorem or4_at (w : World) (g : Nat) (a b c d : Int) (h : w.heap[g]? = some (.cells #[.int .i64 a, .int .i64 b, .int .i64 c, .int .i64 d] 3 (0, 0))) : Calls Tryz.prog 137 #[.slice (some ⟨g, 0, none⟩) 4 4] w fun e w' => e = .returned (.int .i64 (or4 a b c d)) ∧ w = w' := by
  have HC := Lib.hid (And.intro (cellOf h 0 (v := .int .i64 a) rfl) (And.intro (cellOf h 1 (v := .int .i64 b) rfl) (And.intro (cellOf h 2 (v := .int .i64 c) rfl) (cellOf h 3 (v := .int .i64 d) rfl))))
  obtain ⟨r, hr⟩ : ∃ r, or4 a b c d = r := ⟨_, rfl⟩
  have HR : Hid (r = or4 a b c d) := Lib.hid hr.symm
  rw [hr]
  clear h hr
  go_enter Tryz.func137, Tryz.ntmps137
  go_wp2_with fail
  go_loopw [8] (fun v wr => ∃ i : Nat, i ≤ 4 ∧ v = .int .i64 (i : Int) ∧ (0 < i → a = 0) ∧ (1 < i → b = 0) ∧ (2 < i → c = 0) ∧ (3 < i → d = 0) ∧ w = wr) (fun v _ => 4 - (Go.RowKit.intOf v).toNat)
  case atStart => exact ⟨0, by omega, rfl, by omega, by omega, by omega, by omega, rfl⟩
  case round =>
    obtain ⟨i, hi, rfl, h1, h2, h3, h4, rfl⟩ := hrel
    have H1 := Lib.hid h1
    have H2 := Lib.hid h2
    have H3 := Lib.hid h3
    have H4 := Lib.hid h4
    clear h1 h2 h3 h4
    rcases (show i = 0 ∨ i = 1 ∨ i = 2 ∨ i = 3 ∨ i = 4 by omega) with rfl | rfl | rfl | rfl | rfl
    · have cc := HC.out.1
      by_cases hz : a = 0
      · have hb : (a != 0) = false := by simp [hz]
        have HZ := Lib.hid hz
        clear hz
        go_wp2_with fail
        go_roundw
        case rel => exact ⟨1, by omega, by go_num, fun _ => HZ.out, by omega, by omega, by omega, trivial⟩
        case measure => simp [Go.RowKit.intOf]
      · have hb : (a != 0) = true := by simp [hz]
        have HZ := Lib.hid hz
        clear hz
        go_wp2_with fail
        go_ret
        exact ⟨by rw [HR.out]; unfold or4; rw [if_pos HZ.out]; rfl, rfl⟩
    · have cc := HC.out.2.1
      have e1 := H1.out (by omega)
      by_cases hz : b = 0
      · have hb : (b != 0) = false := by simp [hz]
        have HZ := Lib.hid hz
        have E1 := Lib.hid e1
        clear hz e1
        go_wp2_with fail
        go_roundw
        case rel => exact ⟨2, by omega, by go_num, fun _ => E1.out, fun _ => HZ.out, by omega, by omega, trivial⟩
        case measure => simp [Go.RowKit.intOf]
      · have hb : (b != 0) = true := by simp [hz]
        have HZ := Lib.hid hz
        have E1 := Lib.hid e1
        clear hz e1
        go_wp2_with fail
        go_ret
        exact ⟨by rw [HR.out]; unfold or4; rw [if_neg (by simp [E1.out]), if_pos HZ.out]; rfl, rfl⟩
    · have cc := HC.out.2.2.1
      have E1 := Lib.hid (H1.out (by omega))
      have E2 := Lib.hid (H2.out (by omega))
      by_cases hz : c = 0
      · have hb : (c != 0) = false := by simp [hz]
        have HZ := Lib.hid hz
        clear hz
        go_wp2_with fail
        go_roundw
        case rel => exact ⟨3, by omega, by go_num, fun _ => E1.out, fun _ => E2.out, fun _ => HZ.out, by omega, trivial⟩
        case measure => simp [Go.RowKit.intOf]
      · have hb : (c != 0) = true := by simp [hz]
        have HZ := Lib.hid hz
        clear hz
        go_wp2_with fail
        go_ret
        exact ⟨by rw [HR.out]; unfold or4; rw [if_neg (by simp [E1.out]), if_neg (by simp [E2.out]), if_pos HZ.out]; rfl, rfl⟩
    · have cc := HC.out.2.2.2
      have E1 := Lib.hid (H1.out (by omega))
      have E2 := Lib.hid (H2.out (by omega))
      have E3 := Lib.hid (H3.out (by omega))
      by_cases hz : d = 0
      · have hb : (d != 0) = false := by simp [hz]
        have HZ := Lib.hid hz
        clear hz
        go_wp2_with fail
        go_roundw
        case rel => exact ⟨4, by omega, by go_num, fun _ => E1.out, fun _ => E2.out, fun _ => E3.out, fun _ => HZ.out, trivial⟩
        case measure => simp [Go.RowKit.intOf]
      · have hb : (d != 0) = true := by simp [hz]
        clear hz
        go_wp2_with fail
        go_ret
        exact ⟨by rw [HR.out]; unfold or4; rw [if_neg (by simp [E1.out]), if_neg (by simp [E2.out]), if_neg (by simp [E3.out])]; rfl, rfl⟩
    · have E1 := Lib.hid (H1.out (by omega))
      have E2 := Lib.hid (H2.out (by omega))
      have E3 := Lib.hid (H3.out (by omega))
      have E4 := Lib.hid (H4.out (by omega))
      go_wp2_with fail
      go_ret
      exact ⟨by rw [HR.out]; unfold or4; rw [if_neg (by simp [E1.out]), if_neg (by simp [E2.out]), if_neg (by simp [E3.out]), E4.out]; rfl, rfl⟩
set_option maxRecDepth 100000 in
set_option maxHeartbeats 6400000 in
theorem compare_at (w : World) (x y : Flt) : Calls Tryz.prog 96 #[.agg (fltC x), .agg (fltC y)] w fun e w' => e = .returned (.int .i64 (cmpF x y)) ∧ Below w.heap.size w w' := by
  obtain ⟨a0, b0, c0, d0⟩ := x
  obtain ⟨a1, b1, c1, d1⟩ := y
  have HFE : Hid (Ending.returned (.int .i64 (or4 (cmpI a0 a1) (cmpI b0 b1) (cmpI c0 c1) (cmpI d0 d1))) = .returned (.int .i64 (cmpF ⟨a0, b0, c0, d0⟩ ⟨a1, b1, c1, d1⟩))) := Lib.hid rfl
  unfold fltC
  dsimp only
  obtain ⟨w1, hw1⟩ : ∃ W, w.alloc (.cells #[.int .i64 a0, .int .u32 (b0 : Int), .int .u64 (c0 : Int), .int .u64 (d0 : Int)] 83) = W := ⟨_, rfl⟩
  have hb1 : Below w.heap.size w w1 := by rw [← hw1]; exact balloc (Below.refl _ _) _
  have hx1 : w1.heap[w.heap.size]? = some (.cells #[.int .i64 a0, .int .u32 (b0 : Int), .int .u64 (c0 : Int), .int .u64 (d0 : Int)] 83 (0, 0)) := by rw [← hw1]; exact heap_alloc_new _ _
  obtain ⟨w2, hw2⟩ : ∃ W, w1.alloc (.cells #[.int .i64 a1, .int .u32 (b1 : Int), .int .u64 (c1 : Int), .int .u64 (d1 : Int)] 83) = W := ⟨_, rfl⟩
  have hb2 : Below w1.heap.size w1 w2 := by rw [← hw2]; exact balloc (Below.refl _ _) _
  have hx2 : w2.heap[w1.heap.size]? = some (.cells #[.int .i64 a1, .int .u32 (b1 : Int), .int .u64 (c1 : Int), .int .u64 (d1 : Int)] 83 (0, 0)) := by rw [← hw2]; exact heap_alloc_new _ _
  obtain ⟨p, hp⟩ : ∃ p, w.heap.size = p := ⟨_, rfl⟩
  obtain ⟨q, hq⟩ : ∃ p, w1.heap.size = p := ⟨_, rfl⟩
  rw [hp] at hx1
  rw [hq] at hx2
  have HX2 := Lib.hid hx2
  have HX1 := Lib.hid ((hb2.block _ (Array.getElem?_eq_some_iff.1 hx1).1).trans hx1)
  have HPL : Hid (p < w2.heap.size ∧ q < w2.heap.size) := Lib.hid ⟨(Array.getElem?_eq_some_iff.1 HX1.out).1, (Array.getElem?_eq_some_iff.1 hx2).1⟩
  have HB2 : Hid (Below w.heap.size w w2) := Lib.hid (bthn hb1 hb2)
  have CK : Hid (∀ X, Calls Tryz.prog 138 #[.int .i64 a0, .int .i64 a1] X fun e w' => e = .returned (.int .i64 (cmpI a0 a1)) ∧ Below X.heap.size X w') := Lib.hid (fun X => (cmp_k X a0 a1).mono fun e w' hp => ⟨hp.1, by rw [← hp.2]; exact Below.refl _ _⟩)
  have C3 : Hid (∀ X, Calls Tryz.prog 139 #[.int .u32 (b0 : Int), .int .u32 (b1 : Int)] X fun e w' => e = .returned (.int .i64 (cmpI b0 b1)) ∧ Below X.heap.size X w') := Lib.hid (fun X => (cmp_32 X b0 b1).mono fun e w' hp => ⟨hp.1, by rw [← hp.2]; exact Below.refl _ _⟩)
  have C6 : Hid (∀ X (u v : Nat), Calls Tryz.prog 140 #[.int .u64 (u : Int), .int .u64 (v : Int)] X fun e w' => e = .returned (.int .i64 (cmpI u v)) ∧ Below X.heap.size X w') := Lib.hid (fun X u v => (cmp_64 X u v).mono fun e w' hp => ⟨hp.1, by rw [← hp.2]; exact Below.refl _ _⟩)
  obtain ⟨ra, hra⟩ : ∃ r, cmpI a0 a1 = r := ⟨_, rfl⟩
  obtain ⟨rb, hrb⟩ : ∃ r, cmpI b0 b1 = r := ⟨_, rfl⟩
  obtain ⟨rc, hrc⟩ : ∃ r, cmpI c0 c1 = r := ⟨_, rfl⟩
  obtain ⟨rd, hrd⟩ : ∃ r, cmpI d0 d1 = r := ⟨_, rfl⟩
  have C6a : Hid (∀ X, Calls Tryz.prog 140 #[.int .u64 (c0 : Int), .int .u64 (c1 : Int)] X fun e w' => e = .returned (.int .i64 rc) ∧ Below X.heap.size X w') := Lib.hid (fun X => by rw [← hrc]; exact C6.out X c0 c1)
  have C6b : Hid (∀ X, Calls Tryz.prog 140 #[.int .u64 (d0 : Int), .int .u64 (d1 : Int)] X fun e w' => e = .returned (.int .i64 rd) ∧ Below X.heap.size X w') := Lib.hid (fun X => by rw [← hrd]; exact C6.out X d0 d1)
  rw [hra] at CK HFE
  rw [hrb] at C3 HFE
  rw [hrc, hrd] at HFE
  obtain ⟨res, hres⟩ : ∃ r, or4 ra rb rc rd = r := ⟨_, rfl⟩
  have COR : Hid (∀ X g, X.heap[g]? = some (.cells #[.int .i64 ra, .int .i64 rb, .int .i64 rc, .int .i64 rd] 3 (0, 0)) → Calls Tryz.prog 137 #[.slice (some ⟨g, 0, none⟩) 4 4] X fun e w' => e = .returned (.int .i64 res) ∧ Below X.heap.size X w') := Lib.hid (fun X g hX => (or4_at X g ra rb rc rd hX).mono fun e w' hp => ⟨by rw [← hres]; exact hp.1, by rw [← hp.2]; exact Below.refl _ _⟩)
  rw [hres] at HFE
  clear hb1 hx1 hb2 hx2 hra hrb hrc hrd hres C6
  go_enter Tryz.func96, Tryz.ntmps96
  go_wp2_with fail
  (try rw [hw1])
  (try rw [hp])
  (try rw [hw2])
  (try rw [hq])
  clear hw1 hw2 hp hq
  have HSS : Hid (∀ X, Below w2.heap.size w2 X → (X.cell? ⟨p, 0, none⟩ = some (.int .i64 a0) ∧ X.cell? ⟨p, 1, none⟩ = some (.int .u32 (b0 : Int)) ∧ X.cell? ⟨p, 2, none⟩ = some (.int .u64 (c0 : Int)) ∧ X.cell? ⟨p, 3, none⟩ = some (.int .u64 (d0 : Int)) ∧ X.cell? ⟨q, 0, none⟩ = some (.int .i64 a1) ∧ X.cell? ⟨q, 1, none⟩ = some (.int .u32 (b1 : Int)) ∧ X.cell? ⟨q, 2, none⟩ = some (.int .u64 (c1 : Int)) ∧ X.cell? ⟨q, 3, none⟩ = some (.int .u64 (d1 : Int))) ∧ Below w2.heap.size w2 X) := Lib.hid (fun X hb => ⟨⟨(World.cell?_of_block (hb.block _ (HPL.out.1))).trans (cellOf HX1.out 0 rfl), (World.cell?_of_block (hb.block _ (HPL.out.1))).trans (cellOf HX1.out 1 rfl), (World.cell?_of_block (hb.block _ (HPL.out.1))).trans (cellOf HX1.out 2 rfl), (World.cell?_of_block (hb.block _ (HPL.out.1))).trans (cellOf HX1.out 3 rfl), (World.cell?_of_block (hb.block _ (HPL.out.2))).trans (cellOf HX2.out 0 rfl), (World.cell?_of_block (hb.block _ (HPL.out.2))).trans (cellOf HX2.out 1 rfl), (World.cell?_of_block (hb.block _ (HPL.out.2))).trans (cellOf HX2.out 2 rfl), (World.cell?_of_block (hb.block _ (HPL.out.2))).trans (cellOf HX2.out 3 rfl)⟩, hb⟩)
  refine wp_region_held_drew (S := fun X => (X.cell? ⟨p, 0, none⟩ = some (.int .i64 a0) ∧ X.cell? ⟨p, 1, none⟩ = some (.int .u32 (b0 : Int)) ∧ X.cell? ⟨p, 2, none⟩ = some (.int .u64 (c0 : Int)) ∧ X.cell? ⟨p, 3, none⟩ = some (.int .u64 (d0 : Int)) ∧ X.cell? ⟨q, 0, none⟩ = some (.int .i64 a1) ∧ X.cell? ⟨q, 1, none⟩ = some (.int .u32 (b1 : Int)) ∧ X.cell? ⟨q, 2, none⟩ = some (.int .u64 (c1 : Int)) ∧ X.cell? ⟨q, 3, none⟩ = some (.int .u64 (d1 : Int))) ∧ Below w2.heap.size w2 X) (by kernel_rfl) (HSS.out _ (Below.refl _ _).drew) (fun hHeld => ?_)
  have hbe : Below w2.heap.size w2 w2.drew := (Below.refl _ _).drew
  obtain ⟨wd, hwd⟩ : ∃ y, w2.drew = y := ⟨_, rfl⟩
  rw [hwd] at hHeld hbe ⊢
  have HBE := Lib.hid hbe
  have HS0 : Hid (w2.heap.size ≤ wd.heap.size) := Lib.hid HBE.out.size
  clear hwd hbe
  refine wpAnyH_take (i := 0) (v := ?_) rfl (by kernel_rfl) (by kernel_rfl) (by kernel_rfl) (fun _ _ _ h => h) (Or.inl ⟨by rfl, ?_⟩) (by assumption) ?_
  rotate_left
  · (intro w hSw; (try dsimp only at hSw); simp only [List.getElem_toArray, List.getElem_cons_zero, List.getElem_cons_succ]; go_simp; first | done | with_reducible rfl)
  simp only [List.getElem_toArray, List.getElem_cons_zero, List.getElem_cons_succ, Act.put, List.setIfInBounds_toArray, List.set_cons_zero, List.set_cons_succ]
  refine wpAnyH_take (i := 2) (v := ?_) rfl (by kernel_rfl) (by kernel_rfl) (by kernel_rfl) (fun _ _ _ h => h) (Or.inl ⟨by rfl, ?_⟩) (by assumption) ?_
  rotate_left
  · (intro w hSw; (try dsimp only at hSw); simp only [List.getElem_toArray, List.getElem_cons_zero, List.getElem_cons_succ]; go_simp; first | done | with_reducible rfl)
  simp only [List.getElem_toArray, List.getElem_cons_zero, List.getElem_cons_succ, Act.put, List.setIfInBounds_toArray, List.set_cons_zero, List.set_cons_succ]
  refine wpAnyH_take (i := 5) (v := ?_) rfl (by kernel_rfl) (by kernel_rfl) (by kernel_rfl) (fun _ _ _ h => h) (Or.inl ⟨by rfl, ?_⟩) (by assumption) ?_
  rotate_left
  · (intro w hSw; (try dsimp only at hSw); simp only [List.getElem_toArray, List.getElem_cons_zero, List.getElem_cons_succ]; go_simp; first | done | with_reducible rfl)
  simp only [List.getElem_toArray, List.getElem_cons_zero, List.getElem_cons_succ, Act.put, List.setIfInBounds_toArray, List.set_cons_zero, List.set_cons_succ]
  refine wpAnyH_take (i := 7) (v := ?_) rfl (by kernel_rfl) (by kernel_rfl) (by kernel_rfl) (fun _ _ _ h => h) (Or.inl ⟨by rfl, ?_⟩) (by assumption) ?_
  rotate_left
  · (intro w hSw; (try dsimp only at hSw); simp only [List.getElem_toArray, List.getElem_cons_zero, List.getElem_cons_succ]; go_simp; first | done | with_reducible rfl)
  simp only [List.getElem_toArray, List.getElem_cons_zero, List.getElem_cons_succ, Act.put, List.setIfInBounds_toArray, List.set_cons_zero, List.set_cons_succ]
  refine wpAnyH_take (i := 10) (v := ?_) rfl (by kernel_rfl) (by kernel_rfl) (by kernel_rfl) (fun _ _ _ h => h) (Or.inl ⟨by rfl, ?_⟩) (by assumption) ?_
  rotate_left
  · (intro w hSw; (try dsimp only at hSw); simp only [List.getElem_toArray, List.getElem_cons_zero, List.getElem_cons_succ]; go_simp; first | done | with_reducible rfl)
  simp only [List.getElem_toArray, List.getElem_cons_zero, List.getElem_cons_succ, Act.put, List.setIfInBounds_toArray, List.set_cons_zero, List.set_cons_succ]
  refine wpAnyH_take (i := 12) (v := ?_) rfl (by kernel_rfl) (by kernel_rfl) (by kernel_rfl) (fun _ _ _ h => h) (Or.inl ⟨by rfl, ?_⟩) (by assumption) ?_
  rotate_left
  · (intro w hSw; (try dsimp only at hSw); simp only [List.getElem_toArray, List.getElem_cons_zero, List.getElem_cons_succ]; go_simp; first | done | with_reducible rfl)
  simp only [List.getElem_toArray, List.getElem_cons_zero, List.getElem_cons_succ, Act.put, List.setIfInBounds_toArray, List.set_cons_zero, List.set_cons_succ]
  refine wpAnyH_take (i := 15) (v := ?_) rfl (by kernel_rfl) (by kernel_rfl) (by kernel_rfl) (fun _ _ _ h => h) (Or.inl ⟨by rfl, ?_⟩) (by assumption) ?_
  rotate_left
  · (intro w hSw; (try dsimp only at hSw); simp only [List.getElem_toArray, List.getElem_cons_zero, List.getElem_cons_succ]; go_simp; first | done | with_reducible rfl)
  simp only [List.getElem_toArray, List.getElem_cons_zero, List.getElem_cons_succ, Act.put, List.setIfInBounds_toArray, List.set_cons_zero, List.set_cons_succ]
  refine wpAnyH_take (i := 17) (v := ?_) rfl (by kernel_rfl) (by kernel_rfl) (by kernel_rfl) (fun _ _ _ h => h) (Or.inl ⟨by rfl, ?_⟩) (by assumption) ?_
  rotate_left
  · (intro w hSw; (try dsimp only at hSw); simp only [List.getElem_toArray, List.getElem_cons_zero, List.getElem_cons_succ]; go_simp; first | done | with_reducible rfl)
  simp only [List.getElem_toArray, List.getElem_cons_zero, List.getElem_cons_succ, Act.put, List.setIfInBounds_toArray, List.set_cons_zero, List.set_cons_succ]
  refine wpAnyH_take (i := 1) (v := ?_) rfl (by kernel_rfl) (by kernel_rfl) (by kernel_rfl) (fun _ _ _ h => h) (Or.inl ⟨by rfl, ?_⟩) (by assumption) ?_
  rotate_left
  · (intro w hSw; (try dsimp only at hSw); simp only [List.getElem_toArray, List.getElem_cons_zero, List.getElem_cons_succ]; go_simp; first | done | with_reducible rfl)
  simp only [List.getElem_toArray, List.getElem_cons_zero, List.getElem_cons_succ, Act.put, List.setIfInBounds_toArray, List.set_cons_zero, List.set_cons_succ]
  refine wpAnyH_take (i := 3) (v := ?_) rfl (by kernel_rfl) (by kernel_rfl) (by kernel_rfl) (fun _ _ _ h => h) (Or.inl ⟨by rfl, ?_⟩) (by assumption) ?_
  rotate_left
  · (intro w hSw; (try dsimp only at hSw); simp only [List.getElem_toArray, List.getElem_cons_zero, List.getElem_cons_succ]; go_simp; first | done | with_reducible rfl)
  simp only [List.getElem_toArray, List.getElem_cons_zero, List.getElem_cons_succ, Act.put, List.setIfInBounds_toArray, List.set_cons_zero, List.set_cons_succ]
  refine wpAnyH_take (i := 6) (v := ?_) rfl (by kernel_rfl) (by kernel_rfl) (by kernel_rfl) (fun _ _ _ h => h) (Or.inl ⟨by rfl, ?_⟩) (by assumption) ?_
  rotate_left
  · (intro w hSw; (try dsimp only at hSw); simp only [List.getElem_toArray, List.getElem_cons_zero, List.getElem_cons_succ]; go_simp; first | done | with_reducible rfl)
  simp only [List.getElem_toArray, List.getElem_cons_zero, List.getElem_cons_succ, Act.put, List.setIfInBounds_toArray, List.set_cons_zero, List.set_cons_succ]
  refine wpAnyH_take (i := 8) (v := ?_) rfl (by kernel_rfl) (by kernel_rfl) (by kernel_rfl) (fun _ _ _ h => h) (Or.inl ⟨by rfl, ?_⟩) (by assumption) ?_
  rotate_left
  · (intro w hSw; (try dsimp only at hSw); simp only [List.getElem_toArray, List.getElem_cons_zero, List.getElem_cons_succ]; go_simp; first | done | with_reducible rfl)
  simp only [List.getElem_toArray, List.getElem_cons_zero, List.getElem_cons_succ, Act.put, List.setIfInBounds_toArray, List.set_cons_zero, List.set_cons_succ]
  refine wpAnyH_take (i := 11) (v := ?_) rfl (by kernel_rfl) (by kernel_rfl) (by kernel_rfl) (fun _ _ _ h => h) (Or.inl ⟨by rfl, ?_⟩) (by assumption) ?_
  rotate_left
  · (intro w hSw; (try dsimp only at hSw); simp only [List.getElem_toArray, List.getElem_cons_zero, List.getElem_cons_succ]; go_simp; first | done | with_reducible rfl)
  simp only [List.getElem_toArray, List.getElem_cons_zero, List.getElem_cons_succ, Act.put, List.setIfInBounds_toArray, List.set_cons_zero, List.set_cons_succ]
  refine wpAnyH_take (i := 13) (v := ?_) rfl (by kernel_rfl) (by kernel_rfl) (by kernel_rfl) (fun _ _ _ h => h) (Or.inl ⟨by rfl, ?_⟩) (by assumption) ?_
  rotate_left
  · (intro w hSw; (try dsimp only at hSw); simp only [List.getElem_toArray, List.getElem_cons_zero, List.getElem_cons_succ]; go_simp; first | done | with_reducible rfl)
  simp only [List.getElem_toArray, List.getElem_cons_zero, List.getElem_cons_succ, Act.put, List.setIfInBounds_toArray, List.set_cons_zero, List.set_cons_succ]
  refine wpAnyH_take (i := 16) (v := ?_) rfl (by kernel_rfl) (by kernel_rfl) (by kernel_rfl) (fun _ _ _ h => h) (Or.inl ⟨by rfl, ?_⟩) (by assumption) ?_
  rotate_left
  · (intro w hSw; (try dsimp only at hSw); simp only [List.getElem_toArray, List.getElem_cons_zero, List.getElem_cons_succ]; go_simp; first | done | with_reducible rfl)
  simp only [List.getElem_toArray, List.getElem_cons_zero, List.getElem_cons_succ, Act.put, List.setIfInBounds_toArray, List.set_cons_zero, List.set_cons_succ]
  refine wpAnyH_take (i := 18) (v := ?_) rfl (by kernel_rfl) (by kernel_rfl) (by kernel_rfl) (fun _ _ _ h => h) (Or.inl ⟨by rfl, ?_⟩) (by assumption) ?_
  rotate_left
  · (intro w hSw; (try dsimp only at hSw); simp only [List.getElem_toArray, List.getElem_cons_zero, List.getElem_cons_succ]; go_simp; first | done | with_reducible rfl)
  simp only [List.getElem_toArray, List.getElem_cons_zero, List.getElem_cons_succ, Act.put, List.setIfInBounds_toArray, List.set_cons_zero, List.set_cons_succ]
  refine wpAnyH_ready (rs := [4]) (by kernel_rfl) (by simp) ?_
  refine AllReadyH.cons rfl (fun K hK => ?_) (AllReadyH.nil)
  simp only [List.getElem_toArray, List.getElem_cons_zero, List.getElem_cons_succ]
  go_simp
  refine (CK.out _).mono ?_
  rintro e y4 ⟨rfl, hb4⟩
  dsimp only
  have HBE := Lib.hid (bthen HBE.out hb4)
  have hSp := HSS.out _ HBE.out
  clear hHeld
  refine hK.out _ _ hSp (fun hHeld => ?_)
  clear hSp hK K
  try simp only [Act.put, List.setIfInBounds_toArray, List.set_cons_zero, List.set_cons_succ]
  have HC4 := Lib.hid hb4
  clear hb4
  refine wpAnyH_ready (rs := [9]) (by kernel_rfl) (by simp) ?_
  refine AllReadyH.cons rfl (fun K hK => ?_) (AllReadyH.nil)
  simp only [List.getElem_toArray, List.getElem_cons_zero, List.getElem_cons_succ]
  go_simp
  refine (C3.out _).mono ?_
  rintro e y9 ⟨rfl, hb9⟩
  dsimp only
  have HBE := Lib.hid (bthen HBE.out hb9)
  have hSp := HSS.out _ HBE.out
  clear hHeld
  refine hK.out _ _ hSp (fun hHeld => ?_)
  clear hSp hK K
  try simp only [Act.put, List.setIfInBounds_toArray, List.set_cons_zero, List.set_cons_succ]
  have HC9 := Lib.hid hb9
  clear hb9
  refine wpAnyH_ready (rs := [14]) (by kernel_rfl) (by simp) ?_
  refine AllReadyH.cons rfl (fun K hK => ?_) (AllReadyH.nil)
  simp only [List.getElem_toArray, List.getElem_cons_zero, List.getElem_cons_succ]
  go_simp
  refine (C6a.out _).mono ?_
  rintro e y14 ⟨rfl, hb14⟩
  dsimp only
  have HBE := Lib.hid (bthen HBE.out hb14)
  have hSp := HSS.out _ HBE.out
  clear hHeld
  refine hK.out _ _ hSp (fun hHeld => ?_)
  clear hSp hK K
  try simp only [Act.put, List.setIfInBounds_toArray, List.set_cons_zero, List.set_cons_succ]
  have HC14 := Lib.hid hb14
  clear hb14
  refine wpAnyH_ready (rs := [19]) (by kernel_rfl) (by simp) ?_
  refine AllReadyH.cons rfl (fun K hK => ?_) (AllReadyH.nil)
  simp only [List.getElem_toArray, List.getElem_cons_zero, List.getElem_cons_succ]
  go_simp
  refine (C6b.out _).mono ?_
  rintro e y19 ⟨rfl, hb19⟩
  dsimp only
  have HBE := Lib.hid (bthen HBE.out hb19)
  have hSp := HSS.out _ HBE.out
  clear hHeld
  refine hK.out _ _ hSp (fun hHeld => ?_)
  clear hSp hK K
  try simp only [Act.put, List.setIfInBounds_toArray, List.set_cons_zero, List.set_cons_succ]
  have HC19 := Lib.hid hb19
  clear hb19
  refine wpAnyH_ready (rs := [20]) (by kernel_rfl) (by simp) ?_
  refine AllReadyH.cons rfl (fun K hK => ?_) (AllReadyH.nil)
  simp only [List.getElem_toArray, List.getElem_cons_zero, List.getElem_cons_succ]
  go_simp
  obtain ⟨b20, hw20⟩ : ∃ b, y19.heap.size = b := ⟨_, rfl⟩
  obtain ⟨y20, hy20⟩ : ∃ y, y19.alloc (.cells #[.int .i64 ra, .int .i64 rb, .int .i64 rc, .int .i64 rd] 3) = y := ⟨_, rfl⟩
  rw [hy20, hw20]
  have hx20 : Below y19.heap.size y19 y20 := by rw [← hy20]; exact balloc (Below.refl _ _) _
  have HN20 : Hid (y20.heap[b20]? = some (.cells #[.int .i64 ra, .int .i64 rb, .int .i64 rc, .int .i64 rd] 3 (0, 0))) := Lib.hid (by rw [← hy20, ← hw20]; exact heap_alloc_new _ _)
  have HG20 : Hid (w2.heap.size ≤ b20) := Lib.hid (by have := HBE.out.size; omega)
  clear hy20 hw20
  have HBE := Lib.hid (bthen HBE.out hx20)
  have hSp := HSS.out _ HBE.out
  clear hHeld
  refine hK.out _ _ hSp (fun hHeld => ?_)
  clear hSp hK K
  try simp only [Act.put, List.setIfInBounds_toArray, List.set_cons_zero, List.set_cons_succ]
  clear hx20
  refine wpAnyH_ready (rs := [21]) (by kernel_rfl) (by simp) ?_
  refine AllReadyH.cons rfl (fun K hK => ?_) (AllReadyH.nil)
  simp only [List.getElem_toArray, List.getElem_cons_zero, List.getElem_cons_succ]
  go_simp
  refine (COR.out _ b20 HN20.out).mono ?_
  rintro e y21 ⟨rfl, hb21⟩
  dsimp only
  have HBE := Lib.hid (bthen HBE.out hb21)
  have hSp := HSS.out _ HBE.out
  clear hHeld
  refine hK.out _ _ hSp (fun hHeld => ?_)
  clear hSp hK K
  try simp only [Act.put, List.setIfInBounds_toArray, List.set_cons_zero, List.set_cons_succ]
  have HN20 := Lib.hid ((hb21.block b20 (Array.getElem?_eq_some_iff.1 HN20.out).1).trans HN20.out)
  have HC21 := Lib.hid hb21
  clear hb21
  refine wpAnyH_take (i := 22) (v := ?_) rfl (by kernel_rfl) (by kernel_rfl) (by kernel_rfl) (fun _ _ _ h => h) (Or.inl ⟨by rfl, ?_⟩) (by assumption) ?_
  rotate_left
  · (intro w hSw; (try dsimp only at hSw); simp only [List.getElem_toArray, List.getElem_cons_zero, List.getElem_cons_succ]; go_simp; first | done | with_reducible rfl)
  simp only [List.getElem_toArray, List.getElem_cons_zero, List.getElem_cons_succ, Act.put, List.setIfInBounds_toArray, List.set_cons_zero, List.set_cons_succ]
  refine wpAnyH_done (by kernel_rfl) ?_ _
  have HEND := Lib.hid hHeld.2
  have HSE := Lib.hid hHeld.1
  clear hHeld
  clear HSS HSE HEND
  go_wp2_with fail
  go_ret
  exact ⟨HFE.out, bthn HB2.out HBE.out⟩
set_option maxRecDepth 100000 in
set_option maxHeartbeats 6400000 in
theorem less_at (w : World) (x y : Flt) : Calls Tryz.prog 38 #[.agg (fltC x), .agg (fltC y)] w fun e w' => e = .returned (.bool (ltF x y)) ∧ Below w.heap.size w w' := by
  have CC : Hid (∀ X, Calls Tryz.prog 96 #[.agg (fltC x), .agg (fltC y)] X fun e w' => e = .returned (.int .i64 (cmpF x y)) ∧ Below X.heap.size X w') := Lib.hid (fun X => compare_at X x y)
  unfold ltF
  obtain ⟨r, hr⟩ : ∃ r, cmpF x y = r := ⟨_, rfl⟩
  rw [hr] at CC ⊢
  clear hr
  obtain ⟨a0, b0, c0, d0⟩ := x
  obtain ⟨a1, b1, c1, d1⟩ := y
  unfold fltC at CC ⊢
  dsimp only at CC ⊢
  obtain ⟨w1, hw1⟩ : ∃ W, w.alloc (.cells #[.int .i64 a0, .int .u32 (b0 : Int), .int .u64 (c0 : Int), .int .u64 (d0 : Int)] 83) = W := ⟨_, rfl⟩
  have hb1 : Below w.heap.size w w1 := by rw [← hw1]; exact balloc (Below.refl _ _) _
  have hx1 : w1.heap[w.heap.size]? = some (.cells #[.int .i64 a0, .int .u32 (b0 : Int), .int .u64 (c0 : Int), .int .u64 (d0 : Int)] 83 (0, 0)) := by rw [← hw1]; exact heap_alloc_new _ _
  obtain ⟨w2, hw2⟩ : ∃ W, w1.alloc (.cells #[.int .i64 a1, .int .u32 (b1 : Int), .int .u64 (c1 : Int), .int .u64 (d1 : Int)] 83) = W := ⟨_, rfl⟩
  have hb2 : Below w1.heap.size w1 w2 := by rw [← hw2]; exact balloc (Below.refl _ _) _
  have hx2 : w2.heap[w1.heap.size]? = some (.cells #[.int .i64 a1, .int .u32 (b1 : Int), .int .u64 (c1 : Int), .int .u64 (d1 : Int)] 83 (0, 0)) := by rw [← hw2]; exact heap_alloc_new _ _
  obtain ⟨p, hp⟩ : ∃ p, w.heap.size = p := ⟨_, rfl⟩
  obtain ⟨q, hq⟩ : ∃ p, w1.heap.size = p := ⟨_, rfl⟩
  rw [hp] at hx1
  rw [hq] at hx2
  have HX2 := Lib.hid hx2
  have HX1 := Lib.hid ((hb2.block _ (Array.getElem?_eq_some_iff.1 hx1).1).trans hx1)
  have HPL : Hid (p < w2.heap.size ∧ q < w2.heap.size) := Lib.hid ⟨(Array.getElem?_eq_some_iff.1 HX1.out).1, (Array.getElem?_eq_some_iff.1 hx2).1⟩
  have HB2 : Hid (Below w.heap.size w w2) := Lib.hid (bthn hb1 hb2)
  clear hb1 hx1 hb2 hx2
  go_enter Tryz.func38, Tryz.ntmps38
  go_upto_region 1 with fail
  (try rw [hw1])
  (try rw [hp])
  (try rw [hw2])
  (try rw [hq])
  clear hw1 hw2 hp hq
  have k0 := cellOf HX1.out 0 (v := .int .i64 a0) rfl
  have k1 := cellOf HX1.out 1 (v := .int .u32 (b0 : Int)) rfl
  have k2 := cellOf HX1.out 2 (v := .int .u64 (c0 : Int)) rfl
  have k3 := cellOf HX1.out 3 (v := .int .u64 (d0 : Int)) rfl
  have l0 := cellOf HX2.out 0 (v := .int .i64 a1) rfl
  have l1 := cellOf HX2.out 1 (v := .int .u32 (b1 : Int)) rfl
  have l2 := cellOf HX2.out 2 (v := .int .u64 (c1 : Int)) rfl
  have l3 := cellOf HX2.out 3 (v := .int .u64 (d1 : Int)) rfl
  have C := CC.out w2
  go_wp2_with fail
  refine C.mono ?_
  rintro e w3 ⟨rfl, hb3⟩
  have HB3 := Lib.hid (bthn HB2.out hb3)
  clear C hb3
  go_wp2_with fail
  go_ret
  exact ⟨rfl, HB3.out⟩
set_option maxRecDepth 100000 in
set_option maxHeartbeats 6400000 in
theorem rless_at (w : World) (x y : Flt) : Calls Tryz.prog 39 #[.agg (fltC x), .agg (fltC y)] w fun e w' => e = .returned (.bool (ltF x y)) ∧ Below w.heap.size w w' := by
  rw [ltF_eq]
  obtain ⟨a0, b0, c0, d0⟩ := x
  obtain ⟨a1, b1, c1, d1⟩ := y
  unfold fltC
  dsimp only
  obtain ⟨w1, hw1⟩ : ∃ W, w.alloc (.cells #[.int .i64 a0, .int .u32 (b0 : Int), .int .u64 (c0 : Int), .int .u64 (d0 : Int)] 83) = W := ⟨_, rfl⟩
  have hb1 : Below w.heap.size w w1 := by rw [← hw1]; exact balloc (Below.refl _ _) _
  have hx1 : w1.heap[w.heap.size]? = some (.cells #[.int .i64 a0, .int .u32 (b0 : Int), .int .u64 (c0 : Int), .int .u64 (d0 : Int)] 83 (0, 0)) := by rw [← hw1]; exact heap_alloc_new _ _
  obtain ⟨w2, hw2⟩ : ∃ W, w1.alloc (.cells #[.int .i64 a1, .int .u32 (b1 : Int), .int .u64 (c1 : Int), .int .u64 (d1 : Int)] 83) = W := ⟨_, rfl⟩
  have hb2 : Below w1.heap.size w1 w2 := by rw [← hw2]; exact balloc (Below.refl _ _) _
  have hx2 : w2.heap[w1.heap.size]? = some (.cells #[.int .i64 a1, .int .u32 (b1 : Int), .int .u64 (c1 : Int), .int .u64 (d1 : Int)] 83 (0, 0)) := by rw [← hw2]; exact heap_alloc_new _ _
  obtain ⟨p, hp⟩ : ∃ p, w.heap.size = p := ⟨_, rfl⟩
  obtain ⟨q, hq⟩ : ∃ p, w1.heap.size = p := ⟨_, rfl⟩
  rw [hp] at hx1
  rw [hq] at hx2
  have HX2 := Lib.hid hx2
  have HX1 := Lib.hid ((hb2.block _ (Array.getElem?_eq_some_iff.1 hx1).1).trans hx1)
  have HPL : Hid (p < w2.heap.size ∧ q < w2.heap.size) := Lib.hid ⟨(Array.getElem?_eq_some_iff.1 HX1.out).1, (Array.getElem?_eq_some_iff.1 hx2).1⟩
  have HB2 : Hid (Below w.heap.size w w2) := Lib.hid (bthn hb1 hb2)
  clear hb1 hx1 hb2 hx2
  by_cases e1 : a0 = a1
  · rw [if_neg (by simpa using e1)]
    have q1 : (a0 != a1) = false := by simpa using e1
    by_cases e2 : (b0 : Int) = b1
    · rw [if_neg (by simpa using e2)]
      have q2 : ((b0 : Int) != (b1 : Int)) = false := by simpa using e2
      by_cases e3 : (c0 : Int) = c1
      · rw [if_neg (by simpa using e3)]
        have q3 : ((c0 : Int) != (c1 : Int)) = false := by simpa using e3
        simp only [Int.ofNat_lt]
        clear e1 e2 e3
        go_enter Tryz.func39, Tryz.ntmps39
        go_upto_region 1 with fail
        (try rw [hw1])
        (try rw [hp])
        (try rw [hw2])
        (try rw [hq])
        clear hw1 hw2 hp hq
        have k0 := cellOf HX1.out 0 (v := .int .i64 a0) rfl
        have k1 := cellOf HX1.out 1 (v := .int .u32 (b0 : Int)) rfl
        have k2 := cellOf HX1.out 2 (v := .int .u64 (c0 : Int)) rfl
        have k3 := cellOf HX1.out 3 (v := .int .u64 (d0 : Int)) rfl
        have l0 := cellOf HX2.out 0 (v := .int .i64 a1) rfl
        have l1 := cellOf HX2.out 1 (v := .int .u32 (b1 : Int)) rfl
        have l2 := cellOf HX2.out 2 (v := .int .u64 (c1 : Int)) rfl
        have l3 := cellOf HX2.out 3 (v := .int .u64 (d1 : Int)) rfl
        go_wp2_with fail
        go_ret
        exact ⟨rfl, HB2.out⟩
      · rw [if_pos e3]
        have q3 : ((c0 : Int) != (c1 : Int)) = true := by simpa using e3
        simp only [Int.ofNat_lt]
        clear e1 e2 e3
        go_enter Tryz.func39, Tryz.ntmps39
        go_upto_region 1 with fail
        (try rw [hw1])
        (try rw [hp])
        (try rw [hw2])
        (try rw [hq])
        clear hw1 hw2 hp hq
        have k0 := cellOf HX1.out 0 (v := .int .i64 a0) rfl
        have k1 := cellOf HX1.out 1 (v := .int .u32 (b0 : Int)) rfl
        have k2 := cellOf HX1.out 2 (v := .int .u64 (c0 : Int)) rfl
        have k3 := cellOf HX1.out 3 (v := .int .u64 (d0 : Int)) rfl
        have l0 := cellOf HX2.out 0 (v := .int .i64 a1) rfl
        have l1 := cellOf HX2.out 1 (v := .int .u32 (b1 : Int)) rfl
        have l2 := cellOf HX2.out 2 (v := .int .u64 (c1 : Int)) rfl
        have l3 := cellOf HX2.out 3 (v := .int .u64 (d1 : Int)) rfl
        go_wp2_with fail
        go_ret
        exact ⟨rfl, HB2.out⟩
    · rw [if_pos e2]
      have q2 : ((b0 : Int) != (b1 : Int)) = true := by simpa using e2
      simp only [Int.ofNat_lt]
      clear e1 e2
      go_enter Tryz.func39, Tryz.ntmps39
      go_upto_region 1 with fail
      (try rw [hw1])
      (try rw [hp])
      (try rw [hw2])
      (try rw [hq])
      clear hw1 hw2 hp hq
      have k0 := cellOf HX1.out 0 (v := .int .i64 a0) rfl
      have k1 := cellOf HX1.out 1 (v := .int .u32 (b0 : Int)) rfl
      have k2 := cellOf HX1.out 2 (v := .int .u64 (c0 : Int)) rfl
      have k3 := cellOf HX1.out 3 (v := .int .u64 (d0 : Int)) rfl
      have l0 := cellOf HX2.out 0 (v := .int .i64 a1) rfl
      have l1 := cellOf HX2.out 1 (v := .int .u32 (b1 : Int)) rfl
      have l2 := cellOf HX2.out 2 (v := .int .u64 (c1 : Int)) rfl
      have l3 := cellOf HX2.out 3 (v := .int .u64 (d1 : Int)) rfl
      go_wp2_with fail
      go_ret
      exact ⟨rfl, HB2.out⟩
  · rw [if_pos e1]
    have q1 : (a0 != a1) = true := by simpa using e1
    clear e1
    go_enter Tryz.func39, Tryz.ntmps39
    go_upto_region 1 with fail
    (try rw [hw1])
    (try rw [hp])
    (try rw [hw2])
    (try rw [hq])
    clear hw1 hw2 hp hq
    have k0 := cellOf HX1.out 0 (v := .int .i64 a0) rfl
    have k1 := cellOf HX1.out 1 (v := .int .u32 (b0 : Int)) rfl
    have k2 := cellOf HX1.out 2 (v := .int .u64 (c0 : Int)) rfl
    have k3 := cellOf HX1.out 3 (v := .int .u64 (d0 : Int)) rfl
    have l0 := cellOf HX2.out 0 (v := .int .i64 a1) rfl
    have l1 := cellOf HX2.out 1 (v := .int .u32 (b1 : Int)) rfl
    have l2 := cellOf HX2.out 2 (v := .int .u64 (c1 : Int)) rfl
    have l3 := cellOf HX2.out 3 (v := .int .u64 (d1 : Int)) rfl
    go_wp2_with fail
    go_ret
    exact ⟨rfl, HB2.out⟩
theorem infoFlt : (Tryz.prog.info? 83).map (·.size) = some 4 := by kernel_rfl
theorem flt_ne {x y : Flt} (h : x ≠ y) : x.k = y.k → (x.b : Int) = (y.b : Int) → (x.t : Int) = (y.t : Int) → ¬ (x.g : Int) = (y.g : Int) := fun e0 e1 e2 e3 => by
  obtain ⟨a0, b0, c0, d0⟩ := x
  obtain ⟨a1, b1, c1, d1⟩ := y
  dsimp only at e0 e1 e2 e3
  obtain rfl : b0 = b1 := by omega
  obtain rfl : c0 = c1 := by omega
  obtain rfl : d0 = d1 := by omega
  subst e0
  exact h rfl
theorem flt_eq {x y : Flt} (h : x = y) : x.k = y.k ∧ (x.b : Int) = (y.b : Int) ∧ (x.t : Int) = (y.t : Int) ∧ (x.g : Int) = (y.g : Int) := by
  subst h
  exact ⟨rfl, rfl, rfl, rfl⟩
set_option maxRecDepth 100000 in
set_option maxHeartbeats 12800000 in
theorem checkOrders_at (w : World) (x y : Flt) : Calls Tryz.prog 6 #[.agg (fltC x), .agg (fltC y)] w fun e w' => e = .returned (.bool true) ∧ Below w.heap.size w w' := by
  have CLA : Hid (∀ X, Calls Tryz.prog 38 #[.agg (fltC x), .agg (fltC y)] X fun e w' => e = .returned (.bool (ltF x y)) ∧ Below X.heap.size X w') := Lib.hid (fun X => less_at X x y)
  have CLR : Hid (∀ X, Calls Tryz.prog 39 #[.agg (fltC x), .agg (fltC y)] X fun e w' => e = .returned (.bool (ltF x y)) ∧ Below X.heap.size X w') := Lib.hid (fun X => rless_at X x y)
  have CLB : Hid (∀ X, Calls Tryz.prog 38 #[.agg (fltC y), .agg (fltC x)] X fun e w' => e = .returned (.bool (ltF y x)) ∧ Below X.heap.size X w') := Lib.hid (fun X => less_at X y x)
  cases h1 : ltF x y
  · rw [h1] at CLA CLR
    cases h2 : ltF y x
    · rw [h2] at CLB
      have hne := flt_eq (ltF_tot h1 h2)
      clear h1 h2
      have HNE := Lib.hid hne
      obtain ⟨a0, b0, c0, d0⟩ := x
      obtain ⟨a1, b1, c1, d1⟩ := y
      unfold fltC at CLA CLR CLB ⊢
      dsimp only at CLA CLR CLB HNE ⊢
      obtain ⟨w1, hw1⟩ : ∃ W, w.alloc (.cells #[.int .i64 a0, .int .u32 (b0 : Int), .int .u64 (c0 : Int), .int .u64 (d0 : Int)] 83) = W := ⟨_, rfl⟩
      have hb1 : Below w.heap.size w w1 := by rw [← hw1]; exact balloc (Below.refl _ _) _
      have hx1 : w1.heap[w.heap.size]? = some (.cells #[.int .i64 a0, .int .u32 (b0 : Int), .int .u64 (c0 : Int), .int .u64 (d0 : Int)] 83 (0, 0)) := by rw [← hw1]; exact heap_alloc_new _ _
      obtain ⟨w2, hw2⟩ : ∃ W, w1.alloc (.cells #[.int .i64 a1, .int .u32 (b1 : Int), .int .u64 (c1 : Int), .int .u64 (d1 : Int)] 83) = W := ⟨_, rfl⟩
      have hb2 : Below w1.heap.size w1 w2 := by rw [← hw2]; exact balloc (Below.refl _ _) _
      have hx2 : w2.heap[w1.heap.size]? = some (.cells #[.int .i64 a1, .int .u32 (b1 : Int), .int .u64 (c1 : Int), .int .u64 (d1 : Int)] 83 (0, 0)) := by rw [← hw2]; exact heap_alloc_new _ _
      obtain ⟨p, hp⟩ : ∃ p, w.heap.size = p := ⟨_, rfl⟩
      obtain ⟨q, hq⟩ : ∃ p, w1.heap.size = p := ⟨_, rfl⟩
      rw [hp] at hx1
      rw [hq] at hx2
      have HX2 := Lib.hid hx2
      have HX1 := Lib.hid ((hb2.block _ (Array.getElem?_eq_some_iff.1 hx1).1).trans hx1)
      have HPL : Hid (p < w2.heap.size ∧ q < w2.heap.size) := Lib.hid ⟨(Array.getElem?_eq_some_iff.1 HX1.out).1, (Array.getElem?_eq_some_iff.1 hx2).1⟩
      have HB2 : Hid (Below w.heap.size w w2) := Lib.hid (bthn hb1 hb2)
      clear hb1 hx1 hb2 hx2
      have HR1 : Hid (w2.rangeAt p 0 [.int .i64 a0, .int .u32 (b0 : Int), .int .u64 (c0 : Int), .int .u64 (d0 : Int)]) := Lib.hid (rangeOf HX1.out)
      have HR2 : Hid (w2.rangeAt q 0 [.int .i64 a1, .int .u32 (b1 : Int), .int .u64 (c1 : Int), .int .u64 (d1 : Int)]) := Lib.hid (rangeOf HX2.out)
      clear hne
      go_enter Tryz.func6, Tryz.ntmps6
      go_upto_region 1 with fail
      (try rw [hw1])
      (try rw [hp])
      (try rw [hw2])
      (try rw [hq])
      clear hw1 hw2 hp hq
      have HSS : Hid (∀ X, Below w2.heap.size w2 X → (X.rangeAt p 0 [.int .i64 a0, .int .u32 (b0 : Int), .int .u64 (c0 : Int), .int .u64 (d0 : Int)] ∧ X.rangeAt q 0 [.int .i64 a1, .int .u32 (b1 : Int), .int .u64 (c1 : Int), .int .u64 (d1 : Int)]) ∧ Below w2.heap.size w2 X) := Lib.hid (fun X hb => ⟨⟨(rangeSt HR1.out HPL.out.1 hb), (rangeSt HR2.out HPL.out.2 hb)⟩, hb⟩)
      refine wp_region_held_drew (S := fun X => (X.rangeAt p 0 [.int .i64 a0, .int .u32 (b0 : Int), .int .u64 (c0 : Int), .int .u64 (d0 : Int)] ∧ X.rangeAt q 0 [.int .i64 a1, .int .u32 (b1 : Int), .int .u64 (c1 : Int), .int .u64 (d1 : Int)]) ∧ Below w2.heap.size w2 X) (by kernel_rfl) (HSS.out _ (Below.refl _ _).drew) (fun hHeld => ?_)
      have hbe : Below w2.heap.size w2 w2.drew := (Below.refl _ _).drew
      obtain ⟨wd, hwd⟩ : ∃ y, w2.drew = y := ⟨_, rfl⟩
      rw [hwd] at hHeld hbe ⊢
      have HBE := Lib.hid hbe
      have HS0 : Hid (w2.heap.size ≤ wd.heap.size) := Lib.hid HBE.out.size
      clear hwd hbe
      refine wpAnyH_take (i := 0) (v := _) rfl (by kernel_rfl) (by kernel_rfl) (by kernel_rfl) (fun _ _ _ h => h) (yieldsIf_load_mid (by rfl) 83 _ rfl (p) (0) rfl ([.int .i64 a0, .int .u32 (b0 : Int), .int .u64 (c0 : Int), .int .u64 (d0 : Int)]) _ (fun w hSw => hSw.1.1) (Tryz.underlying83) rfl (infoFlt)) (by assumption) ?_
      simp only [List.getElem_toArray, List.getElem_cons_zero, List.getElem_cons_succ, Act.put, List.setIfInBounds_toArray, List.set_cons_zero, List.set_cons_succ]
      refine wpAnyH_take (i := 1) (v := _) rfl (by kernel_rfl) (by kernel_rfl) (by kernel_rfl) (fun _ _ _ h => h) (yieldsIf_load_mid (by rfl) 83 _ rfl (q) (0) rfl ([.int .i64 a1, .int .u32 (b1 : Int), .int .u64 (c1 : Int), .int .u64 (d1 : Int)]) _ (fun w hSw => hSw.1.2) (Tryz.underlying83) rfl (infoFlt)) (by assumption) ?_
      simp only [List.getElem_toArray, List.getElem_cons_zero, List.getElem_cons_succ, Act.put, List.setIfInBounds_toArray, List.set_cons_zero, List.set_cons_succ]
      refine wpAnyH_take (i := 3) (v := _) rfl (by kernel_rfl) (by kernel_rfl) (by kernel_rfl) (fun _ _ _ h => h) (yieldsIf_load_mid (by rfl) 83 _ rfl (p) (0) rfl ([.int .i64 a0, .int .u32 (b0 : Int), .int .u64 (c0 : Int), .int .u64 (d0 : Int)]) _ (fun w hSw => hSw.1.1) (Tryz.underlying83) rfl (infoFlt)) (by assumption) ?_
      simp only [List.getElem_toArray, List.getElem_cons_zero, List.getElem_cons_succ, Act.put, List.setIfInBounds_toArray, List.set_cons_zero, List.set_cons_succ]
      refine wpAnyH_take (i := 4) (v := _) rfl (by kernel_rfl) (by kernel_rfl) (by kernel_rfl) (fun _ _ _ h => h) (yieldsIf_load_mid (by rfl) 83 _ rfl (q) (0) rfl ([.int .i64 a1, .int .u32 (b1 : Int), .int .u64 (c1 : Int), .int .u64 (d1 : Int)]) _ (fun w hSw => hSw.1.2) (Tryz.underlying83) rfl (infoFlt)) (by assumption) ?_
      simp only [List.getElem_toArray, List.getElem_cons_zero, List.getElem_cons_succ, Act.put, List.setIfInBounds_toArray, List.set_cons_zero, List.set_cons_succ]
      refine wpAnyH_ready (rs := [2]) (by kernel_rfl) (by simp) ?_
      refine AllReadyH.cons rfl (fun K hK => ?_) (AllReadyH.nil)
      simp only [List.getElem_toArray, List.getElem_cons_zero, List.getElem_cons_succ]
      go_simp
      refine (CLA.out _).mono ?_
      rintro e y2 ⟨rfl, hb2⟩
      dsimp only
      have HBE := Lib.hid (bthen HBE.out hb2)
      have hSp := HSS.out _ HBE.out
      clear hHeld
      refine hK.out _ _ hSp (fun hHeld => ?_)
      clear hSp hK K
      try simp only [Act.put, List.setIfInBounds_toArray, List.set_cons_zero, List.set_cons_succ]
      have HC2 := Lib.hid hb2
      clear hb2
      refine wpAnyH_ready (rs := [5]) (by kernel_rfl) (by simp) ?_
      refine AllReadyH.cons rfl (fun K hK => ?_) (AllReadyH.nil)
      simp only [List.getElem_toArray, List.getElem_cons_zero, List.getElem_cons_succ]
      go_simp
      refine (CLR.out _).mono ?_
      rintro e y5 ⟨rfl, hb5⟩
      dsimp only
      have HBE := Lib.hid (bthen HBE.out hb5)
      have hSp := HSS.out _ HBE.out
      clear hHeld
      refine hK.out _ _ hSp (fun hHeld => ?_)
      clear hSp hK K
      try simp only [Act.put, List.setIfInBounds_toArray, List.set_cons_zero, List.set_cons_succ]
      have HC5 := Lib.hid hb5
      clear hb5
      refine wpAnyH_take (i := 6) (v := ?_) rfl (by kernel_rfl) (by kernel_rfl) (by kernel_rfl) (fun _ _ _ h => h) (Or.inl ⟨by rfl, ?_⟩) (by assumption) ?_
      rotate_left
      · (intro w hSw; (try dsimp only at hSw); simp only [List.getElem_toArray, List.getElem_cons_zero, List.getElem_cons_succ]; go_simp; first | done | with_reducible rfl)
      simp only [List.getElem_toArray, List.getElem_cons_zero, List.getElem_cons_succ, Act.put, List.setIfInBounds_toArray, List.set_cons_zero, List.set_cons_succ]
      refine wpAnyH_take (i := 7) (v := ?_) rfl (by kernel_rfl) (by kernel_rfl) (by kernel_rfl) (fun _ _ _ h => h) (Or.inl ⟨by rfl, ?_⟩) (by assumption) ?_
      rotate_left
      · (intro w hSw; (try dsimp only at hSw); simp only [List.getElem_toArray, List.getElem_cons_zero, List.getElem_cons_succ]; go_simp; first | done | with_reducible rfl)
      simp only [List.getElem_toArray, List.getElem_cons_zero, List.getElem_cons_succ, Act.put, List.setIfInBounds_toArray, List.set_cons_zero, List.set_cons_succ]
      refine wpAnyH_take (i := 8) (v := _) rfl (by kernel_rfl) (by kernel_rfl) (by kernel_rfl) (fun _ _ _ h => h) (yieldsIf_load_mid (by rfl) 83 _ rfl (p) (0) rfl ([.int .i64 a0, .int .u32 (b0 : Int), .int .u64 (c0 : Int), .int .u64 (d0 : Int)]) _ (fun w hSw => hSw.1.1) (Tryz.underlying83) rfl (infoFlt)) (by assumption) ?_
      simp only [List.getElem_toArray, List.getElem_cons_zero, List.getElem_cons_succ, Act.put, List.setIfInBounds_toArray, List.set_cons_zero, List.set_cons_succ]
      refine wpAnyH_take (i := 9) (v := _) rfl (by kernel_rfl) (by kernel_rfl) (by kernel_rfl) (fun _ _ _ h => h) (yieldsIf_load_mid (by rfl) 83 _ rfl (q) (0) rfl ([.int .i64 a1, .int .u32 (b1 : Int), .int .u64 (c1 : Int), .int .u64 (d1 : Int)]) _ (fun w hSw => hSw.1.2) (Tryz.underlying83) rfl (infoFlt)) (by assumption) ?_
      simp only [List.getElem_toArray, List.getElem_cons_zero, List.getElem_cons_succ, Act.put, List.setIfInBounds_toArray, List.set_cons_zero, List.set_cons_succ]
      refine wpAnyH_take (i := 16) (v := _) rfl (by kernel_rfl) (by kernel_rfl) (by kernel_rfl) (fun _ _ _ h => h) (yieldsIf_load_mid (by rfl) 83 _ rfl (p) (0) rfl ([.int .i64 a0, .int .u32 (b0 : Int), .int .u64 (c0 : Int), .int .u64 (d0 : Int)]) _ (fun w hSw => hSw.1.1) (Tryz.underlying83) rfl (infoFlt)) (by assumption) ?_
      simp only [List.getElem_toArray, List.getElem_cons_zero, List.getElem_cons_succ, Act.put, List.setIfInBounds_toArray, List.set_cons_zero, List.set_cons_succ]
      refine wpAnyH_take (i := 17) (v := _) rfl (by kernel_rfl) (by kernel_rfl) (by kernel_rfl) (fun _ _ _ h => h) (yieldsIf_load_mid (by rfl) 83 _ rfl (q) (0) rfl ([.int .i64 a1, .int .u32 (b1 : Int), .int .u64 (c1 : Int), .int .u64 (d1 : Int)]) _ (fun w hSw => hSw.1.2) (Tryz.underlying83) rfl (infoFlt)) (by assumption) ?_
      simp only [List.getElem_toArray, List.getElem_cons_zero, List.getElem_cons_succ, Act.put, List.setIfInBounds_toArray, List.set_cons_zero, List.set_cons_succ]
      refine wpAnyH_take (i := 18) (v := .bool false) rfl (by kernel_rfl) (by kernel_rfl) (by kernel_rfl) (fun _ _ _ h => h) (Or.inl ⟨by rfl, ?_⟩) (by assumption) ?_
      · (intro w hSw; simp only [List.getElem_toArray, List.getElem_cons_zero, List.getElem_cons_succ]; (have hnq := HNE.out; go_simp; first | done | exact hnq | with_reducible rfl))
      simp only [List.getElem_toArray, List.getElem_cons_zero, List.getElem_cons_succ, Act.put, List.setIfInBounds_toArray, List.set_cons_zero, List.set_cons_succ]
      refine wpAnyH_ready (rs := [10]) (by kernel_rfl) (by simp) ?_
      refine AllReadyH.cons rfl (fun K hK => ?_) (AllReadyH.nil)
      simp only [List.getElem_toArray, List.getElem_cons_zero, List.getElem_cons_succ]
      go_simp
      refine (CLA.out _).mono ?_
      rintro e y10 ⟨rfl, hb10⟩
      dsimp only
      have HBE := Lib.hid (bthen HBE.out hb10)
      have hSp := HSS.out _ HBE.out
      clear hHeld
      refine hK.out _ _ hSp (fun hHeld => ?_)
      clear hSp hK K
      try simp only [Act.put, List.setIfInBounds_toArray, List.set_cons_zero, List.set_cons_succ]
      have HC10 := Lib.hid hb10
      clear hb10
      refine wpAnyH_take (i := 11) (v := ?_) rfl (by kernel_rfl) (by kernel_rfl) (by kernel_rfl) (fun _ _ _ h => h) (Or.inl ⟨by rfl, ?_⟩) (by assumption) ?_
      rotate_left
      · (intro w hSw; (try dsimp only at hSw); simp only [List.getElem_toArray, List.getElem_cons_zero, List.getElem_cons_succ]; go_simp; first | done | with_reducible rfl)
      simp only [List.getElem_toArray, List.getElem_cons_zero, List.getElem_cons_succ, Act.put, List.setIfInBounds_toArray, List.set_cons_zero, List.set_cons_succ]
      refine wpAnyH_take (i := 12) (v := _) rfl (by kernel_rfl) (by kernel_rfl) (by kernel_rfl) (fun _ _ _ h => h) (yieldsIf_load_mid (by rfl) 83 _ rfl (q) (0) rfl ([.int .i64 a1, .int .u32 (b1 : Int), .int .u64 (c1 : Int), .int .u64 (d1 : Int)]) _ (fun w hSw => hSw.1.2) (Tryz.underlying83) rfl (infoFlt)) (by assumption) ?_
      simp only [List.getElem_toArray, List.getElem_cons_zero, List.getElem_cons_succ, Act.put, List.setIfInBounds_toArray, List.set_cons_zero, List.set_cons_succ]
      refine wpAnyH_take (i := 13) (v := _) rfl (by kernel_rfl) (by kernel_rfl) (by kernel_rfl) (fun _ _ _ h => h) (yieldsIf_load_mid (by rfl) 83 _ rfl (p) (0) rfl ([.int .i64 a0, .int .u32 (b0 : Int), .int .u64 (c0 : Int), .int .u64 (d0 : Int)]) _ (fun w hSw => hSw.1.1) (Tryz.underlying83) rfl (infoFlt)) (by assumption) ?_
      simp only [List.getElem_toArray, List.getElem_cons_zero, List.getElem_cons_succ, Act.put, List.setIfInBounds_toArray, List.set_cons_zero, List.set_cons_succ]
      refine wpAnyH_ready (rs := [14]) (by kernel_rfl) (by simp) ?_
      refine AllReadyH.cons rfl (fun K hK => ?_) (AllReadyH.nil)
      simp only [List.getElem_toArray, List.getElem_cons_zero, List.getElem_cons_succ]
      go_simp
      refine (CLB.out _).mono ?_
      rintro e y14 ⟨rfl, hb14⟩
      dsimp only
      have HBE := Lib.hid (bthen HBE.out hb14)
      have hSp := HSS.out _ HBE.out
      clear hHeld
      refine hK.out _ _ hSp (fun hHeld => ?_)
      clear hSp hK K
      try simp only [Act.put, List.setIfInBounds_toArray, List.set_cons_zero, List.set_cons_succ]
      have HC14 := Lib.hid hb14
      clear hb14
      refine wpAnyH_take (i := 15) (v := ?_) rfl (by kernel_rfl) (by kernel_rfl) (by kernel_rfl) (fun _ _ _ h => h) (Or.inl ⟨by rfl, ?_⟩) (by assumption) ?_
      rotate_left
      · (intro w hSw; (try dsimp only at hSw); simp only [List.getElem_toArray, List.getElem_cons_zero, List.getElem_cons_succ]; go_simp; first | done | with_reducible rfl)
      simp only [List.getElem_toArray, List.getElem_cons_zero, List.getElem_cons_succ, Act.put, List.setIfInBounds_toArray, List.set_cons_zero, List.set_cons_succ]
      refine wpAnyH_take (i := 19) (v := ?_) rfl (by kernel_rfl) (by kernel_rfl) (by kernel_rfl) (fun _ _ _ h => h) (Or.inl ⟨by rfl, ?_⟩) (by assumption) ?_
      rotate_left
      · (intro w hSw; (try dsimp only at hSw); simp only [List.getElem_toArray, List.getElem_cons_zero, List.getElem_cons_succ]; go_simp; first | done | with_reducible rfl)
      simp only [List.getElem_toArray, List.getElem_cons_zero, List.getElem_cons_succ, Act.put, List.setIfInBounds_toArray, List.set_cons_zero, List.set_cons_succ]
      refine wpAnyH_take (i := 20) (v := ?_) rfl (by kernel_rfl) (by kernel_rfl) (by kernel_rfl) (fun _ _ _ h => h) (Or.inl ⟨by rfl, ?_⟩) (by assumption) ?_
      rotate_left
      · (intro w hSw; (try dsimp only at hSw); simp only [List.getElem_toArray, List.getElem_cons_zero, List.getElem_cons_succ]; go_simp; first | done | with_reducible rfl)
      simp only [List.getElem_toArray, List.getElem_cons_zero, List.getElem_cons_succ, Act.put, List.setIfInBounds_toArray, List.set_cons_zero, List.set_cons_succ]
      refine wpAnyH_take (i := 21) (v := ?_) rfl (by kernel_rfl) (by kernel_rfl) (by kernel_rfl) (fun _ _ _ h => h) (Or.inl ⟨by rfl, ?_⟩) (by assumption) ?_
      rotate_left
      · (intro w hSw; (try dsimp only at hSw); simp only [List.getElem_toArray, List.getElem_cons_zero, List.getElem_cons_succ]; go_simp; first | done | with_reducible rfl)
      simp only [List.getElem_toArray, List.getElem_cons_zero, List.getElem_cons_succ, Act.put, List.setIfInBounds_toArray, List.set_cons_zero, List.set_cons_succ]
      refine wpAnyH_ready (rs := [22]) (by kernel_rfl) (by simp) ?_
      refine AllReadyH.cons rfl (fun K hK => ?_) (AllReadyH.nil)
      simp only [List.getElem_toArray, List.getElem_cons_zero, List.getElem_cons_succ]
      go_simp
      refine (known16_at _).mono ?_
      rintro e y22 ⟨rfl, hb22⟩
      dsimp only
      have HBE := Lib.hid (bthen HBE.out hb22)
      have hSp := HSS.out _ HBE.out
      clear hHeld
      refine hK.out _ _ hSp (fun hHeld => ?_)
      clear hSp hK K
      try simp only [Act.put, List.setIfInBounds_toArray, List.set_cons_zero, List.set_cons_succ]
      have HC22 := Lib.hid hb22
      clear hb22
      refine wpAnyH_take (i := 23) (v := ?_) rfl (by kernel_rfl) (by kernel_rfl) (by kernel_rfl) (fun _ _ _ h => h) (Or.inl ⟨by rfl, ?_⟩) (by assumption) ?_
      rotate_left
      · (intro w hSw; (try dsimp only at hSw); simp only [List.getElem_toArray, List.getElem_cons_zero, List.getElem_cons_succ]; go_simp; first | done | with_reducible rfl)
      simp only [List.getElem_toArray, List.getElem_cons_zero, List.getElem_cons_succ, Act.put, List.setIfInBounds_toArray, List.set_cons_zero, List.set_cons_succ]
      refine wpAnyH_take (i := 24) (v := ?_) rfl (by kernel_rfl) (by kernel_rfl) (by kernel_rfl) (fun _ _ _ h => h) (Or.inl ⟨by rfl, ?_⟩) (by assumption) ?_
      rotate_left
      · (intro w hSw; (try dsimp only at hSw); simp only [List.getElem_toArray, List.getElem_cons_zero, List.getElem_cons_succ]; go_simp; first | done | with_reducible rfl)
      simp only [List.getElem_toArray, List.getElem_cons_zero, List.getElem_cons_succ, Act.put, List.setIfInBounds_toArray, List.set_cons_zero, List.set_cons_succ]
      refine wpAnyH_done (by kernel_rfl) ?_ _
      have HEND := Lib.hid hHeld.2
      have HSE := Lib.hid hHeld.1
      clear hHeld
      clear HSS HSE HEND
      go_wp2_with fail
      go_ret
      exact ⟨rfl, bthn HB2.out HBE.out⟩
    · rw [h2] at CLB
      have hne := flt_ne (x := x) (y := y) (by rintro rfl; rw [h1] at h2; cases h2)
      clear h1 h2
      have HNE := Lib.hid hne
      obtain ⟨a0, b0, c0, d0⟩ := x
      obtain ⟨a1, b1, c1, d1⟩ := y
      unfold fltC at CLA CLR CLB ⊢
      dsimp only at CLA CLR CLB HNE ⊢
      obtain ⟨w1, hw1⟩ : ∃ W, w.alloc (.cells #[.int .i64 a0, .int .u32 (b0 : Int), .int .u64 (c0 : Int), .int .u64 (d0 : Int)] 83) = W := ⟨_, rfl⟩
      have hb1 : Below w.heap.size w w1 := by rw [← hw1]; exact balloc (Below.refl _ _) _
      have hx1 : w1.heap[w.heap.size]? = some (.cells #[.int .i64 a0, .int .u32 (b0 : Int), .int .u64 (c0 : Int), .int .u64 (d0 : Int)] 83 (0, 0)) := by rw [← hw1]; exact heap_alloc_new _ _
      obtain ⟨w2, hw2⟩ : ∃ W, w1.alloc (.cells #[.int .i64 a1, .int .u32 (b1 : Int), .int .u64 (c1 : Int), .int .u64 (d1 : Int)] 83) = W := ⟨_, rfl⟩
      have hb2 : Below w1.heap.size w1 w2 := by rw [← hw2]; exact balloc (Below.refl _ _) _
      have hx2 : w2.heap[w1.heap.size]? = some (.cells #[.int .i64 a1, .int .u32 (b1 : Int), .int .u64 (c1 : Int), .int .u64 (d1 : Int)] 83 (0, 0)) := by rw [← hw2]; exact heap_alloc_new _ _
      obtain ⟨p, hp⟩ : ∃ p, w.heap.size = p := ⟨_, rfl⟩
      obtain ⟨q, hq⟩ : ∃ p, w1.heap.size = p := ⟨_, rfl⟩
      rw [hp] at hx1
      rw [hq] at hx2
      have HX2 := Lib.hid hx2
      have HX1 := Lib.hid ((hb2.block _ (Array.getElem?_eq_some_iff.1 hx1).1).trans hx1)
      have HPL : Hid (p < w2.heap.size ∧ q < w2.heap.size) := Lib.hid ⟨(Array.getElem?_eq_some_iff.1 HX1.out).1, (Array.getElem?_eq_some_iff.1 hx2).1⟩
      have HB2 : Hid (Below w.heap.size w w2) := Lib.hid (bthn hb1 hb2)
      clear hb1 hx1 hb2 hx2
      have HR1 : Hid (w2.rangeAt p 0 [.int .i64 a0, .int .u32 (b0 : Int), .int .u64 (c0 : Int), .int .u64 (d0 : Int)]) := Lib.hid (rangeOf HX1.out)
      have HR2 : Hid (w2.rangeAt q 0 [.int .i64 a1, .int .u32 (b1 : Int), .int .u64 (c1 : Int), .int .u64 (d1 : Int)]) := Lib.hid (rangeOf HX2.out)
      clear hne
      go_enter Tryz.func6, Tryz.ntmps6
      go_upto_region 1 with fail
      (try rw [hw1])
      (try rw [hp])
      (try rw [hw2])
      (try rw [hq])
      clear hw1 hw2 hp hq
      have HSS : Hid (∀ X, Below w2.heap.size w2 X → (X.rangeAt p 0 [.int .i64 a0, .int .u32 (b0 : Int), .int .u64 (c0 : Int), .int .u64 (d0 : Int)] ∧ X.rangeAt q 0 [.int .i64 a1, .int .u32 (b1 : Int), .int .u64 (c1 : Int), .int .u64 (d1 : Int)]) ∧ Below w2.heap.size w2 X) := Lib.hid (fun X hb => ⟨⟨(rangeSt HR1.out HPL.out.1 hb), (rangeSt HR2.out HPL.out.2 hb)⟩, hb⟩)
      refine wp_region_held_drew (S := fun X => (X.rangeAt p 0 [.int .i64 a0, .int .u32 (b0 : Int), .int .u64 (c0 : Int), .int .u64 (d0 : Int)] ∧ X.rangeAt q 0 [.int .i64 a1, .int .u32 (b1 : Int), .int .u64 (c1 : Int), .int .u64 (d1 : Int)]) ∧ Below w2.heap.size w2 X) (by kernel_rfl) (HSS.out _ (Below.refl _ _).drew) (fun hHeld => ?_)
      have hbe : Below w2.heap.size w2 w2.drew := (Below.refl _ _).drew
      obtain ⟨wd, hwd⟩ : ∃ y, w2.drew = y := ⟨_, rfl⟩
      rw [hwd] at hHeld hbe ⊢
      have HBE := Lib.hid hbe
      have HS0 : Hid (w2.heap.size ≤ wd.heap.size) := Lib.hid HBE.out.size
      clear hwd hbe
      refine wpAnyH_take (i := 0) (v := _) rfl (by kernel_rfl) (by kernel_rfl) (by kernel_rfl) (fun _ _ _ h => h) (yieldsIf_load_mid (by rfl) 83 _ rfl (p) (0) rfl ([.int .i64 a0, .int .u32 (b0 : Int), .int .u64 (c0 : Int), .int .u64 (d0 : Int)]) _ (fun w hSw => hSw.1.1) (Tryz.underlying83) rfl (infoFlt)) (by assumption) ?_
      simp only [List.getElem_toArray, List.getElem_cons_zero, List.getElem_cons_succ, Act.put, List.setIfInBounds_toArray, List.set_cons_zero, List.set_cons_succ]
      refine wpAnyH_take (i := 1) (v := _) rfl (by kernel_rfl) (by kernel_rfl) (by kernel_rfl) (fun _ _ _ h => h) (yieldsIf_load_mid (by rfl) 83 _ rfl (q) (0) rfl ([.int .i64 a1, .int .u32 (b1 : Int), .int .u64 (c1 : Int), .int .u64 (d1 : Int)]) _ (fun w hSw => hSw.1.2) (Tryz.underlying83) rfl (infoFlt)) (by assumption) ?_
      simp only [List.getElem_toArray, List.getElem_cons_zero, List.getElem_cons_succ, Act.put, List.setIfInBounds_toArray, List.set_cons_zero, List.set_cons_succ]
      refine wpAnyH_take (i := 3) (v := _) rfl (by kernel_rfl) (by kernel_rfl) (by kernel_rfl) (fun _ _ _ h => h) (yieldsIf_load_mid (by rfl) 83 _ rfl (p) (0) rfl ([.int .i64 a0, .int .u32 (b0 : Int), .int .u64 (c0 : Int), .int .u64 (d0 : Int)]) _ (fun w hSw => hSw.1.1) (Tryz.underlying83) rfl (infoFlt)) (by assumption) ?_
      simp only [List.getElem_toArray, List.getElem_cons_zero, List.getElem_cons_succ, Act.put, List.setIfInBounds_toArray, List.set_cons_zero, List.set_cons_succ]
      refine wpAnyH_take (i := 4) (v := _) rfl (by kernel_rfl) (by kernel_rfl) (by kernel_rfl) (fun _ _ _ h => h) (yieldsIf_load_mid (by rfl) 83 _ rfl (q) (0) rfl ([.int .i64 a1, .int .u32 (b1 : Int), .int .u64 (c1 : Int), .int .u64 (d1 : Int)]) _ (fun w hSw => hSw.1.2) (Tryz.underlying83) rfl (infoFlt)) (by assumption) ?_
      simp only [List.getElem_toArray, List.getElem_cons_zero, List.getElem_cons_succ, Act.put, List.setIfInBounds_toArray, List.set_cons_zero, List.set_cons_succ]
      refine wpAnyH_ready (rs := [2]) (by kernel_rfl) (by simp) ?_
      refine AllReadyH.cons rfl (fun K hK => ?_) (AllReadyH.nil)
      simp only [List.getElem_toArray, List.getElem_cons_zero, List.getElem_cons_succ]
      go_simp
      refine (CLA.out _).mono ?_
      rintro e y2 ⟨rfl, hb2⟩
      dsimp only
      have HBE := Lib.hid (bthen HBE.out hb2)
      have hSp := HSS.out _ HBE.out
      clear hHeld
      refine hK.out _ _ hSp (fun hHeld => ?_)
      clear hSp hK K
      try simp only [Act.put, List.setIfInBounds_toArray, List.set_cons_zero, List.set_cons_succ]
      have HC2 := Lib.hid hb2
      clear hb2
      refine wpAnyH_ready (rs := [5]) (by kernel_rfl) (by simp) ?_
      refine AllReadyH.cons rfl (fun K hK => ?_) (AllReadyH.nil)
      simp only [List.getElem_toArray, List.getElem_cons_zero, List.getElem_cons_succ]
      go_simp
      refine (CLR.out _).mono ?_
      rintro e y5 ⟨rfl, hb5⟩
      dsimp only
      have HBE := Lib.hid (bthen HBE.out hb5)
      have hSp := HSS.out _ HBE.out
      clear hHeld
      refine hK.out _ _ hSp (fun hHeld => ?_)
      clear hSp hK K
      try simp only [Act.put, List.setIfInBounds_toArray, List.set_cons_zero, List.set_cons_succ]
      have HC5 := Lib.hid hb5
      clear hb5
      refine wpAnyH_take (i := 6) (v := ?_) rfl (by kernel_rfl) (by kernel_rfl) (by kernel_rfl) (fun _ _ _ h => h) (Or.inl ⟨by rfl, ?_⟩) (by assumption) ?_
      rotate_left
      · (intro w hSw; (try dsimp only at hSw); simp only [List.getElem_toArray, List.getElem_cons_zero, List.getElem_cons_succ]; go_simp; first | done | with_reducible rfl)
      simp only [List.getElem_toArray, List.getElem_cons_zero, List.getElem_cons_succ, Act.put, List.setIfInBounds_toArray, List.set_cons_zero, List.set_cons_succ]
      refine wpAnyH_take (i := 7) (v := ?_) rfl (by kernel_rfl) (by kernel_rfl) (by kernel_rfl) (fun _ _ _ h => h) (Or.inl ⟨by rfl, ?_⟩) (by assumption) ?_
      rotate_left
      · (intro w hSw; (try dsimp only at hSw); simp only [List.getElem_toArray, List.getElem_cons_zero, List.getElem_cons_succ]; go_simp; first | done | with_reducible rfl)
      simp only [List.getElem_toArray, List.getElem_cons_zero, List.getElem_cons_succ, Act.put, List.setIfInBounds_toArray, List.set_cons_zero, List.set_cons_succ]
      refine wpAnyH_take (i := 8) (v := _) rfl (by kernel_rfl) (by kernel_rfl) (by kernel_rfl) (fun _ _ _ h => h) (yieldsIf_load_mid (by rfl) 83 _ rfl (p) (0) rfl ([.int .i64 a0, .int .u32 (b0 : Int), .int .u64 (c0 : Int), .int .u64 (d0 : Int)]) _ (fun w hSw => hSw.1.1) (Tryz.underlying83) rfl (infoFlt)) (by assumption) ?_
      simp only [List.getElem_toArray, List.getElem_cons_zero, List.getElem_cons_succ, Act.put, List.setIfInBounds_toArray, List.set_cons_zero, List.set_cons_succ]
      refine wpAnyH_take (i := 9) (v := _) rfl (by kernel_rfl) (by kernel_rfl) (by kernel_rfl) (fun _ _ _ h => h) (yieldsIf_load_mid (by rfl) 83 _ rfl (q) (0) rfl ([.int .i64 a1, .int .u32 (b1 : Int), .int .u64 (c1 : Int), .int .u64 (d1 : Int)]) _ (fun w hSw => hSw.1.2) (Tryz.underlying83) rfl (infoFlt)) (by assumption) ?_
      simp only [List.getElem_toArray, List.getElem_cons_zero, List.getElem_cons_succ, Act.put, List.setIfInBounds_toArray, List.set_cons_zero, List.set_cons_succ]
      refine wpAnyH_take (i := 16) (v := _) rfl (by kernel_rfl) (by kernel_rfl) (by kernel_rfl) (fun _ _ _ h => h) (yieldsIf_load_mid (by rfl) 83 _ rfl (p) (0) rfl ([.int .i64 a0, .int .u32 (b0 : Int), .int .u64 (c0 : Int), .int .u64 (d0 : Int)]) _ (fun w hSw => hSw.1.1) (Tryz.underlying83) rfl (infoFlt)) (by assumption) ?_
      simp only [List.getElem_toArray, List.getElem_cons_zero, List.getElem_cons_succ, Act.put, List.setIfInBounds_toArray, List.set_cons_zero, List.set_cons_succ]
      refine wpAnyH_take (i := 17) (v := _) rfl (by kernel_rfl) (by kernel_rfl) (by kernel_rfl) (fun _ _ _ h => h) (yieldsIf_load_mid (by rfl) 83 _ rfl (q) (0) rfl ([.int .i64 a1, .int .u32 (b1 : Int), .int .u64 (c1 : Int), .int .u64 (d1 : Int)]) _ (fun w hSw => hSw.1.2) (Tryz.underlying83) rfl (infoFlt)) (by assumption) ?_
      simp only [List.getElem_toArray, List.getElem_cons_zero, List.getElem_cons_succ, Act.put, List.setIfInBounds_toArray, List.set_cons_zero, List.set_cons_succ]
      refine wpAnyH_take (i := 18) (v := .bool true) rfl (by kernel_rfl) (by kernel_rfl) (by kernel_rfl) (fun _ _ _ h => h) (Or.inl ⟨by rfl, ?_⟩) (by assumption) ?_
      · (intro w hSw; simp only [List.getElem_toArray, List.getElem_cons_zero, List.getElem_cons_succ]; (have hnq := HNE.out; go_simp; first | done | exact hnq | with_reducible rfl))
      simp only [List.getElem_toArray, List.getElem_cons_zero, List.getElem_cons_succ, Act.put, List.setIfInBounds_toArray, List.set_cons_zero, List.set_cons_succ]
      refine wpAnyH_ready (rs := [10]) (by kernel_rfl) (by simp) ?_
      refine AllReadyH.cons rfl (fun K hK => ?_) (AllReadyH.nil)
      simp only [List.getElem_toArray, List.getElem_cons_zero, List.getElem_cons_succ]
      go_simp
      refine (CLA.out _).mono ?_
      rintro e y10 ⟨rfl, hb10⟩
      dsimp only
      have HBE := Lib.hid (bthen HBE.out hb10)
      have hSp := HSS.out _ HBE.out
      clear hHeld
      refine hK.out _ _ hSp (fun hHeld => ?_)
      clear hSp hK K
      try simp only [Act.put, List.setIfInBounds_toArray, List.set_cons_zero, List.set_cons_succ]
      have HC10 := Lib.hid hb10
      clear hb10
      refine wpAnyH_take (i := 11) (v := ?_) rfl (by kernel_rfl) (by kernel_rfl) (by kernel_rfl) (fun _ _ _ h => h) (Or.inl ⟨by rfl, ?_⟩) (by assumption) ?_
      rotate_left
      · (intro w hSw; (try dsimp only at hSw); simp only [List.getElem_toArray, List.getElem_cons_zero, List.getElem_cons_succ]; go_simp; first | done | with_reducible rfl)
      simp only [List.getElem_toArray, List.getElem_cons_zero, List.getElem_cons_succ, Act.put, List.setIfInBounds_toArray, List.set_cons_zero, List.set_cons_succ]
      refine wpAnyH_take (i := 12) (v := _) rfl (by kernel_rfl) (by kernel_rfl) (by kernel_rfl) (fun _ _ _ h => h) (yieldsIf_load_mid (by rfl) 83 _ rfl (q) (0) rfl ([.int .i64 a1, .int .u32 (b1 : Int), .int .u64 (c1 : Int), .int .u64 (d1 : Int)]) _ (fun w hSw => hSw.1.2) (Tryz.underlying83) rfl (infoFlt)) (by assumption) ?_
      simp only [List.getElem_toArray, List.getElem_cons_zero, List.getElem_cons_succ, Act.put, List.setIfInBounds_toArray, List.set_cons_zero, List.set_cons_succ]
      refine wpAnyH_take (i := 13) (v := _) rfl (by kernel_rfl) (by kernel_rfl) (by kernel_rfl) (fun _ _ _ h => h) (yieldsIf_load_mid (by rfl) 83 _ rfl (p) (0) rfl ([.int .i64 a0, .int .u32 (b0 : Int), .int .u64 (c0 : Int), .int .u64 (d0 : Int)]) _ (fun w hSw => hSw.1.1) (Tryz.underlying83) rfl (infoFlt)) (by assumption) ?_
      simp only [List.getElem_toArray, List.getElem_cons_zero, List.getElem_cons_succ, Act.put, List.setIfInBounds_toArray, List.set_cons_zero, List.set_cons_succ]
      refine wpAnyH_ready (rs := [14]) (by kernel_rfl) (by simp) ?_
      refine AllReadyH.cons rfl (fun K hK => ?_) (AllReadyH.nil)
      simp only [List.getElem_toArray, List.getElem_cons_zero, List.getElem_cons_succ]
      go_simp
      refine (CLB.out _).mono ?_
      rintro e y14 ⟨rfl, hb14⟩
      dsimp only
      have HBE := Lib.hid (bthen HBE.out hb14)
      have hSp := HSS.out _ HBE.out
      clear hHeld
      refine hK.out _ _ hSp (fun hHeld => ?_)
      clear hSp hK K
      try simp only [Act.put, List.setIfInBounds_toArray, List.set_cons_zero, List.set_cons_succ]
      have HC14 := Lib.hid hb14
      clear hb14
      refine wpAnyH_take (i := 15) (v := ?_) rfl (by kernel_rfl) (by kernel_rfl) (by kernel_rfl) (fun _ _ _ h => h) (Or.inl ⟨by rfl, ?_⟩) (by assumption) ?_
      rotate_left
      · (intro w hSw; (try dsimp only at hSw); simp only [List.getElem_toArray, List.getElem_cons_zero, List.getElem_cons_succ]; go_simp; first | done | with_reducible rfl)
      simp only [List.getElem_toArray, List.getElem_cons_zero, List.getElem_cons_succ, Act.put, List.setIfInBounds_toArray, List.set_cons_zero, List.set_cons_succ]
      refine wpAnyH_take (i := 19) (v := ?_) rfl (by kernel_rfl) (by kernel_rfl) (by kernel_rfl) (fun _ _ _ h => h) (Or.inl ⟨by rfl, ?_⟩) (by assumption) ?_
      rotate_left
      · (intro w hSw; (try dsimp only at hSw); simp only [List.getElem_toArray, List.getElem_cons_zero, List.getElem_cons_succ]; go_simp; first | done | with_reducible rfl)
      simp only [List.getElem_toArray, List.getElem_cons_zero, List.getElem_cons_succ, Act.put, List.setIfInBounds_toArray, List.set_cons_zero, List.set_cons_succ]
      refine wpAnyH_take (i := 20) (v := ?_) rfl (by kernel_rfl) (by kernel_rfl) (by kernel_rfl) (fun _ _ _ h => h) (Or.inl ⟨by rfl, ?_⟩) (by assumption) ?_
      rotate_left
      · (intro w hSw; (try dsimp only at hSw); simp only [List.getElem_toArray, List.getElem_cons_zero, List.getElem_cons_succ]; go_simp; first | done | with_reducible rfl)
      simp only [List.getElem_toArray, List.getElem_cons_zero, List.getElem_cons_succ, Act.put, List.setIfInBounds_toArray, List.set_cons_zero, List.set_cons_succ]
      refine wpAnyH_take (i := 21) (v := ?_) rfl (by kernel_rfl) (by kernel_rfl) (by kernel_rfl) (fun _ _ _ h => h) (Or.inl ⟨by rfl, ?_⟩) (by assumption) ?_
      rotate_left
      · (intro w hSw; (try dsimp only at hSw); simp only [List.getElem_toArray, List.getElem_cons_zero, List.getElem_cons_succ]; go_simp; first | done | with_reducible rfl)
      simp only [List.getElem_toArray, List.getElem_cons_zero, List.getElem_cons_succ, Act.put, List.setIfInBounds_toArray, List.set_cons_zero, List.set_cons_succ]
      refine wpAnyH_ready (rs := [22]) (by kernel_rfl) (by simp) ?_
      refine AllReadyH.cons rfl (fun K hK => ?_) (AllReadyH.nil)
      simp only [List.getElem_toArray, List.getElem_cons_zero, List.getElem_cons_succ]
      go_simp
      refine (known16_at _).mono ?_
      rintro e y22 ⟨rfl, hb22⟩
      dsimp only
      have HBE := Lib.hid (bthen HBE.out hb22)
      have hSp := HSS.out _ HBE.out
      clear hHeld
      refine hK.out _ _ hSp (fun hHeld => ?_)
      clear hSp hK K
      try simp only [Act.put, List.setIfInBounds_toArray, List.set_cons_zero, List.set_cons_succ]
      have HC22 := Lib.hid hb22
      clear hb22
      refine wpAnyH_take (i := 23) (v := ?_) rfl (by kernel_rfl) (by kernel_rfl) (by kernel_rfl) (fun _ _ _ h => h) (Or.inl ⟨by rfl, ?_⟩) (by assumption) ?_
      rotate_left
      · (intro w hSw; (try dsimp only at hSw); simp only [List.getElem_toArray, List.getElem_cons_zero, List.getElem_cons_succ]; go_simp; first | done | with_reducible rfl)
      simp only [List.getElem_toArray, List.getElem_cons_zero, List.getElem_cons_succ, Act.put, List.setIfInBounds_toArray, List.set_cons_zero, List.set_cons_succ]
      refine wpAnyH_take (i := 24) (v := ?_) rfl (by kernel_rfl) (by kernel_rfl) (by kernel_rfl) (fun _ _ _ h => h) (Or.inl ⟨by rfl, ?_⟩) (by assumption) ?_
      rotate_left
      · (intro w hSw; (try dsimp only at hSw); simp only [List.getElem_toArray, List.getElem_cons_zero, List.getElem_cons_succ]; go_simp; first | done | with_reducible rfl)
      simp only [List.getElem_toArray, List.getElem_cons_zero, List.getElem_cons_succ, Act.put, List.setIfInBounds_toArray, List.set_cons_zero, List.set_cons_succ]
      refine wpAnyH_done (by kernel_rfl) ?_ _
      have HEND := Lib.hid hHeld.2
      have HSE := Lib.hid hHeld.1
      clear hHeld
      clear HSS HSE HEND
      go_wp2_with fail
      go_ret
      exact ⟨rfl, bthn HB2.out HBE.out⟩
  · rw [h1] at CLA CLR
    have hne := flt_ne (x := x) (y := y) (by rintro rfl; rw [ltF_self] at h1; cases h1)
    clear h1
    have HNE := Lib.hid hne
    obtain ⟨a0, b0, c0, d0⟩ := x
    obtain ⟨a1, b1, c1, d1⟩ := y
    unfold fltC at CLA CLR CLB ⊢
    dsimp only at CLA CLR CLB HNE ⊢
    obtain ⟨w1, hw1⟩ : ∃ W, w.alloc (.cells #[.int .i64 a0, .int .u32 (b0 : Int), .int .u64 (c0 : Int), .int .u64 (d0 : Int)] 83) = W := ⟨_, rfl⟩
    have hb1 : Below w.heap.size w w1 := by rw [← hw1]; exact balloc (Below.refl _ _) _
    have hx1 : w1.heap[w.heap.size]? = some (.cells #[.int .i64 a0, .int .u32 (b0 : Int), .int .u64 (c0 : Int), .int .u64 (d0 : Int)] 83 (0, 0)) := by rw [← hw1]; exact heap_alloc_new _ _
    obtain ⟨w2, hw2⟩ : ∃ W, w1.alloc (.cells #[.int .i64 a1, .int .u32 (b1 : Int), .int .u64 (c1 : Int), .int .u64 (d1 : Int)] 83) = W := ⟨_, rfl⟩
    have hb2 : Below w1.heap.size w1 w2 := by rw [← hw2]; exact balloc (Below.refl _ _) _
    have hx2 : w2.heap[w1.heap.size]? = some (.cells #[.int .i64 a1, .int .u32 (b1 : Int), .int .u64 (c1 : Int), .int .u64 (d1 : Int)] 83 (0, 0)) := by rw [← hw2]; exact heap_alloc_new _ _
    obtain ⟨p, hp⟩ : ∃ p, w.heap.size = p := ⟨_, rfl⟩
    obtain ⟨q, hq⟩ : ∃ p, w1.heap.size = p := ⟨_, rfl⟩
    rw [hp] at hx1
    rw [hq] at hx2
    have HX2 := Lib.hid hx2
    have HX1 := Lib.hid ((hb2.block _ (Array.getElem?_eq_some_iff.1 hx1).1).trans hx1)
    have HPL : Hid (p < w2.heap.size ∧ q < w2.heap.size) := Lib.hid ⟨(Array.getElem?_eq_some_iff.1 HX1.out).1, (Array.getElem?_eq_some_iff.1 hx2).1⟩
    have HB2 : Hid (Below w.heap.size w w2) := Lib.hid (bthn hb1 hb2)
    clear hb1 hx1 hb2 hx2
    have HR1 : Hid (w2.rangeAt p 0 [.int .i64 a0, .int .u32 (b0 : Int), .int .u64 (c0 : Int), .int .u64 (d0 : Int)]) := Lib.hid (rangeOf HX1.out)
    have HR2 : Hid (w2.rangeAt q 0 [.int .i64 a1, .int .u32 (b1 : Int), .int .u64 (c1 : Int), .int .u64 (d1 : Int)]) := Lib.hid (rangeOf HX2.out)
    clear hne
    go_enter Tryz.func6, Tryz.ntmps6
    go_upto_region 1 with fail
    (try rw [hw1])
    (try rw [hp])
    (try rw [hw2])
    (try rw [hq])
    clear hw1 hw2 hp hq
    have HSS : Hid (∀ X, Below w2.heap.size w2 X → (X.rangeAt p 0 [.int .i64 a0, .int .u32 (b0 : Int), .int .u64 (c0 : Int), .int .u64 (d0 : Int)] ∧ X.rangeAt q 0 [.int .i64 a1, .int .u32 (b1 : Int), .int .u64 (c1 : Int), .int .u64 (d1 : Int)]) ∧ Below w2.heap.size w2 X) := Lib.hid (fun X hb => ⟨⟨(rangeSt HR1.out HPL.out.1 hb), (rangeSt HR2.out HPL.out.2 hb)⟩, hb⟩)
    refine wp_region_held_drew (S := fun X => (X.rangeAt p 0 [.int .i64 a0, .int .u32 (b0 : Int), .int .u64 (c0 : Int), .int .u64 (d0 : Int)] ∧ X.rangeAt q 0 [.int .i64 a1, .int .u32 (b1 : Int), .int .u64 (c1 : Int), .int .u64 (d1 : Int)]) ∧ Below w2.heap.size w2 X) (by kernel_rfl) (HSS.out _ (Below.refl _ _).drew) (fun hHeld => ?_)
    have hbe : Below w2.heap.size w2 w2.drew := (Below.refl _ _).drew
    obtain ⟨wd, hwd⟩ : ∃ y, w2.drew = y := ⟨_, rfl⟩
    rw [hwd] at hHeld hbe ⊢
    have HBE := Lib.hid hbe
    have HS0 : Hid (w2.heap.size ≤ wd.heap.size) := Lib.hid HBE.out.size
    clear hwd hbe
    refine wpAnyH_take (i := 0) (v := _) rfl (by kernel_rfl) (by kernel_rfl) (by kernel_rfl) (fun _ _ _ h => h) (yieldsIf_load_mid (by rfl) 83 _ rfl (p) (0) rfl ([.int .i64 a0, .int .u32 (b0 : Int), .int .u64 (c0 : Int), .int .u64 (d0 : Int)]) _ (fun w hSw => hSw.1.1) (Tryz.underlying83) rfl (infoFlt)) (by assumption) ?_
    simp only [List.getElem_toArray, List.getElem_cons_zero, List.getElem_cons_succ, Act.put, List.setIfInBounds_toArray, List.set_cons_zero, List.set_cons_succ]
    refine wpAnyH_take (i := 1) (v := _) rfl (by kernel_rfl) (by kernel_rfl) (by kernel_rfl) (fun _ _ _ h => h) (yieldsIf_load_mid (by rfl) 83 _ rfl (q) (0) rfl ([.int .i64 a1, .int .u32 (b1 : Int), .int .u64 (c1 : Int), .int .u64 (d1 : Int)]) _ (fun w hSw => hSw.1.2) (Tryz.underlying83) rfl (infoFlt)) (by assumption) ?_
    simp only [List.getElem_toArray, List.getElem_cons_zero, List.getElem_cons_succ, Act.put, List.setIfInBounds_toArray, List.set_cons_zero, List.set_cons_succ]
    refine wpAnyH_take (i := 3) (v := _) rfl (by kernel_rfl) (by kernel_rfl) (by kernel_rfl) (fun _ _ _ h => h) (yieldsIf_load_mid (by rfl) 83 _ rfl (p) (0) rfl ([.int .i64 a0, .int .u32 (b0 : Int), .int .u64 (c0 : Int), .int .u64 (d0 : Int)]) _ (fun w hSw => hSw.1.1) (Tryz.underlying83) rfl (infoFlt)) (by assumption) ?_
    simp only [List.getElem_toArray, List.getElem_cons_zero, List.getElem_cons_succ, Act.put, List.setIfInBounds_toArray, List.set_cons_zero, List.set_cons_succ]
    refine wpAnyH_take (i := 4) (v := _) rfl (by kernel_rfl) (by kernel_rfl) (by kernel_rfl) (fun _ _ _ h => h) (yieldsIf_load_mid (by rfl) 83 _ rfl (q) (0) rfl ([.int .i64 a1, .int .u32 (b1 : Int), .int .u64 (c1 : Int), .int .u64 (d1 : Int)]) _ (fun w hSw => hSw.1.2) (Tryz.underlying83) rfl (infoFlt)) (by assumption) ?_
    simp only [List.getElem_toArray, List.getElem_cons_zero, List.getElem_cons_succ, Act.put, List.setIfInBounds_toArray, List.set_cons_zero, List.set_cons_succ]
    refine wpAnyH_ready (rs := [2]) (by kernel_rfl) (by simp) ?_
    refine AllReadyH.cons rfl (fun K hK => ?_) (AllReadyH.nil)
    simp only [List.getElem_toArray, List.getElem_cons_zero, List.getElem_cons_succ]
    go_simp
    refine (CLA.out _).mono ?_
    rintro e y2 ⟨rfl, hb2⟩
    dsimp only
    have HBE := Lib.hid (bthen HBE.out hb2)
    have hSp := HSS.out _ HBE.out
    clear hHeld
    refine hK.out _ _ hSp (fun hHeld => ?_)
    clear hSp hK K
    try simp only [Act.put, List.setIfInBounds_toArray, List.set_cons_zero, List.set_cons_succ]
    have HC2 := Lib.hid hb2
    clear hb2
    refine wpAnyH_ready (rs := [5]) (by kernel_rfl) (by simp) ?_
    refine AllReadyH.cons rfl (fun K hK => ?_) (AllReadyH.nil)
    simp only [List.getElem_toArray, List.getElem_cons_zero, List.getElem_cons_succ]
    go_simp
    refine (CLR.out _).mono ?_
    rintro e y5 ⟨rfl, hb5⟩
    dsimp only
    have HBE := Lib.hid (bthen HBE.out hb5)
    have hSp := HSS.out _ HBE.out
    clear hHeld
    refine hK.out _ _ hSp (fun hHeld => ?_)
    clear hSp hK K
    try simp only [Act.put, List.setIfInBounds_toArray, List.set_cons_zero, List.set_cons_succ]
    have HC5 := Lib.hid hb5
    clear hb5
    refine wpAnyH_take (i := 6) (v := ?_) rfl (by kernel_rfl) (by kernel_rfl) (by kernel_rfl) (fun _ _ _ h => h) (Or.inl ⟨by rfl, ?_⟩) (by assumption) ?_
    rotate_left
    · (intro w hSw; (try dsimp only at hSw); simp only [List.getElem_toArray, List.getElem_cons_zero, List.getElem_cons_succ]; go_simp; first | done | with_reducible rfl)
    simp only [List.getElem_toArray, List.getElem_cons_zero, List.getElem_cons_succ, Act.put, List.setIfInBounds_toArray, List.set_cons_zero, List.set_cons_succ]
    refine wpAnyH_take (i := 7) (v := ?_) rfl (by kernel_rfl) (by kernel_rfl) (by kernel_rfl) (fun _ _ _ h => h) (Or.inl ⟨by rfl, ?_⟩) (by assumption) ?_
    rotate_left
    · (intro w hSw; (try dsimp only at hSw); simp only [List.getElem_toArray, List.getElem_cons_zero, List.getElem_cons_succ]; go_simp; first | done | with_reducible rfl)
    simp only [List.getElem_toArray, List.getElem_cons_zero, List.getElem_cons_succ, Act.put, List.setIfInBounds_toArray, List.set_cons_zero, List.set_cons_succ]
    refine wpAnyH_take (i := 8) (v := _) rfl (by kernel_rfl) (by kernel_rfl) (by kernel_rfl) (fun _ _ _ h => h) (yieldsIf_load_mid (by rfl) 83 _ rfl (p) (0) rfl ([.int .i64 a0, .int .u32 (b0 : Int), .int .u64 (c0 : Int), .int .u64 (d0 : Int)]) _ (fun w hSw => hSw.1.1) (Tryz.underlying83) rfl (infoFlt)) (by assumption) ?_
    simp only [List.getElem_toArray, List.getElem_cons_zero, List.getElem_cons_succ, Act.put, List.setIfInBounds_toArray, List.set_cons_zero, List.set_cons_succ]
    refine wpAnyH_take (i := 9) (v := _) rfl (by kernel_rfl) (by kernel_rfl) (by kernel_rfl) (fun _ _ _ h => h) (yieldsIf_load_mid (by rfl) 83 _ rfl (q) (0) rfl ([.int .i64 a1, .int .u32 (b1 : Int), .int .u64 (c1 : Int), .int .u64 (d1 : Int)]) _ (fun w hSw => hSw.1.2) (Tryz.underlying83) rfl (infoFlt)) (by assumption) ?_
    simp only [List.getElem_toArray, List.getElem_cons_zero, List.getElem_cons_succ, Act.put, List.setIfInBounds_toArray, List.set_cons_zero, List.set_cons_succ]
    refine wpAnyH_take (i := 16) (v := _) rfl (by kernel_rfl) (by kernel_rfl) (by kernel_rfl) (fun _ _ _ h => h) (yieldsIf_load_mid (by rfl) 83 _ rfl (p) (0) rfl ([.int .i64 a0, .int .u32 (b0 : Int), .int .u64 (c0 : Int), .int .u64 (d0 : Int)]) _ (fun w hSw => hSw.1.1) (Tryz.underlying83) rfl (infoFlt)) (by assumption) ?_
    simp only [List.getElem_toArray, List.getElem_cons_zero, List.getElem_cons_succ, Act.put, List.setIfInBounds_toArray, List.set_cons_zero, List.set_cons_succ]
    refine wpAnyH_take (i := 17) (v := _) rfl (by kernel_rfl) (by kernel_rfl) (by kernel_rfl) (fun _ _ _ h => h) (yieldsIf_load_mid (by rfl) 83 _ rfl (q) (0) rfl ([.int .i64 a1, .int .u32 (b1 : Int), .int .u64 (c1 : Int), .int .u64 (d1 : Int)]) _ (fun w hSw => hSw.1.2) (Tryz.underlying83) rfl (infoFlt)) (by assumption) ?_
    simp only [List.getElem_toArray, List.getElem_cons_zero, List.getElem_cons_succ, Act.put, List.setIfInBounds_toArray, List.set_cons_zero, List.set_cons_succ]
    refine wpAnyH_take (i := 18) (v := .bool true) rfl (by kernel_rfl) (by kernel_rfl) (by kernel_rfl) (fun _ _ _ h => h) (Or.inl ⟨by rfl, ?_⟩) (by assumption) ?_
    · (intro w hSw; simp only [List.getElem_toArray, List.getElem_cons_zero, List.getElem_cons_succ]; (have hnq := HNE.out; go_simp; first | done | exact hnq | with_reducible rfl))
    simp only [List.getElem_toArray, List.getElem_cons_zero, List.getElem_cons_succ, Act.put, List.setIfInBounds_toArray, List.set_cons_zero, List.set_cons_succ]
    refine wpAnyH_ready (rs := [10]) (by kernel_rfl) (by simp) ?_
    refine AllReadyH.cons rfl (fun K hK => ?_) (AllReadyH.nil)
    simp only [List.getElem_toArray, List.getElem_cons_zero, List.getElem_cons_succ]
    go_simp
    refine (CLA.out _).mono ?_
    rintro e y10 ⟨rfl, hb10⟩
    dsimp only
    have HBE := Lib.hid (bthen HBE.out hb10)
    have hSp := HSS.out _ HBE.out
    clear hHeld
    refine hK.out _ _ hSp (fun hHeld => ?_)
    clear hSp hK K
    try simp only [Act.put, List.setIfInBounds_toArray, List.set_cons_zero, List.set_cons_succ]
    have HC10 := Lib.hid hb10
    clear hb10
    refine wpAnyH_take (i := 11) (v := ?_) rfl (by kernel_rfl) (by kernel_rfl) (by kernel_rfl) (fun _ _ _ h => h) (Or.inl ⟨by rfl, ?_⟩) (by assumption) ?_
    rotate_left
    · (intro w hSw; (try dsimp only at hSw); simp only [List.getElem_toArray, List.getElem_cons_zero, List.getElem_cons_succ]; go_simp; first | done | with_reducible rfl)
    simp only [List.getElem_toArray, List.getElem_cons_zero, List.getElem_cons_succ, Act.put, List.setIfInBounds_toArray, List.set_cons_zero, List.set_cons_succ]
    refine wpAnyH_take (i := 12) (v := undef) rfl (by kernel_rfl) (by kernel_rfl) (by kernel_rfl) (fun _ _ _ h => h) (Or.inr ⟨by rfl, rfl⟩) (by assumption) ?_
    simp only [List.getElem_toArray, List.getElem_cons_zero, List.getElem_cons_succ, Act.put, List.setIfInBounds_toArray, List.set_cons_zero, List.set_cons_succ]
    refine wpAnyH_take (i := 13) (v := undef) rfl (by kernel_rfl) (by kernel_rfl) (by kernel_rfl) (fun _ _ _ h => h) (Or.inr ⟨by rfl, rfl⟩) (by assumption) ?_
    simp only [List.getElem_toArray, List.getElem_cons_zero, List.getElem_cons_succ, Act.put, List.setIfInBounds_toArray, List.set_cons_zero, List.set_cons_succ]
    refine wpAnyH_take (i := 14) (v := undef) rfl (by kernel_rfl) (by kernel_rfl) (by kernel_rfl) (fun _ _ _ h => h) (Or.inr ⟨by rfl, rfl⟩) (by assumption) ?_
    simp only [List.getElem_toArray, List.getElem_cons_zero, List.getElem_cons_succ, Act.put, List.setIfInBounds_toArray, List.set_cons_zero, List.set_cons_succ]
    refine wpAnyH_take (i := 15) (v := ?_) rfl (by kernel_rfl) (by kernel_rfl) (by kernel_rfl) (fun _ _ _ h => h) (Or.inl ⟨by rfl, ?_⟩) (by assumption) ?_
    rotate_left
    · (intro w hSw; (try dsimp only at hSw); simp only [List.getElem_toArray, List.getElem_cons_zero, List.getElem_cons_succ]; go_simp; first | done | with_reducible rfl)
    simp only [List.getElem_toArray, List.getElem_cons_zero, List.getElem_cons_succ, Act.put, List.setIfInBounds_toArray, List.set_cons_zero, List.set_cons_succ]
    refine wpAnyH_take (i := 19) (v := ?_) rfl (by kernel_rfl) (by kernel_rfl) (by kernel_rfl) (fun _ _ _ h => h) (Or.inl ⟨by rfl, ?_⟩) (by assumption) ?_
    rotate_left
    · (intro w hSw; (try dsimp only at hSw); simp only [List.getElem_toArray, List.getElem_cons_zero, List.getElem_cons_succ]; go_simp; first | done | with_reducible rfl)
    simp only [List.getElem_toArray, List.getElem_cons_zero, List.getElem_cons_succ, Act.put, List.setIfInBounds_toArray, List.set_cons_zero, List.set_cons_succ]
    refine wpAnyH_take (i := 20) (v := ?_) rfl (by kernel_rfl) (by kernel_rfl) (by kernel_rfl) (fun _ _ _ h => h) (Or.inl ⟨by rfl, ?_⟩) (by assumption) ?_
    rotate_left
    · (intro w hSw; (try dsimp only at hSw); simp only [List.getElem_toArray, List.getElem_cons_zero, List.getElem_cons_succ]; go_simp; first | done | with_reducible rfl)
    simp only [List.getElem_toArray, List.getElem_cons_zero, List.getElem_cons_succ, Act.put, List.setIfInBounds_toArray, List.set_cons_zero, List.set_cons_succ]
    refine wpAnyH_take (i := 21) (v := ?_) rfl (by kernel_rfl) (by kernel_rfl) (by kernel_rfl) (fun _ _ _ h => h) (Or.inl ⟨by rfl, ?_⟩) (by assumption) ?_
    rotate_left
    · (intro w hSw; (try dsimp only at hSw); simp only [List.getElem_toArray, List.getElem_cons_zero, List.getElem_cons_succ]; go_simp; first | done | with_reducible rfl)
    simp only [List.getElem_toArray, List.getElem_cons_zero, List.getElem_cons_succ, Act.put, List.setIfInBounds_toArray, List.set_cons_zero, List.set_cons_succ]
    refine wpAnyH_ready (rs := [22]) (by kernel_rfl) (by simp) ?_
    refine AllReadyH.cons rfl (fun K hK => ?_) (AllReadyH.nil)
    simp only [List.getElem_toArray, List.getElem_cons_zero, List.getElem_cons_succ]
    go_simp
    refine (known16_at _).mono ?_
    rintro e y22 ⟨rfl, hb22⟩
    dsimp only
    have HBE := Lib.hid (bthen HBE.out hb22)
    have hSp := HSS.out _ HBE.out
    clear hHeld
    refine hK.out _ _ hSp (fun hHeld => ?_)
    clear hSp hK K
    try simp only [Act.put, List.setIfInBounds_toArray, List.set_cons_zero, List.set_cons_succ]
    have HC22 := Lib.hid hb22
    clear hb22
    refine wpAnyH_take (i := 23) (v := ?_) rfl (by kernel_rfl) (by kernel_rfl) (by kernel_rfl) (fun _ _ _ h => h) (Or.inl ⟨by rfl, ?_⟩) (by assumption) ?_
    rotate_left
    · (intro w hSw; (try dsimp only at hSw); simp only [List.getElem_toArray, List.getElem_cons_zero, List.getElem_cons_succ]; go_simp; first | done | with_reducible rfl)
    simp only [List.getElem_toArray, List.getElem_cons_zero, List.getElem_cons_succ, Act.put, List.setIfInBounds_toArray, List.set_cons_zero, List.set_cons_succ]
    refine wpAnyH_take (i := 24) (v := ?_) rfl (by kernel_rfl) (by kernel_rfl) (by kernel_rfl) (fun _ _ _ h => h) (Or.inl ⟨by rfl, ?_⟩) (by assumption) ?_
    rotate_left
    · (intro w hSw; (try dsimp only at hSw); simp only [List.getElem_toArray, List.getElem_cons_zero, List.getElem_cons_succ]; go_simp; first | done | with_reducible rfl)
    simp only [List.getElem_toArray, List.getElem_cons_zero, List.getElem_cons_succ, Act.put, List.setIfInBounds_toArray, List.set_cons_zero, List.set_cons_succ]
    refine wpAnyH_done (by kernel_rfl) ?_ _
    have HEND := Lib.hid hHeld.2
    have HSE := Lib.hid hHeld.1
    clear hHeld
    clear HSS HSE HEND
    go_wp2_with fail
    go_ret
    exact ⟨rfl, bthn HB2.out HBE.out⟩
end Go.Proofs.YtcdobdjemlaaaaaGreat
