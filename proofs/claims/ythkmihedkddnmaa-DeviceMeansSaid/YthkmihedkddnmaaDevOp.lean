/- A row of operations: how it lies, how an argument of them that can be read looks; the law's much, walked. -/
import Derived.Test.YthkmihedkddnmaaOP
import Derived.Test.YthkmihedkddnmaaDev27
namespace Go.Proofs.Ythkmihedkddnmaa
open Go.ChangeShapes Go.WideShapes Go.ChangeAt Go.RowKit Go.Deep Wire Cmd
set_option linter.unusedVariables false
set_option linter.unusedSimpArgs false

/-- An operation's cells at a place. -/
def OpAt (w : World) (b i : Nat) (o : Op0) (sl : Value) : Prop :=
  w.cell? ⟨b, i, none⟩ = some (.int .i64 o.k) ∧ w.cell? ⟨b, i + 1, none⟩ = some (.int .u64 (o.vol : Int)) ∧ w.cell? ⟨b, i + 2, none⟩ = some (.int .u64 (o.to : Int)) ∧ w.cell? ⟨b, i + 3, none⟩ = some (.int .i64 o.size) ∧
    w.cell? ⟨b, i + 4, none⟩ = some (.int .i64 o.pl) ∧ w.cell? ⟨b, i + 5, none⟩ = some (.int .i64 o.count) ∧ w.cell? ⟨b, i + 6, none⟩ = some sl
/-- The slice reads as those operations. -/
def Ops (w : World) (ao : Option Addr) (n cap : Nat) (l : List (Op0 × Value)) : Prop :=
  l.length = n ∧ n ≤ cap ∧ cap ≤ maxLen ∧ (ao = none → cap = 0) ∧ ∀ j x, l[j]? = some x → ∃ b off, ao = some ⟨b, off, none⟩ ∧ b < w.heap.size ∧ OpAt w b (off + j * 7) x.1 x.2 ∧ x.1.Ok ∧ Rd w 1 x.2 x.1.data.length (bV x.1.data)
theorem Ops.below {w w' : World} {ao : Option Addr} {n cap : Nat} {l : List (Op0 × Value)} (h : Ops w ao n cap l) (hb : Below w.heap.size w w') : Ops w' ao n cap l := by
  obtain ⟨h1, h2, h3, h4, h5⟩ := h
  refine ⟨h1, h2, h3, h4, fun j x hx => ?_⟩
  obtain ⟨b, off, e, hl, ⟨c0, c1, c2, c3, c4, c5, c6⟩, ok, hr⟩ := h5 j x hx
  have g : ∀ (i : Nat) (v : Value), w.cell? ⟨b, i, none⟩ = some v → w'.cell? ⟨b, i, none⟩ = some v := fun i v h => (hb.cell (p := ⟨b, i, none⟩) hl).trans h
  exact ⟨b, off, e, Nat.lt_of_lt_of_le hl hb.size, ⟨g _ _ c0, g _ _ c1, g _ _ c2, g _ _ c3, g _ _ c4, g _ _ c5, g _ _ c6⟩, ok, hr.below hb⟩
section
variable {H : Type} {enc : TypeId × Value → H} {w : World} {base : Nat} {held : Bool}
set_option maxRecDepth 100000 in
theorem open_ops {b0 : Nat} {v : Value} {d : DataW H} {p : List MemPlace}
    (hv : Value.okWide Try.prog w .any b0 22 v) (h : DataW.Trod enc Try.prog w base (fun _ => true) held 22 v d p) : ∃ ao n cap l, v = .slice ao n cap ∧ Ops w ao n cap l := by
  obtain ⟨a0, len, cap, rfl⟩ := okWide_slice Try.underlying22 hv
  obtain ⟨fuel, hf⟩ := h
  rcases open_slice Try.underlying22 hf with ⟨hcs, _⟩ | ⟨a, l, c, m, n, D, Pl, hcs, _, hl, hm, hmm, _, hi⟩
  · simp [Value.cells] at hcs
    obtain ⟨rfl, rfl, rfl⟩ := hcs
    exact ⟨none, 0, 0, [], rfl, rfl, Nat.le_refl _, by unfold maxLen; omega, fun _ => rfl, fun j x hj => by simp at hj⟩
  · simp [Value.cells] at hcs
    obtain ⟨rfl, rfl, rfl⟩ := hcs
    replace hmm : m = cap := by simpa using hmm
    subst hmm
    obtain ⟨b, off, spot⟩ := a
    have each : ∀ i, ∃ s : Op0 × Value, i < len → spot = none ∧ b < w.heap.size ∧ OpAt w b (off + i * 7) s.1 s.2 ∧ s.1.Ok ∧ Rd w 1 s.2 s.1.data.length (bV s.1.data) := by
      intro i
      by_cases hil : i < len
      · obtain ⟨cs', hc, ht⟩ := hi i (by omega)
        obtain ⟨o, sl, ok, ecs, hrd⟩ := op_of_trod ht
        obtain ⟨_, hlen, hcell⟩ := World.cells?_some hc
        rw [cellsOp] at hlen hcell
        have hspot : spot = none := by
          obtain ⟨cs0, hc0, _⟩ := hi 0 (by omega)
          obtain ⟨_, hlen0, hcell0⟩ := World.cells?_some hc0
          rw [cellsOp] at hlen0 hcell0
          have h0 := hcell0 0 (by omega)
          have := World.cell?_spot (h0.trans (List.getElem?_eq_getElem (by omega)))
          simpa [Addr.add] using this
        subst hspot
        have g : ∀ j u, j < 7 → (oC o sl).toList[j]? = some u → w.cell? ⟨b, off + i * 7 + j, none⟩ = some u := fun j u hj hu => by
          have h0 := hcell j hj
          rw [Addr.add_lit, Addr.add_lit] at h0
          rw [h0, ecs]; exact hu
        have g0 := g 0 _ (by omega) rfl
        exact ⟨(o, sl), fun _ => ⟨rfl, World.block_lt_of_cell? w _ g0, ⟨by simpa using g0, g 1 _ (by omega) rfl, g 2 _ (by omega) rfl, g 3 _ (by omega) rfl, g 4 _ (by omega) rfl, g 5 _ (by omega) rfl, g 6 _ (by omega) rfl⟩, ok, hrd⟩⟩
      · exact ⟨(⟨0, 0, 0, 0, 0, 0, []⟩, .nilIface), fun h => absurd h hil⟩
    obtain ⟨F, hF⟩ := Classical.axiomOfChoice each
    refine ⟨_, len, m, (List.range len).map F, rfl, by simp, hl, hm, (fun h => by cases h), fun j x hj => ?_⟩
    have hjl : j < len := by
      have := (List.getElem?_eq_some_iff.1 hj).1
      simpa using this
    have hx : F j = x := by simpa [hjl] using hj
    obtain ⟨hspot, hbl, h0, ok, hrd⟩ := hF j hjl
    subst hspot
    rw [hx] at h0 ok hrd
    exact ⟨b, off, rfl, hbl, h0, ok, hrd⟩
end
/-- More than is gone through? -/
def muchD (l : List (Op0 × Value)) : Bool := (l.take 41).any (fun x => decide (9000 < x.1.data.length)) || decide (40 < l.length)
theorem muchD_at {l : List (Op0 × Value)} {k : Nat} {x : Op0 × Value} (hx : l[k]? = some x) (hk : k ≤ 40) (h : 9000 < x.1.data.length) : muchD l = true := by
  unfold muchD
  rw [List.any_eq_true.2 ⟨x, List.mem_of_getElem? (i := k) (by rw [List.getElem?_take, if_pos (by omega)]; exact hx), by simpa using h⟩]
  rfl
theorem muchD_end {l : List (Op0 × Value)} (h : ∀ (j : Nat) (y : Op0 × Value), j < 41 → l[j]? = some y → y.1.data.length ≤ 9000) : muchD l = decide (40 < l.length) := by
  unfold muchD
  have : (l.take 41).any (fun x => decide (9000 < x.1.data.length)) = false := by
    rw [List.any_eq_false]
    intro x hx
    obtain ⟨j, hj⟩ := List.mem_iff_getElem?.1 hx
    rw [List.getElem?_take] at hj
    split at hj
    · have := h j x (by assumption) hj
      simp; omega
    · cases hj
  rw [this, Bool.false_or]
theorem muchD_no {l : List (Op0 × Value)} (h : muchD l = false) : l.length ≤ 40 ∧ ∀ x ∈ l, x.1.data.length ≤ 9000 := by
  unfold muchD at h
  rw [Bool.or_eq_false_iff] at h
  have h2 : l.length ≤ 40 := by simpa using h.2
  refine ⟨h2, fun x hx => ?_⟩
  have h1 := h.1
  rw [List.any_eq_false, List.take_of_length_le (by omega)] at h1
  simpa using h1 x hx
set_option maxRecDepth 100000 in
set_option maxHeartbeats 1600000 in
theorem much14_any (ao : Option Addr) (n cap : Nat) (l : List (Op0 × Value)) (w : World) (h : Ops w ao n cap l) : Calls Try.prog 5 #[.slice ao n cap] w fun e w' => e = .returned (.bool (muchD l)) ∧ Below w.heap.size w w' := by
  have HO := Lib.hid h
  obtain ⟨hl, hc1, hc2, _, hcell⟩ := h
  have HL := Lib.hid hl
  unfold maxLen at hc2
  have CM : Hid (∀ (o : Op0) (sa : Option Addr) (cp : Nat) (X : World), o.data.length ≤ 9223372036854775807 → Calls Try.prog 6 #[.agg #[.int .i64 o.k, .int .u64 (o.vol : Int), .int .u64 (o.to : Int), .int .i64 o.size, .int .i64 o.pl, .int .i64 o.count, .slice sa o.data.length cp]] X fun e w' => e = .returned (.bool (decide (9000 < (o.data.length : Int)))) ∧ Below X.heap.size X w') := Lib.hid (fun o sa cp X h => much13_any o sa cp X h)
  clear hl hcell
  go_enter Try.func5, Try.ntmps5
  go_wp2_with fail
  go_loopw [3] (fun i wr => ∃ k : Nat, k ≤ n ∧ k ≤ 41 ∧ i = .int .i64 (k : Int) ∧ (∀ (j : Nat) (y : Op0 × Value), j < k → l[j]? = some y → y.1.data.length ≤ 9000) ∧ Below w.heap.size w wr) (fun i _ => n - (intOf i).toNat)
  case atStart => exact ⟨0, by omega, by omega, rfl, fun j y hj => absurd hj (Nat.not_lt_zero _), Below.refl _ _⟩
  case round =>
    obtain ⟨k, hk, hk2, rfl, hall, hbw⟩ := hrel
    have HA := Lib.hid hall
    have HB0 := Lib.hid hbw
    clear hall hbw
    by_cases hlt : k < n
    · have q0 : decide ((k : Int) < (n : Int)) = true := decide_eq_true (by omega)
      by_cases h60 : k ≤ 40
      · have q1 : decide ((k : Int) ≤ 40) = true := decide_eq_true (by omega)
        obtain ⟨x, hx⟩ : ∃ x, l[k]? = some x := ⟨_, List.getElem?_eq_getElem (by rw [HL.out]; exact hlt)⟩
        have HX := Lib.hid hx
        obtain ⟨b, off, rfl, _, ⟨c0, c1, c2, c3, c4, c5, c6⟩, _, hr⟩ := (HO.out.below HB0.out).2.2.2.2 k x hx
        obtain ⟨ax, cx, ex, _, hm, _⟩ := hr
        rw [ex] at c6
        have C := CM.out x.1 ax cx wr (by unfold maxLen at hm; omega)
        clear hx ex hm
        by_cases hb : 9000 < (x.1.data.length : Int)
        · have q2 : decide (9000 < (x.1.data.length : Int)) = true := decide_eq_true hb
          have HM := Lib.hid (muchD_at HX.out h60 (by omega))
          rw [q2] at C
          clear hb q2
          go_wp2_with fail
          refine C.mono ?_
          rintro e w2 ⟨rfl, hb2⟩
          have HB2 := Lib.hid (bthen HB0.out hb2)
          clear c0 c1 c2 c3 c4 c5 c6 C hb2
          go_wp2_with fail
          go_ret
          exact ⟨by rw [HM.out]; rfl, HB2.out⟩
        · have q2 : decide (9000 < (x.1.data.length : Int)) = false := decide_eq_false hb
          have HB : Hid (x.1.data.length ≤ 9000) := Lib.hid (by omega)
          rw [q2] at C
          clear hb q2
          go_wp2_with fail
          refine C.mono ?_
          rintro e w2 ⟨rfl, hb2⟩
          have HB2 := Lib.hid (bthen HB0.out hb2)
          clear c0 c1 c2 c3 c4 c5 c6 C hb2
          go_wp2_with fail
          go_round
          case rel =>
            refine ⟨k + 1, by omega, by omega, by go_num, fun j y hj hy => ?_, HB2.out⟩
            rcases Nat.lt_succ_iff_lt_or_eq.1 hj with h1 | rfl
            · exact HA.out j y h1 hy
            · rw [HX.out] at hy
              obtain rfl := Option.some.inj hy
              exact HB.out
          case measure => simp [intOf]; omega
      · have q1 : decide ((k : Int) ≤ 40) = false := decide_eq_false (by omega)
        obtain rfl : k = 41 := by omega
        have HM := Lib.hid (muchD_end HA.out)
        have q3 : decide (40 < (n : Int)) = true := decide_eq_true (by omega)
        go_wp2_with fail
        go_ret
        exact ⟨by rw [HM.out, HL.out]; simp; omega, HB0.out⟩
    · obtain rfl : k = n := by omega
      have q0 : decide ((k : Int) < (k : Int)) = false := decide_eq_false (by omega)
      have HM : Hid (muchD l = decide (40 < (k : Int))) := Lib.hid (by
        rw [muchD_end (fun j y hj hy => HA.out j y (by have := (List.getElem?_eq_some_iff.1 hy).1; rw [HL.out] at this; exact this) hy), HL.out]
        exact decide_eq_decide.2 (by omega))
      go_wp2_with fail
      go_ret
      exact ⟨by rw [HM.out]; rfl, HB0.out⟩
end Go.Proofs.Ythkmihedkddnmaa
