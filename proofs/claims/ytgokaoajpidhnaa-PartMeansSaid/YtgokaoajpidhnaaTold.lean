/- The reference's values in memory; the law's told, all, much. -/
import Derived.Test.YtgokaoajpidhnaaKnown1
namespace Go.Proofs.Ytgokaoajpidhnaa
open Go.RowKit
set_option linter.unusedVariables false
set_option linter.unusedSimpArgs false
open Wire

/-- A value's cells as the reference keeps it. -/
def rC (v : V) (sl : Value) : List Value := .int .u8 (v.letter.toNat : Int) :: .int .u64 (v.n : Int) :: .bool v.yes :: sl :: bV v.x
theorem rC_len {v : V} {sl : Value} (hx : v.x.length = 256) : (rC v sl).length = 260 := by simp [rC, bV_len, hx]
/-- A value of the reference's, by value. -/
def rA (v : V) (sl : Value) : Value := .agg (rC v sl).toArray

/-- A value as the program takes it, its bytes in new memory; odd: a number that has no type. -/
def AnyT (base : Nat) (w : World) (u : Value) (v : V) : Prop :=
  AnyO base w u v ∨ (v.letter ≠ 56 ∧ v.letter ≠ 63 ∧ v.letter ≠ 42 ∧ v.letter ≠ 35 ∧ ∃ n, u = .iface 3 (.int .i64 n))
theorem AnyT.any {base : Nat} {w : World} {u : Value} {v : V} (h : AnyT base w u v) : AnyV w u v := by
  rcases h with h | h
  · exact h.any
  · obtain ⟨h1, h2, h3, h4, n, e⟩ := h
    exact .inr (.inr (.inr (.inr ⟨h1, h2, h3, h4, .inl ⟨n, e⟩⟩)))
theorem AnyT.lt {base : Nat} {w : World} {u : Value} {x : V} (h : AnyT base w u x) : ∀ k ∈ ib u, base ≤ k ∧ k < w.heap.size := by
  rcases h with h | ⟨_, _, _, _, n, rfl⟩
  · exact h.lt
  · intro k hk; simp [ib, ob, Value.ownBlock] at hk
theorem AnyT.base {base base' : Nat} {w : World} {u : Value} {x : V} (h : AnyT base w u x) (hb : base' ≤ base) : AnyT base' w u x := by
  rcases h with h | h
  · exact .inl (h.base hb)
  · exact .inr h
theorem AnyT.at {base : Nat} {w w' : World} {u : Value} {x : V} (h : AnyT base w u x) (hs : ∀ k ∈ ib u, w'.heap[k]? = w.heap[k]?) : AnyT base w' u x := by
  rcases h with h | h
  · exact .inl (h.at hs)
  · exact .inr h
theorem AnyT.below {base : Nat} {w w' : World} {u : Value} {x : V} (h : AnyT base w u x) (hb : Below w.heap.size w w') : AnyT base w' u x :=
  h.at fun k hk => hb.block k (h.lt k hk).2
theorem AnyT.iface {base : Nat} {w : World} {u : Value} {v : V} (h : AnyT base w u v) : ∃ t y, u = .iface t y := by
  rcases h with h | ⟨_, _, _, _, n, rfl⟩
  · exact h.iface
  · exact ⟨_, _, rfl⟩

/-- Such values in a row that is new, and whose block holds none of their bytes. -/
def Outs3 (base : Nat) (w : World) (v : Value) (l : List V) : Prop :=
  ∃ xs, w.ownsRow base 20 1 v l.length xs ∧ ∀ (j : Nat) (x : V), l[j]? = some x → ∃ u, xs[j]? = some u ∧ AnyT base w u x ∧ ∀ k ∈ ib u, k ∉ ob v
theorem Outs3.nil (base : Nat) (w : World) : Outs3 base w (.slice none 0 0) [] := ⟨[], World.ownsRow_nil _ _ _ _, fun j x h => by simp at h⟩
theorem Outs3.below {base : Nat} {w w' : World} {v : Value} {l : List V} (h : Outs3 base w v l) (hb : Below w.heap.size w w') : Outs3 base w' v l := by
  obtain ⟨xs, ho, hx⟩ := h
  refine ⟨xs, ownsRow_below ho hb, fun j x hj => ?_⟩
  obtain ⟨u, h1, h2, h3⟩ := hx j x hj
  exact ⟨u, h1, h2.below hb, h3⟩
theorem Outs3.snoc {base : Nat} {w w1 : World} {v v1 u : Value} {l : List V} {x : V} {xs : List Value} (hx : ∀ (j : Nat) (y : V), l[j]? = some y → ∃ z, xs[j]? = some z ∧ AnyT base w z y ∧ ∀ k ∈ ib z, k ∉ ob v)
    (hn : xs.length = l.length) (hu : AnyT base w u x) (hd : ∀ k ∈ ib u, k ∉ ob v) (ho1 : w1.ownsRow base 20 1 v1 (l.length + 1) (xs ++ [u])) (hg : w.grownBy w1 v.ownBlock) (hs : SameOrNew w v v1) : Outs3 base w1 v1 (l ++ [x]) := by
  have key : ∀ {z y}, AnyT base w z y → (∀ k ∈ ib z, k ∉ ob v) → AnyT base w1 z y ∧ ∀ k ∈ ib z, k ∉ ob v1 := by
    intro z y hz hk
    refine ⟨hz.at fun k h => hg.block k (hz.lt k h).2 (fun e => hk k h (by simp [ob, ← e])), fun k h hm => ?_⟩
    rcases (Chg.of_grown hg hs).2 k hm with h1 | h1
    · exact hk k h h1
    · have := (hz.lt k h).2; omega
  refine ⟨xs ++ [u], by simpa using ho1, fun j y hj => ?_⟩
  rcases Nat.lt_trichotomy j l.length with h | h | h
  · rw [List.getElem?_append_left h] at hj
    obtain ⟨z, h1, h2, h3⟩ := hx j y hj
    obtain ⟨k1, k2⟩ := key h2 h3
    exact ⟨z, by rw [List.getElem?_append_left (by omega)]; exact h1, k1, k2⟩
  · subst h
    rw [List.getElem?_append_right (Nat.le_refl _), Nat.sub_self] at hj
    obtain rfl : x = y := by simpa using hj
    obtain ⟨k1, k2⟩ := key hu hd
    exact ⟨u, by rw [List.getElem?_append_right (by omega), hn, Nat.sub_self]; rfl, k1, k2⟩
  · rw [List.getElem?_eq_none (by simp; omega)] at hj
    cases hj
theorem Outs3.anys {base : Nat} {w : World} {v : Value} {l : List V} (h : Outs3 base w v l) : ∃ ao cap, v = .slice ao l.length cap ∧ (ao = none → cap = 0) ∧ Anys w ao l.length cap l := by
  obtain ⟨xs, ho, hx⟩ := h
  obtain ⟨ao, cap, rfl, _, _, ⟨hn, h1, h2⟩, hc⟩ := Rd.of_own ho
  refine ⟨ao, cap, rfl, hn, rfl, h1, h2, fun j x hj => ?_⟩
  obtain ⟨u, hu, ha, _⟩ := hx j x hj
  obtain ⟨b, off, e, hb, hce⟩ := hc j u hu
  exact ⟨b, off, u, e, hb, hce, ha.any⟩

/-- A slice of the reference's values reads as l. -/
def RVs (w : World) (ao : Option Addr) (n cap : Nat) (l : List V) : Prop :=
  l.length = n ∧ n ≤ cap ∧ cap ≤ maxLen ∧ (ao = none → cap = 0) ∧ ∀ j x, l[j]? = some x → x.Ok ∧ ∃ b off sl, ao = some ⟨b, off, none⟩ ∧ b < w.heap.size ∧ w.rangeAt b (off + j * 260) (rC x sl) ∧ Rd w 1 sl x.b.length (bV x.b)
theorem rangeAt_below {w w' : World} {b o : Nat} {cs : List Value} (h : w.rangeAt b o cs) (hl : b < w.heap.size) (hb : Below w.heap.size w w') : w'.rangeAt b o cs :=
  fun j u hj => (hb.cell (p := ⟨b, o + j, none⟩) hl).trans (h j u hj)
theorem RVs.below {w w' : World} {ao : Option Addr} {n cap : Nat} {l : List V} (h : RVs w ao n cap l) (hb : Below w.heap.size w w') : RVs w' ao n cap l := by
  obtain ⟨h1, h2, h3, h4, h5⟩ := h
  refine ⟨h1, h2, h3, h4, fun j x hj => ?_⟩
  obtain ⟨ok, b, off, sl, e, hl, hr, hd⟩ := h5 j x hj
  exact ⟨ok, b, off, sl, e, Nat.lt_of_lt_of_le hl hb.size, rangeAt_below hr hl hb, hd.below hb⟩

/-- The cells of a value in a block of its own. -/
theorem rC_box (w : World) (T : TypeId) (v : V) (sl : Value) : (w.alloc (.cells (rC v sl).toArray T)).rangeAt w.heap.size 0 (rC v sl) := fun j u hj => by
  rw [Nat.zero_add]
  exact cellOf' (heap_alloc_new w _) j (by simpa using hj)
theorem rC_cells {w : World} {b o : Nat} {v : V} {sl : Value} (h : w.rangeAt b o (rC v sl)) : w.cell? ⟨b, o, none⟩ = some (.int .u8 (v.letter.toNat : Int)) ∧ w.cell? ⟨b, o + 1, none⟩ = some (.int .u64 (v.n : Int)) ∧ w.cell? ⟨b, o + 2, none⟩ = some (.bool v.yes) ∧ w.cell? ⟨b, o + 3, none⟩ = some sl ∧ w.rangeAt b (o + 4) (bV v.x) :=
  ⟨h 0 _ rfl, h 1 _ rfl, h 2 _ rfl, h 3 _ rfl, fun j u hj => by
    have := h (j + 4) u (by simpa [rC] using hj)
    rwa [show o + (j + 4) = o + 4 + j by omega] at this⟩

theorem letter_ne {c k : UInt8} (h : c ≠ k) : ((c.toNat : Int) == (k.toNat : Int)) = false := by
  rw [beq_eq_false_iff_ne]; intro e; exact h (byteI.1 e)

set_option maxRecDepth 100000 in
set_option maxHeartbeats 3200000 in
theorem told_any (v : V) (sl : Value) (w : World) (hok : v.Ok) (hrd : Rd w 1 sl v.b.length (bV v.b)) (hbl : v.b.length ≤ 50000000) :
    Calls Try.prog 76 #[rA v sl] w fun e w' => ∃ u, e = .returned u ∧ AnyT w.heap.size w' u v ∧ Below w.heap.size w w' := by
  have hbx := rC_box w 103 v sl
  obtain ⟨k0, k1, k2, k3, k4⟩ := rC_cells hbx
  simp only [Nat.zero_add] at k0 k1 k2 k3 k4
  have hb1 : Below w.heap.size w (w.alloc (.cells (rC v sl).toArray 103)) := balloc (Below.refl _ w) _
  have HB := Lib.hid hb1
  have hrd1 := hrd.below hb1
  have HRD := Lib.hid hrd1
  have HOK := Lib.hid hok
  have hxl : (bV v.x).length = 256 := by rw [bV_len, hok.x]
  have hi : (Try.prog.info? 40).map (·.size) = some (bV v.x).length := by rw [hxl]; kernel_rfl
  have HIX := Lib.hid (And.intro k4 hi)
  unfold rA
  generalize hC : (rC v sl).toArray = C at *
  clear hC hbx hb1 hrd hrd1 hok hxl hi k4
  by_cases c56 : v.letter = 56
  · have g : ((v.letter.toNat : Int) == 56) = true := by rw [c56]; rfl
    have HV := Lib.hid c56
    generalize (v.letter.toNat : Int) = q at *
    clear c56
    go_enter Try.func76, Try.ntmps76
    go_wp2_with fail
    go_ret
    exact ⟨_, rfl, .inl (.inl ⟨HV.out, rfl, HOK.out.n⟩), HB.out⟩
  have g56 : ((v.letter.toNat : Int) == 56) = false := letter_ne c56
  by_cases c63 : v.letter = 63
  · have g : ((v.letter.toNat : Int) == 63) = true := by rw [c63]; rfl
    have HV := Lib.hid c63
    generalize (v.letter.toNat : Int) = q at *
    clear c63 c56
    go_enter Try.func76, Try.ntmps76
    go_wp2_with fail
    go_ret
    exact ⟨_, rfl, .inl (.inr (.inl ⟨HV.out, rfl⟩)), HB.out⟩
  have g63 : ((v.letter.toNat : Int) == 63) = false := letter_ne c63
  by_cases c42 : v.letter = 42
  · have g : ((v.letter.toNat : Int) == 42) = true := by rw [c42]; rfl
    have HV := Lib.hid c42
    have hs := HB.out.size
    have hnil : (w.alloc (.cells C 103)).ownsRow w.heap.size 5 1 (.slice none 0 0) 0 [] := World.ownsRow_nil _ _ _ _
    generalize (v.letter.toNat : Int) = q at *
    generalize hL : v.b.length = L at *
    have HL := Lib.hid hL
    clear c42 c63 c56 hL
    go_enter Try.func76, Try.ntmps76
    go_wp2_with (at_builtin; go_must (refine wpList_apps rfl _ _ 36 rfl w.heap.size 5 _ 1 1 Try.underlying36 infoByte rfl (by decide) (by decide) _ 0 [] rfl hnil _ L _ rfl HRD.out (bV_one _) (by omega) hs ?_); intro v2 w2 ho2 hb2 hg2 hsn2 hn2)
    have HO2 := Lib.hid ho2
    have HB2 := Lib.hid (HB.out.trans hb2)
    clear ho2 hb2 hg2 hsn2 hn2
    go_ret
    refine ⟨_, rfl, .inl (.inr (.inr (.inl ⟨HV.out, v2, rfl, ?_⟩))), HB2.out⟩
    rw [HL.out]
    simpa using HO2.out
  have g42 : ((v.letter.toNat : Int) == 42) = false := letter_ne c42
  by_cases c35 : v.letter = 35
  · have g : ((v.letter.toNat : Int) == 35) = true := by rw [c35]; rfl
    have HV := Lib.hid c35
    generalize (v.letter.toNat : Int) = q at *
    generalize hX : bV v.x = X at *
    have HX := Lib.hid hX
    clear c42 c63 c56 c35 hX
    go_enter Try.func76, Try.ntmps76
    go_wp2_with (((refine wpList_load_mid rfl 40 _ rfl w.heap.size 4 rfl X _ HIX.out.1 Try.underlying40 rfl HIX.out.2 ?_)))
    go_ret
    exact ⟨_, rfl, .inl (.inr (.inr (.inr ⟨HV.out, by rw [← HX.out]; rfl, HOK.out.x⟩))), HB.out⟩
  · have g35 : ((v.letter.toNat : Int) == 35) = false := letter_ne c35
    have HV := Lib.hid (show v.letter ≠ 56 ∧ v.letter ≠ 63 ∧ v.letter ≠ 42 ∧ v.letter ≠ 35 from ⟨c56, c63, c42, c35⟩)
    generalize (v.letter.toNat : Int) = q at *
    clear c42 c63 c56 c35
    go_enter Try.func76, Try.ntmps76
    go_wp2_with fail
    go_ret
    exact ⟨_, rfl, .inr ⟨HV.out.1, HV.out.2.1, HV.out.2.2.1, HV.out.2.2.2, _, rfl⟩, HB.out⟩

/-- What much answers. -/
def MuchP (s : ByteArray) (n : Nat) (l : List V) (e : Ending) : Prop := ∃ y, e = .returned (.bool y) ∧ (y = false → s.size ≤ 40 ∧ n ≤ 40 ∧ ∀ x ∈ l, x.b.length ≤ 3000)
set_option maxRecDepth 100000 in
set_option maxHeartbeats 3200000 in
theorem much_any (s : ByteArray) (ao : Option Addr) (n cap : Nat) (l : List V) (w : World) (hv : RVs w ao n cap l) :
    Calls Try.prog 52 #[.string s, .slice ao n cap] w fun e w' => MuchP s n l e ∧ w = w' := by
  have HV := Lib.hid hv
  have hnm : n ≤ cap ∧ cap ≤ 9223372036854775807 := by obtain ⟨_, h2, h3, _⟩ := hv; unfold maxLen at h3; exact ⟨h2, h3⟩
  have hl := hv.1
  have HL := Lib.hid hl
  clear hv hl
  go_enter Try.func52, Try.ntmps52
  go_wp2_with fail
  go_loop [5] (fun i => ∃ k : Nat, k ≤ n ∧ k ≤ 41 ∧ i = .int .i64 (k : Int) ∧ ∀ j x, j < k → l[j]? = some x → x.b.length ≤ 3000) (fun i => 41 - (intOf i).toNat)
  case atStart => exact ⟨0, by omega, by omega, rfl, fun j x hj => by omega⟩
  case round =>
    obtain ⟨k, hk, hk2, rfl, hq⟩ := hrel
    have HQ := Lib.hid hq
    clear hq
    by_cases hlt : k < n
    · by_cases h40 : k ≤ 40
      · obtain ⟨x, hx⟩ : ∃ x, l[k]? = some x := ⟨_, List.getElem?_eq_getElem (by rw [HL.out]; exact hlt)⟩
        obtain ⟨_, b, off, sl, rfl, hbl, hr, hrd⟩ := HV.out.2.2.2.2 k x hx
        obtain ⟨k0, k1, k2, k3, k4⟩ := rC_cells hr
        obtain ⟨ao1, cap1, rfl, _, _, ⟨_, hc1, hc2⟩, _⟩ := hrd
        have HX := Lib.hid hx
        unfold maxLen at hc2
        clear hx hr k0 k1 k2 k4
        by_cases h3 : 3000 < x.b.length
        · generalize x.b.length = L at *
          go_wp2_with fail
          go_ret
          exact ⟨⟨_, rfl, fun h => by cases h⟩, rfl⟩
        · have HN : Hid (∀ j y, j < k + 1 → l[j]? = some y → y.b.length ≤ 3000) := Lib.hid (fun j y hj hy => by
            rcases Nat.lt_or_ge j k with h | h
            · exact HQ.out j y h hy
            · obtain rfl : j = k := by omega
              rw [HX.out] at hy
              obtain rfl := Option.some.inj hy
              omega)
          generalize x.b.length = L at *
          go_wp2_with fail
          go_round
          case rel => exact ⟨k + 1, by omega, by omega, by go_num, HN.out⟩
          case measure => simp [intOf]; omega
      · have h40' : ¬ n ≤ 40 := by omega
        go_wp2_with fail
        all_goals
          go_ret
          refine ⟨⟨_, rfl, fun h => ?_⟩, rfl⟩
          simp at h <;> omega
    · obtain rfl : k = n := by omega
      have HF : Hid (∀ x ∈ l, x.b.length ≤ 3000) := Lib.hid (fun x hx => by
        obtain ⟨j, hj⟩ := List.mem_iff_getElem?.1 hx
        exact HQ.out j x (by rw [← HL.out]; exact (List.getElem?_eq_some_iff.1 hj).1) hj)
      go_wp2_with fail
      all_goals
        go_ret
        refine ⟨⟨_, rfl, fun h => ?_⟩, rfl⟩
        simp at h <;> exact ⟨by omega, by omega, HF.out⟩
end Go.Proofs.Ytgokaoajpidhnaa
