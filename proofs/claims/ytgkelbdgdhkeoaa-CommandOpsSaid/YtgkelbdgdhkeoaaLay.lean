/- wire.lay, walked. -/
import Derived.Test.YtgkelbdgdhkeoaaContR
import Derived.Test.YtgkelbdgdhkeoaaArr
import Derived.Test.YtgkelbdgdhkeoaaAssert
import Derived.Test.YtgkelbdgdhkeoaaHigh
namespace Go.Proofs.Ytgkelbdgdhkeoaa
open Go.RowKit
set_option linter.unusedVariables false
set_option linter.unusedSimpArgs false
open Wire

/-- A value that has none of the four types: a number of another type; none. -/
def OddV (u : Value) : Prop := (∃ n, u = .iface 3 (.int .i64 n)) ∨ u = .nilIface
/-- A value as the program takes it. -/
def AnyV (w : World) (u : Value) (v : V) : Prop :=
  (v.letter = 56 ∧ u = .iface 23 (.int .u64 (v.n : Int)) ∧ v.n < 18446744073709551616) ∨
  (v.letter = 63 ∧ u = .iface 4 (.bool v.yes)) ∨
  (v.letter = 42 ∧ ∃ sl, u = .iface 24 sl ∧ Rd w 1 sl v.b.length (bV v.b)) ∨
  (v.letter = 35 ∧ u = .iface 77 (bA v.x) ∧ v.x.length = 256) ∨
  (v.letter ≠ 56 ∧ v.letter ≠ 63 ∧ v.letter ≠ 42 ∧ v.letter ≠ 35 ∧ OddV u)
theorem AnyV.below {w w' : World} {u : Value} {v : V} (h : AnyV w u v) (hb : Below w.heap.size w w') : AnyV w' u v := by
  rcases h with h | h | ⟨h, sl, h1, h2⟩ | h | h
  · exact .inl h
  · exact .inr (.inl h)
  · exact .inr (.inr (.inl ⟨h, sl, h1, h2.below hb⟩))
  · exact .inr (.inr (.inr (.inl h)))
  · exact .inr (.inr (.inr (.inr h)))

/-- A value's bytes by a rune. -/
def layI (r : Int) (v : V) : Option (List UInt8) :=
  if v.letter = 56 then (if isNumI r = true ∧ v.n < 256 ^ widI r then some (low v.n (widI r)) else none)
  else if v.letter = 63 then (if r = 63 then some [if v.yes then 1 else 0] else none)
  else if v.letter = 42 then (if r = 42 ∧ v.b.length ≤ 16777216 then some (low v.b.length 4 ++ v.b) else none)
  else if v.letter = 35 then (if r = 35 then some v.x else none)
  else none
theorem byteI {c k : UInt8} : ((c.toNat : Int) = (k.toNat : Int)) ↔ c = k := ⟨fun h => UInt8.toNat_inj.1 (by omega), fun h => by rw [h]⟩
theorem isNumI_byte (c : UInt8) : isNumI (c.toNat : Int) = isNum c := by
  have e : ∀ k : UInt8, ((c.toNat : Int) == (k.toNat : Int)) = (c == k) := fun k => by
    rw [Bool.eq_iff_iff, beq_iff_eq, beq_iff_eq]; exact byteI
  have e1 := e 49
  have e2 := e 50
  have e3 := e 52
  have e4 := e 56
  unfold isNumI isNum
  rw [← e1, ← e2, ← e3, ← e4]
  rfl
theorem layI_byte (c : UInt8) (v : V) : layI (c.toNat : Int) v = lay c v := by
  have e : ∀ k : UInt8, ((c.toNat : Int) = (k.toNat : Int)) ↔ c = k := fun k => byteI
  have e1 := e 63
  have e2 := e 42
  have e3 := e 35
  simp only [UInt8.reduceToNat, Int.cast_ofNat_Int] at e1 e2 e3
  unfold layI lay
  rw [isNumI_byte]
  simp only [e1, e2, e3]
  rfl
theorem layI_far {r : Int} (h : 128 ≤ r) (v : V) : layI r v = none := by
  have h1 : isNumI r = false := by simp [isNumI]; omega
  unfold layI
  rw [h1, if_neg (fun hh : _ ∧ _ => by cases hh.1), if_neg (show r ≠ 63 by omega), if_neg (fun hh : r = 42 ∧ _ => by omega), if_neg (show r ≠ 35 by omega)]
  simp

/-- What lay leaves. -/
def LayP (base : Nat) (w : World) (v0 : Value) (m : Nat) (xs : List UInt8) (o : Option (List UInt8)) (e : Ending) (w' : World) : Prop :=
  ∃ v', Mods (ob v0) w w' ∧ match o with
    | some bs => e = .returned (.tuple #[v', .bool true]) ∧ w'.ownsRow base 5 1 v' (m + bs.length) (bV (xs ++ bs)) ∧ Chg (ob v0) w w' (ob v')
    | none => e = .returned (.tuple #[v', .bool false])
theorem LayP.none_of {base : Nat} {w : World} {v0 v' : Value} {m : Nat} {xs : List UInt8} {o : Option (List UInt8)} {e : Ending} {w' : World} (ho : o = none) (he : e = .returned (.tuple #[v', .bool false])) (hm : Mods (ob v0) w w') : LayP base w v0 m xs o e w' := by
  subst ho; exact ⟨v', hm, he⟩
theorem LayP.some_of {base : Nat} {w : World} {v0 v' : Value} {m : Nat} {xs bs : List UInt8} {o : Option (List UInt8)} {e : Ending} {w' : World} (ho : o = some bs) (he : e = .returned (.tuple #[v', .bool true])) (hr : w'.ownsRow base 5 1 v' (m + bs.length) (bV (xs ++ bs))) (hc : Chg (ob v0) w w' (ob v')) : LayP base w v0 m xs o e w' := by
  subst ho; exact ⟨v', hc.1, he, hr, hc⟩

set_option maxRecDepth 100000 in
set_option maxHeartbeats 3200000 in
theorem lay_num {w0 w : World} {v0 : Value} {m : Nat} {xs : List UInt8} (hb : Below w0.heap.size w0 w) (ho : w.ownsRow w0.heap.size 5 1 v0 m (bV xs)) (hm : m ≤ 50000000) (r : Int) (h1 : 0 ≤ r) (h2 : r ≤ 2147483647) (v : V) (hl : v.letter = 56) (hn : v.n < 18446744073709551616) :
    Calls Try.prog 130 #[v0, .int .i32 r, .iface 23 (.int .u64 (v.n : Int))] w (LayP w0.heap.size w v0 m xs (layI r v)) := by
  have CR := contR_any r w h1 h2
  have ta := fun W => run_assert_hit (P := Try.prog) (xT := 20) Try.underlying23 rfl (.int .u64 (v.n : Int)) W
  have HB := Lib.hid hb
  have HO := Lib.hid ho
  have HV := Lib.hid hl
  clear ho hb hl
  generalize hy : v.n = y at *
  have HY := Lib.hid hy
  clear hy
  cases hi : isNumI r with
  | false =>
    rw [hi] at CR
    have HE : Hid (layI r v = none) := Lib.hid (by unfold layI; rw [if_pos HV.out, hi]; simp)
    clear hi
    go_enter Try.func130, Try.ntmps130
    go_wp2_with fail
    refine (CR).mono ?_
    rintro e w1 ⟨rfl, hb1⟩
    have HB1 := Lib.hid hb1
    clear hb1 CR
    go_wp2_with fail
    go_ret2
    exact LayP.none_of HE.out rfl (Mods.of_below HB1.out)
  | true =>
    rw [hi] at CR
    have hw8 : 1 ≤ widI r ∧ widI r ≤ 8 := by
      simp only [isNumI, Bool.or_eq_true, beq_iff_eq] at hi
      rcases hi with ((rfl | rfl) | rfl) | rfl <;> decide
    have HI := Lib.hid hi
    clear hi
    go_enter Try.func130, Try.ntmps130
    go_wp2_with fail
    refine (CR).mono ?_
    rintro e w1 ⟨rfl, hb1⟩
    have HB1 := Lib.hid hb1
    have CW := width_any r w1 (by omega) h2
    have CL := low_any (ownsRow_below HO.out hb1) (Nat.le_trans HB.out.size hb1.size) y (widI r) hn hw8.2 (by omega)
    clear hb1 CR
    go_wp2_with fail
    refine CW.mono ?_
    rintro e w2 ⟨rfl, rfl⟩
    clear CW
    go_wp2_with fail
    refine CL.mono ?_
    rintro e w3 ⟨v', rfl, ho3, hc3⟩
    by_cases hf : y < 256 ^ widI r
    · have hz : (y / 256 ^ widI r == 0) = true := by rw [Nat.div_eq_of_lt hf]; rfl
      rw [hz]
      have HE : Hid (layI r v = some (low y (widI r))) := Lib.hid (by unfold layI; rw [if_pos HV.out, HI.out, HY.out]; simp [hf])
      have HO3 := Lib.hid ho3
      have HC3 := Lib.hid hc3
      clear ho3 hc3 CL hz hf
      go_wp2_with fail
      go_ret2
      exact LayP.some_of HE.out rfl (by rw [low_len]; exact HO3.out) (Chg.pre HB1.out HC3.out)
    · have hz : (y / 256 ^ widI r == 0) = false := by
        rw [beq_eq_false_iff_ne]
        have := Nat.div_pos (Nat.le_of_not_lt hf) (Nat.pow_pos (n := widI r) (show 0 < 256 by omega))
        omega
      rw [hz]
      have HE : Hid (layI r v = none) := Lib.hid (by unfold layI; rw [if_pos HV.out, HI.out, HY.out]; simp [hf])
      have HC3 := Lib.hid hc3
      clear ho3 hc3 CL hz hf
      go_wp2_with fail
      go_ret2
      exact LayP.none_of HE.out rfl (Chg.pre HB1.out HC3.out).1

set_option maxRecDepth 100000 in
set_option maxHeartbeats 3200000 in
theorem lay_flag {w0 w : World} {v0 : Value} {m : Nat} {xs : List UInt8} (hb : Below w0.heap.size w0 w) (ho : w.ownsRow w0.heap.size 5 1 v0 m (bV xs)) (hm : m ≤ 50000000) (r : Int) (v : V) (hl : v.letter = 63) :
    Calls Try.prog 130 #[v0, .int .i32 r, .iface 4 (.bool v.yes)] w (LayP w0.heap.size w v0 m xs (layI r v)) := by
  have ta := fun y W => run_assert_miss (P := Try.prog) (t' := 4) (xT := 20) Try.underlying23 rfl (by decide) zeroU64 y W
  have tb := fun y W => run_assert_hit (P := Try.prog) (xT := 20) Try.underlying4 rfl y W
  have hb' := hb.size
  have HV := Lib.hid hl
  clear hl
  by_cases hr : r = 63
  · subst hr
    cases hy : v.yes
    · have HE : Hid (layI 63 v = some [0]) := Lib.hid (by unfold layI; rw [HV.out, hy]; rfl)
      clear hy
      go_enter Try.func130, Try.ntmps130
      go_wp2_with (at_builtin; go_must (refine wpList_app rfl _ _ 24 rfl w0.heap.size 5 _ 1 1 Try.underlying24 infoByte rfl (by decide) (by decide) _ m _ rfl ho rfl rfl (by simp [Value.oneCell']) (by omega) hb' ?_); intro v1 w1 ho1 hb1 hg1 hs1 hn1)
      have HO1 := Lib.hid ho1
      have HC1 := Lib.hid (Chg.of_grown hg1 hs1)
      clear ho1 hb1 hg1 hs1 hn1
      go_ret2
      exact LayP.some_of HE.out rfl (by rw [bV_app]; exact HO1.out) HC1.out
    · have HE : Hid (layI 63 v = some [1]) := Lib.hid (by unfold layI; rw [HV.out, hy]; rfl)
      clear hy
      go_enter Try.func130, Try.ntmps130
      go_wp2_with (at_builtin; go_must (refine wpList_app rfl _ _ 24 rfl w0.heap.size 5 _ 1 1 Try.underlying24 infoByte rfl (by decide) (by decide) _ m _ rfl ho rfl rfl (by simp [Value.oneCell']) (by omega) hb' ?_); intro v1 w1 ho1 hb1 hg1 hs1 hn1)
      have HO1 := Lib.hid ho1
      have HC1 := Lib.hid (Chg.of_grown hg1 hs1)
      clear ho1 hb1 hg1 hs1 hn1
      go_ret2
      exact LayP.some_of HE.out rfl (by rw [bV_app]; exact HO1.out) HC1.out
  · have HE : Hid (layI r v = none) := Lib.hid (by unfold layI; rw [HV.out, if_neg (by decide), if_pos rfl, if_neg hr])
    have hr2 : (r == 63) = false := by simpa using hr
    clear hr
    cases hy : v.yes
    all_goals
      clear hy
      go_enter Try.func130, Try.ntmps130
      go_wp2_with (at_builtin; go_must (refine wpList_app rfl _ _ 24 rfl w0.heap.size 5 _ 1 1 Try.underlying24 infoByte rfl (by decide) (by decide) _ m _ rfl ho rfl rfl (by simp [Value.oneCell']) (by omega) hb' ?_); intro v1 w1 ho1 hb1 hg1 hs1 hn1)
      have HC1 := Lib.hid (Chg.of_grown hg1 hs1)
      clear ho1 hb1 hg1 hs1 hn1
      go_ret2
      exact LayP.none_of HE.out rfl HC1.out.1

set_option maxRecDepth 100000 in
set_option maxHeartbeats 3200000 in
theorem lay_blob {w0 w : World} {v0 : Value} {m : Nat} {xs : List UInt8} (hb : Below w0.heap.size w0 w) (ho : w.ownsRow w0.heap.size 5 1 v0 m (bV xs)) (hm : m ≤ 50000000) (r : Int) (v : V) (hl : v.letter = 42) (sl : Value) (hrd : Rd w0 1 sl v.b.length (bV v.b)) (hbl : v.b.length ≤ 50000000) :
    Calls Try.prog 130 #[v0, .int .i32 r, .iface 24 sl] w (LayP w0.heap.size w v0 m xs (layI r v)) := by
  have ta := fun y W => run_assert_miss (P := Try.prog) (t' := 24) (xT := 20) Try.underlying23 rfl (by decide) zeroU64 y W
  have tb := fun y W => run_assert_miss (P := Try.prog) (t' := 24) (xT := 20) Try.underlying4 rfl (by decide) zeroBool y W
  have tc := fun y W => run_assert_hit (P := Try.prog) (xT := 20) Try.underlying24 rfl y W
  have HRD := Lib.hid hrd
  have HV := Lib.hid hl
  have HB := Lib.hid hb
  obtain ⟨ao, cap, rfl, _⟩ := hrd
  clear hl hb
  by_cases hr : r = 42 ∧ v.b.length ≤ 16777216
  · obtain ⟨rfl, hle⟩ := hr
    have HE : Hid (layI 42 v = some (low v.b.length 4 ++ v.b)) := Lib.hid (by unfold layI; rw [HV.out, if_neg (by decide), if_neg (by decide), if_pos rfl, if_pos ⟨rfl, hle⟩])
    have CL := low_any ho HB.out.size v.b.length 4 (by omega) (by omega) (by omega)
    generalize hL : v.b.length = L at *
    have HL := Lib.hid hL
    have HGE := Lib.hid (ownsRow_ge ho)
    clear hL ho
    go_enter Try.func130, Try.ntmps130
    go_wp2_with fail
    refine CL.mono ?_
    rintro e w1 ⟨v1, rfl, ho1, hc1⟩
    have hb1 : Below w0.heap.size w w1 := hc1.below HGE.out HB.out.size
    have hrd1 := HRD.out.below (HB.out.trans hb1)
    have hs1 : w0.heap.size ≤ w1.heap.size := (HB.out.trans hb1).size
    have HC1 := Lib.hid hc1
    generalize (L / 256 ^ 4 == 0) = q
    clear hc1 hb1 CL
    go_wp2_with (at_builtin; go_must (refine wpList_apps rfl _ _ 24 rfl w0.heap.size 5 _ 1 1 Try.underlying24 infoByte rfl (by decide) (by decide) _ (m + 4) _ rfl ho1 _ L _ rfl hrd1 (bV_one _) (by omega) hs1 ?_); intro v2 w2 ho2 hb2 hg2 hsn2 hn2)
    have HO2 := Lib.hid ho2
    have HC2 := Lib.hid (Chg.of_grown hg2 hsn2)
    clear ho2 hb2 hg2 hsn2 hn2 ho1 hrd1
    go_ret2
    refine LayP.some_of (by rw [HE.out]) rfl ?_ (HC1.out.trans HC2.out)
    have := HO2.out
    rw [← bV_app, List.append_assoc] at this
    rw [List.length_append, low_len, HL.out, ← Nat.add_assoc]
    exact this
  · have HE : Hid (layI r v = none) := Lib.hid (by unfold layI; rw [HV.out, if_neg (by decide), if_neg (by decide), if_pos rfl, if_neg hr])
    by_cases hr2 : r = 42
    · subst hr2
      have hlen : 16777216 < v.b.length := by omega
      generalize v.b.length = L at *
      clear hr
      go_enter Try.func130, Try.ntmps130
      go_wp2
      go_ret2
      exact LayP.none_of HE.out rfl (Mods.refl _ _)
    · have hr3 : (r != 42) = true := by simpa using hr2
      generalize v.b.length = L at *
      clear hr hr2
      go_enter Try.func130, Try.ntmps130
      go_wp2
      go_ret2
      exact LayP.none_of HE.out rfl (Mods.refl _ _)

set_option maxRecDepth 100000 in
set_option maxHeartbeats 3200000 in
theorem lay_odd {w0 w : World} {v0 : Value} {m : Nat} {xs : List UInt8} (r : Int) (v : V) (hl : v.letter ≠ 56 ∧ v.letter ≠ 63 ∧ v.letter ≠ 42 ∧ v.letter ≠ 35) (n : Int) :
    Calls Try.prog 130 #[v0, .int .i32 r, .iface 3 (.int .i64 n)] w (LayP w0.heap.size w v0 m xs (layI r v)) := by
  have ta := fun y W => run_assert_miss (P := Try.prog) (t' := 3) (xT := 20) Try.underlying23 rfl (by decide) zeroU64 y W
  have tb := fun y W => run_assert_miss (P := Try.prog) (t' := 3) (xT := 20) Try.underlying4 rfl (by decide) zeroBool y W
  have tc := fun y W => run_assert_miss (P := Try.prog) (t' := 3) (xT := 20) Try.underlying24 rfl (by decide) zeroBytes y W
  obtain ⟨z, hz⟩ := zeroBlock
  have td := fun y W => run_assert_miss (P := Try.prog) (t' := 3) (xT := 20) Try.underlying77 rfl (by decide) hz y W
  have HE : Hid (layI r v = none) := Lib.hid (by unfold layI; rw [if_neg hl.1, if_neg hl.2.1, if_neg hl.2.2.1, if_neg hl.2.2.2])
  clear hl hz
  go_enter Try.func130, Try.ntmps130
  go_wp2
  go_ret2
  exact LayP.none_of HE.out rfl (Mods.refl _ _)

set_option maxRecDepth 100000 in
set_option maxHeartbeats 3200000 in
theorem lay_nil {w0 w : World} {v0 : Value} {m : Nat} {xs : List UInt8} (r : Int) (v : V) (hl : v.letter ≠ 56 ∧ v.letter ≠ 63 ∧ v.letter ≠ 42 ∧ v.letter ≠ 35) :
    Calls Try.prog 130 #[v0, .int .i32 r, .nilIface] w (LayP w0.heap.size w v0 m xs (layI r v)) := by
  have ta := fun W => run_assert_nil (P := Try.prog) (xT := 20) Try.underlying23 rfl zeroU64 W
  have tb := fun W => run_assert_nil (P := Try.prog) (xT := 20) Try.underlying4 rfl zeroBool W
  have tc := fun W => run_assert_nil (P := Try.prog) (xT := 20) Try.underlying24 rfl zeroBytes W
  obtain ⟨z, hz⟩ := zeroBlock
  have td := fun W => run_assert_nil (P := Try.prog) (xT := 20) Try.underlying77 rfl hz W
  have HE : Hid (layI r v = none) := Lib.hid (by unfold layI; rw [if_neg hl.1, if_neg hl.2.1, if_neg hl.2.2.1, if_neg hl.2.2.2])
  clear hl hz
  go_enter Try.func130, Try.ntmps130
  go_wp2
  go_ret2
  exact LayP.none_of HE.out rfl (Mods.refl _ _)

set_option maxRecDepth 100000 in
set_option maxHeartbeats 3200000 in
/-- A block laid. -/
theorem lay_blk {w0 w : World} {v0 : Value} {m : Nat} {xs : List UInt8} (hb : Below w0.heap.size w0 w) (ho : w.ownsRow w0.heap.size 5 1 v0 m (bV xs)) (hm : m ≤ 50000000) (r : Int) (v : V) (hl : v.letter = 35) (hx : v.x.length = 256) :
    Calls Try.prog 130 #[v0, .int .i32 r, .iface 77 (bA v.x)] w (LayP w0.heap.size w v0 m xs (layI r v)) := by
  have ta := fun y W => run_assert_miss (P := Try.prog) (t' := 77) (xT := 20) Try.underlying23 rfl (by decide) zeroU64 y W
  have tb := fun y W => run_assert_miss (P := Try.prog) (t' := 77) (xT := 20) Try.underlying4 rfl (by decide) zeroBool y W
  have tc := fun y W => run_assert_miss (P := Try.prog) (t' := 77) (xT := 20) Try.underlying24 rfl (by decide) zeroBytes y W
  have td := fun y W => run_assert_hit (P := Try.prog) (xT := 20) Try.underlying77 rfl y W
  have HV := Lib.hid hl
  clear hl
  have hb' := hb.size
  have hst := run_storeNew (P := Try.prog) w 77 Try.zeroCells77 (bV v.x).toArray (by rw [show Try.zeroCells77.size = 256 from by kernel_rfl]; simp [bV_len, hx]) (by simpa using bV_one v.x)
  have hrd := Rd.new w 77 v.x 256 hx (by omega)
  have HRD := Lib.hid hrd
  clear hrd
  unfold bA
  generalize hcs : (bV v.x).toArray = cs at *
  have hsz : cs.size = 256 := by rw [← hcs]; simp [bV_len, hx]
  have ho1 := ho.alloc (.cells cs 77)
  have hb1 : Below w.heap.size w (w.alloc (.cells cs 77)) := balloc (Below.refl _ w) _
  have HB1 := Lib.hid hb1
  have hs1 : w0.heap.size ≤ (w.alloc (.cells cs 77)).heap.size := Nat.le_trans hb' hb1.size
  clear hcs ho hb hb1 hb'
  by_cases hr : r = 35
  · subst hr
    have HE : Hid (layI 35 v = some v.x) := Lib.hid (by unfold layI; rw [HV.out]; rfl)
    go_enter Try.func130, Try.ntmps130
    go_wp2_with (at_builtin; go_must (refine wpList_apps rfl _ _ 24 rfl w0.heap.size 5 _ 1 1 Try.underlying24 infoByte rfl (by decide) (by decide) _ m _ rfl ho1 _ 256 _ rfl HRD.out (bV_one _) (by omega) hs1 ?_); intro v2 w2 ho2 hb2 hg2 hsn2 hn2)
    have HO2 := Lib.hid ho2
    have HC2 := Lib.hid (Chg.of_grown hg2 hsn2)
    clear ho2 hb2 hg2 hsn2 hn2 ho1
    go_ret2
    exact LayP.some_of HE.out rfl (by rw [bV_app, hx]; exact HO2.out) (Chg.pre HB1.out HC2.out)
  · have HE : Hid (layI r v = none) := Lib.hid (by unfold layI; rw [if_neg (by rw [HV.out]; decide), if_neg (by rw [HV.out]; decide), if_neg (by rw [HV.out]; decide), if_pos HV.out, if_neg hr])
    have hr2 : (r == 35) = false := by simpa using hr
    clear hr
    go_enter Try.func130, Try.ntmps130
    go_wp2_with (at_builtin; go_must (refine wpList_apps rfl _ _ 24 rfl w0.heap.size 5 _ 1 1 Try.underlying24 infoByte rfl (by decide) (by decide) _ m _ rfl ho1 _ 256 _ rfl HRD.out (bV_one _) (by omega) hs1 ?_); intro v2 w2 ho2 hb2 hg2 hsn2 hn2)
    have HC2 := Lib.hid (Chg.of_grown hg2 hsn2)
    clear ho2 hb2 hg2 hsn2 hn2 ho1
    go_ret2
    exact LayP.none_of HE.out rfl (Chg.pre HB1.out HC2.out).1

/-- Any value laid. -/
theorem lay_any {w0 w : World} {v0 u : Value} {m : Nat} {xs : List UInt8} (hb : Below w0.heap.size w0 w) (ho : w.ownsRow w0.heap.size 5 1 v0 m (bV xs)) (hm : m ≤ 50000000) (r : Int) (h1 : 0 ≤ r) (h2 : r ≤ 2147483647) (v : V) (ha : AnyV w0 u v) (hl : v.b.length ≤ 50000000) :
    Calls Try.prog 130 #[v0, .int .i32 r, u] w (LayP w0.heap.size w v0 m xs (layI r v)) := by
  rcases ha with ⟨h, rfl, hn⟩ | ⟨h, rfl⟩ | ⟨h, sl, rfl, hrd⟩ | ⟨h, rfl, hx⟩ | ⟨h3, h4, h5, h6, ⟨n, rfl⟩ | rfl⟩
  · exact lay_num hb ho hm r h1 h2 v h hn
  · exact lay_flag hb ho hm r v h
  · exact lay_blob hb ho hm r v h sl hrd hl
  · exact lay_blk hb ho hm r v h hx
  · exact lay_odd r v ⟨h3, h4, h5, h6⟩ n
  · exact lay_nil r v ⟨h3, h4, h5, h6⟩
end Go.Proofs.Ytgkelbdgdhkeoaa
