/- Several texts in one: Lay Pack Lift Unpack Known1 ShapesL Told All Join0 JoinsL Means0 Are. -/
import Derived.Test.YtgkelbdgdhkeoaaGreatPWA
import Derived.Deep.DeepCutAuto
namespace Go.Proofs.YtgkelbdgdhkeoaaGreat
open Go.RowKit
set_option linter.unusedVariables false
set_option linter.unusedSimpArgs false
open Wire
/-- A value that has none of the four types: a number of another type; none. -/
def OddV (u : Value) : Prop := (∃ n, u = .iface 3 (.int .i64 n)) ∨ u = .nilIface
/-- A value as the program takes it. -/
def AnyV (w : World) (u : Value) (v : V) : Prop :=
 (v.letter = 56 ∧ u = .iface 41 (.int .u64 (v.n : Int)) ∧ v.n < 18446744073709551616) ∨
 (v.letter = 63 ∧ u = .iface 4 (.bool v.yes)) ∨
 (v.letter = 42 ∧ ∃ sl, u = .iface 34 sl ∧ Rd w 1 sl v.b.length (bV v.b)) ∨
 (v.letter = 35 ∧ u = .iface 76 (bA v.x) ∧ v.x.length = 256) ∨
 (v.letter ≠ 56 ∧ v.letter ≠ 63 ∧ v.letter ≠ 42 ∧ v.letter ≠ 35 ∧ OddV u)
theorem AnyV.below {w w' : World} {u : Value} {v : V} (h : AnyV w u v) (hb : Below w.heap.size w w') : AnyV w' u v := by
 rcases h with h | h | ⟨h, sl, h1, h2⟩ | h | h
 ·exact .inl h
 ·exact .inr (.inl h)
 ·exact .inr (.inr (.inl ⟨h, sl, h1, h2.below hb⟩))
 ·exact .inr (.inr (.inr (.inl h)))
 ·exact .inr (.inr (.inr (.inr h)))
/-- A value's bytes by a rune. -/
def layI (r : Int) (v : V) : Option (List UInt8) :=
 if v.letter = 56 then (if isNumI r = true ∧ v.n < 256 ^ widI r then some (low v.n (widI r)) else none)
 else if v.letter = 63 then (if r = 63 then some [if v.yes then 1 else 0] else none)
 else if v.letter = 42 then (if r = 42 ∧ v.b.length ≤ 16777216 then some (low v.b.length 4 ++ v.b) else none)
 else if v.letter = 35 then (if r = 35 then some v.x else none)
 else none
theorem byteI {c k : UInt8} : ((c.toNat : Int) = (k.toNat : Int)) ↔ c = k := ⟨fun h => UInt8.toNat_inj.1 (by omega), fun h => by rw [h]⟩
/-- What lay leaves. -/
def LayP (base : Nat) (w : World) (v0 : Value) (m : Nat) (xs : List UInt8) (o : Option (List UInt8)) (e : Ending) (w' : World) : Prop :=
 ∃ v', Mods (ob v0) w w' ∧ match o with
  | some bs => e = .returned (.tuple #[v', .bool true]) ∧ w'.ownsRow base 5 1 v' (m + bs.length) (bV (xs ++ bs)) ∧ Chg (ob v0) w w' (ob v')
  | none => e = .returned (.tuple #[v', .bool false])
theorem LayP.none_of {base : Nat} {w : World} {v0 v' : Value} {m : Nat} {xs : List UInt8} {o : Option (List UInt8)} {e : Ending} {w' : World} (ho : o = none) (he : e = .returned (.tuple #[v', .bool false])) (hm : Mods (ob v0) w w') : LayP base w v0 m xs o e w' := by
 subst ho; exact ⟨v', hm, he⟩
theorem LayP.some_of {base : Nat} {w : World} {v0 v' : Value} {m : Nat} {xs bs : List UInt8} {o : Option (List UInt8)} {e : Ending} {w' : World} (ho : o = some bs) (he : e = .returned (.tuple #[v', .bool true])) (hr : w'.ownsRow base 5 1 v' (m + bs.length) (bV (xs ++ bs))) (hc : Chg (ob v0) w w' (ob v')) : LayP base w v0 m xs o e w' := by
 subst ho; exact ⟨v', hc.1, he, hr, hc⟩
end Go.Proofs.YtgkelbdgdhkeoaaGreat
/- wire.Pack, walked. -/
namespace Go.Proofs.YtgkelbdgdhkeoaaGreat
open Go.RowKit
set_option linter.unusedVariables false
set_option linter.unusedSimpArgs false
open Wire
/-- Values as the program takes them, in a slice. -/
def Anys (w : World) (ao : Option Addr) (n cap : Nat) (vs : List V) : Prop :=
 vs.length = n ∧ n ≤ cap ∧ cap ≤ maxLen ∧ ∀ j v, vs[j]? = some v → ∃ b off x, ao = some ⟨b, off, none⟩ ∧ b < w.heap.size ∧ w.cell? ⟨b, off + j, none⟩ = some x ∧ AnyV w x v
theorem Anys.below {w w' : World} {ao : Option Addr} {n cap : Nat} {vs : List V} (h : Anys w ao n cap vs) (hb : Below w.heap.size w w') : Anys w' ao n cap vs := by
 obtain ⟨h1, h2, h3, h4⟩ := h
 refine ⟨h1, h2, h3, fun j v hj => ?_⟩
 obtain ⟨b, off, x, e, hl, hc, ha⟩ := h4 j v hj
 exact ⟨b, off, x, e, Nat.lt_of_lt_of_le hl hb.size, (hb.cell (p := ⟨b, off + j, none⟩) hl).trans hc, ha.below hb⟩
theorem Anys.head {w : World} {ao : Option Addr} {n cap : Nat} {v : V} {vs : List V} (h : Anys w ao n cap (v :: vs)) : ∃ b off x, ao = some ⟨b, off, none⟩ ∧ b < w.heap.size ∧ w.cell? ⟨b, off, none⟩ = some x ∧ AnyV w x v := by
 obtain ⟨b, off, x, e, hl, hc, ha⟩ := h.2.2.2 0 v rfl
 exact ⟨b, off, x, e, hl, by simpa using hc, ha⟩
theorem Anys.tail {w : World} {ao : Option Addr} {n cap : Nat} {v : V} {vs : List V} (h : Anys w ao (n + 1) cap (v :: vs)) : Anys w (cutA ao cap 1 1) n (cap - 1) vs := by
 obtain ⟨h1, h2, h3, h4⟩ := h
 refine ⟨by simpa using h1, by omega, by omega, fun j u hj => ?_⟩
 obtain ⟨b, off, x, rfl, hl, hc, ha⟩ := h4 (j + 1) u (by simpa using hj)
 have hn : cap ≠ 1 := by
  have hlen : j < vs.length := (List.getElem?_eq_some_iff.1 hj).1
  simp at h1
  omega
 refine ⟨b, off + 1, x, ?_, hl, ?_, ha⟩
 ·unfold cutA
  rw [if_neg hn]
  simp [Addr.add_lit]
 ·rw [← hc]; congr 1; simp only [Addr.mk.injEq, true_and, and_true]; omega
theorem run_cutL {P : Program} (w : World) (t : TypeId) (ao : Option Addr) (n cap size : Nat) (ht : P.underlying t = some (.slice (P.elem t))) (hs : ∀ w, (sizeOf (P.elem t)).run P w = .ok size w) (l : Int) (h0 : 0 ≤ l) (h1 : l ≤ n) :
  (Instr.slice t (.slice ao n cap) (some (.int .i64 l)) none none).run P w = .ok (.slice (cutA ao cap l.toNat size) (n - l.toNat) (cap - l.toNat)) w := by
 rw [run_slice_l w t ao n cap ht .i64 l h0 h1, hs]
 rfl
/-- What Pack leaves. -/
def PackP (w : World) (o : Option (List UInt8)) (e : Ending) (w' : World) : Prop :=
 Below w.heap.size w w' ∧ match o with
  | some bs => ∃ v', e = .returned (.tuple #[v', .int .i64 0]) ∧ w'.ownsRow w.heap.size 5 1 v' bs.length (bV bs)
  | none => e = .returned (.tuple #[.slice none 0 0, .int .i64 2])
theorem PackP.none_of {w w' : World} {o : Option (List UInt8)} {e : Ending} (ho : o = none) (he : e = .returned (.tuple #[.slice none 0 0, .int .i64 2])) (hb : Below w.heap.size w w') : PackP w o e w' := by
 subst ho; exact ⟨hb, he⟩
theorem PackP.some_of {w w' : World} {o : Option (List UInt8)} {bs : List UInt8} {v' : Value} {e : Ending} (ho : o = some bs) (he : e = .returned (.tuple #[v', .int .i64 0])) (hr : w'.ownsRow w.heap.size 5 1 v' bs.length (bV bs)) (hb : Below w.heap.size w w') : PackP w o e w' := by
 subst ho; exact ⟨hb, v', he, hr⟩
end Go.Proofs.YtgkelbdgdhkeoaaGreat
/- wire.lift, walked. -/
namespace Go.Proofs.YtgkelbdgdhkeoaaGreat
open Go.RowKit
set_option linter.unusedVariables false
set_option linter.unusedSimpArgs false
open Wire
/-- A value as the program answers it: its bytes in new memory. -/
def AnyO (base : Nat) (w : World) (u : Value) (v : V) : Prop :=
 (v.letter = 56 ∧ u = .iface 41 (.int .u64 (v.n : Int)) ∧ v.n < 18446744073709551616) ∨
 (v.letter = 63 ∧ u = .iface 4 (.bool v.yes)) ∨
 (v.letter = 42 ∧ ∃ sl, u = .iface 34 sl ∧ w.ownsRow base 5 1 sl v.b.length (bV v.b)) ∨
 (v.letter = 35 ∧ u = .iface 76 (bA v.x) ∧ v.x.length = 256)
theorem AnyO.any {base : Nat} {w : World} {u : Value} {v : V} (h : AnyO base w u v) : AnyV w u v := by
 rcases h with h | h | ⟨h, sl, h1, h2⟩ | h
 ·exact .inl h
 ·exact .inr (.inl h)
 ·exact .inr (.inr (.inl ⟨h, sl, h1, Rd.of_own h2⟩))
 ·exact .inr (.inr (.inr (.inl h)))
theorem AnyO.below {base : Nat} {w w' : World} {u : Value} {v : V} (h : AnyO base w u v) (hb : Below w.heap.size w w') : AnyO base w' u v := by
 rcases h with h | h | ⟨h, sl, h1, h2⟩ | h
 ·exact .inl h
 ·exact .inr (.inl h)
 ·exact .inr (.inr (.inl ⟨h, sl, h1, ownsRow_below h2 hb⟩))
 ·exact .inr (.inr (.inr h))
theorem AnyO.iface {base : Nat} {w : World} {u : Value} {v : V} (h : AnyO base w u v) : ∃ t y, u = .iface t y := by
 rcases h with ⟨_, h, _⟩ | ⟨_, h⟩ | ⟨_, _, h, _⟩ | ⟨_, h, _⟩ <;> exact ⟨_, _, h⟩
/-- What lift leaves. -/
def LiftP (w : World) (o : Option (V × Nat)) (e : Ending) (w' : World) : Prop :=
 Below w.heap.size w w' ∧ match o with
  | some (x, k) => ∃ u, e = .returned (.tuple #[u, .int .i64 (k : Int)]) ∧ AnyO w.heap.size w' u x
  | none => e = .returned (.tuple #[.nilIface, .int .i64 0])
theorem LiftP.none_of {w w' : World} {o : Option (V × Nat)} {e : Ending} (ho : o = none) (he : e = .returned (.tuple #[.nilIface, .int .i64 0])) (hb : Below w.heap.size w w') : LiftP w o e w' := by
 subst ho; exact ⟨hb, he⟩
theorem LiftP.some_of {w w' : World} {o : Option (V × Nat)} {x : V} {k : Nat} {u : Value} {e : Ending} (ho : o = some (x, k)) (he : e = .returned (.tuple #[u, .int .i64 (k : Int)])) (ha : AnyO w.heap.size w' u x) (hb : Below w.heap.size w w') : LiftP w o e w' := by
 subst ho; exact ⟨hb, u, he, ha⟩
theorem run_cutH {P : Program} (w : World) (t : TypeId) (ao : Option Addr) (n cap size : Nat) (ht : P.underlying t = some (.slice (P.elem t))) (hs : ∀ w, (sizeOf (P.elem t)).run P w = .ok size w) (h : Int) (h0 : 0 ≤ h) (h1 : h ≤ cap) :
  (Instr.slice t (.slice ao n cap) none (some (.int .i64 h)) none).run P w = .ok (.slice (cutA ao cap 0 size) h.toNat cap) w := by
 rw [run_slice_h w t ao n cap ht .i64 h h0 h1, hs]
 rfl
theorem szBytes (w : World) : (sizeOf (Tryz.prog.elem 34)).run Tryz.prog w = .ok 1 w := by kernel_rfl
theorem undBytes : Tryz.prog.underlying 34 = some (.slice (Tryz.prog.elem 34)) := by kernel_rfl
/-- The first bytes of a slice. -/
theorem Rd.head {w : World} {n cap : Nat} {ao : Option Addr} {bs : List UInt8} (h : Rd w 1 (.slice ao n cap) n (bV bs)) {k : Nat} (hk : k ≤ n) : Rd w 1 (.slice (cutA ao cap 0 1) k cap) k (bV (bs.take k)) := by
 have := h.cut (Nat.zero_le k) hk
 simpa [bV] using this
theorem Rd.mid {w : World} {n cap : Nat} {ao : Option Addr} {bs : List UInt8} (h : Rd w 1 (.slice ao n cap) n (bV bs)) {l k : Nat} (hl : l ≤ k) (hk : k ≤ n) : Rd w 1 (.slice (cutA ao cap l 1) (k - l) (cap - l)) (k - l) (bV ((bs.drop l).take (k - l))) := by
 have := h.cut hl hk
 simpa [bV] using this
theorem sum_take_lt (bs : List UInt8) (k : Nat) (hk : k ≤ 8) : sum (bs.take k) < 18446744073709551616 := by
 refine Nat.lt_of_lt_of_le (sum_lt _) ?_
 have : 256 ^ (bs.take k).length ≤ 256 ^ 8 := Nat.pow_le_pow_right (by omega) (by rw [List.length_take]; omega)
 exact Nat.le_trans this (by decide)
set_option maxRecDepth 100000 in
set_option maxHeartbeats 3200000 in
theorem lift_num (c : UInt8) (hc : isNum c = true) {w : World} {v : Value} {m : Nat} {bs : List UInt8} (hrd : Rd w 1 v m (bV bs)) (hm : m ≤ 100000000) :
  Calls Tryz.prog 57 #[.int .i32 (c.toNat : Int), v] w (LiftP w (lift c bs)) := by
 obtain ⟨k, hk, hk1, hk8⟩ : ∃ k, widI (c.toNat : Int) = k ∧ 1 ≤ k ∧ k ≤ 8 := by
  refine ⟨_, rfl, ?_⟩
  simp only [isNum, Bool.or_eq_true, beq_iff_eq] at hc
  rcases hc with ((rfl | rfl) | rfl) | rfl <;> decide
 have h63 : c ≠ 63 := by rintro rfl; cases hc
 have h42 : c ≠ 42 := by rintro rfl; cases hc
 have h35 : c ≠ 35 := by rintro rfl; cases hc
 have hlen : bs.length = m := by obtain ⟨_, _, _, hl, _⟩ := hrd; simpa [bV] using hl
 have HSP : Hid (lift c bs = if m < k then none else some (num (sum (bs.take k)), k)) := Lib.hid (by
  unfold lift wid
  rw [hlen, hk, if_neg h63, if_neg h42, if_neg h35])
 have HS := Lib.hid (sum_take_lt bs k hk8)
 have CW := width_any (c.toNat : Int) w (by omega) (by have := c.toNat_lt; omega)
 rw [hk] at CW
 have g63 : ((c.toNat : Int) == 63) = false := by
  rw [beq_eq_false_iff_ne]; intro h; exact h63 (UInt8.toNat_inj.1 (by simp only [UInt8.reduceToNat]; omega))
 have g42 : ((c.toNat : Int) == 42) = false := by
  rw [beq_eq_false_iff_ne]; intro h; exact h42 (UInt8.toNat_inj.1 (by simp only [UInt8.reduceToNat]; omega))
 have g35 : ((c.toNat : Int) == 35) = false := by
  rw [beq_eq_false_iff_ne]; intro h; exact h35 (UInt8.toNat_inj.1 (by simp only [UInt8.reduceToNat]; omega))
 have hcr := c.toNat_lt
 generalize (c.toNat : Int) = r at *
 have HRD := Lib.hid hrd
 obtain ⟨ao, cap, rfl, _, _, ⟨_, hc1, hc2⟩, _⟩ := hrd
 have HCH := Lib.hid (fun hkm : k ≤ m => high_any _ k (bs.take k) w (HRD.out.head hkm) hk8)
 clear hlen hk h63 h42 h35 hc hcr
 by_cases hlt : m < k
 ·have HE : Hid (lift c bs = none) := Lib.hid (by rw [HSP.out, if_pos hlt])
  go_enter Tryz.func57, Tryz.ntmps57
  go_wp2_with fail
  refine CW.mono ?_
  rintro e w1 ⟨rfl, rfl⟩
  go_wp2_with fail
  go_ret2
  exact LiftP.none_of HE.out rfl (Below.refl _ _)
 ·have hcut := fun W => run_cutH (P := Tryz.prog) W 34 ao m cap 1 undBytes szBytes (k : Int) (by omega) (by omega)
  have HE : Hid (lift c bs = some (num (sum (bs.take k)), k)) := Lib.hid (by rw [HSP.out, if_neg hlt])
  have CH := HCH.out (by omega)
  simp only [Int.toNat_natCast] at hcut
  go_enter Tryz.func57, Tryz.ntmps57
  go_wp2_with fail
  refine CW.mono ?_
  rintro e w1 ⟨rfl, rfl⟩
  go_wp2_with fail
  refine CH.mono ?_
  rintro e w2 ⟨rfl, hb⟩
  have HB := Lib.hid hb
  clear hb CH CW
  go_wp2_with fail
  go_ret2
  exact LiftP.some_of HE.out rfl (.inl ⟨rfl, rfl, HS.out⟩) HB.out
set_option maxRecDepth 100000 in
set_option maxHeartbeats 3200000 in
theorem lift_flag {w : World} {v : Value} {m : Nat} {bs : List UInt8} (hrd : Rd w 1 v m (bV bs)) (hm : m ≤ 100000000) :
  Calls Tryz.prog 57 #[.int .i32 63, v] w (LiftP w (lift 63 bs)) := by
 have hlen : bs.length = m := by obtain ⟨_, _, _, hl, _⟩ := hrd; simpa [bV] using hl
 have CW := width_any 63 w (by omega) (by omega)
 rw [show widI 63 = 1 from rfl] at CW
 have HRD := Lib.hid hrd
 obtain ⟨ao, cap, rfl, _, _, ⟨_, hc1, hc2⟩, hcell⟩ := hrd
 cases bs with
 | nil =>
  obtain rfl : m = 0 := by simpa using hlen.symm
  have HE : Hid (lift 63 [] = none) := Lib.hid rfl
  clear hcell hlen
  go_enter Tryz.func57, Tryz.ntmps57
  go_wp2_with fail
  refine CW.mono ?_
  rintro e w1 ⟨rfl, rfl⟩
  go_wp2_with fail
  go_ret2
  exact LiftP.none_of HE.out rfl (Below.refl _ _)
 | cons b0 bs =>
  obtain ⟨b, off, rfl, hbl, hce⟩ := hcell 0 _ (bV_get rfl)
  rw [Nat.add_zero] at hce
  have hm1 : 1 ≤ m := by simp at hlen; omega
  have hb0 := b0.toNat_lt
  have HSP : Hid (lift 63 (b0 :: bs) = if 1 < b0.toNat then none else some (flag (b0 == 1), 1)) := Lib.hid (by
   unfold lift
   rw [if_neg (by rw [show wid 63 = 1 from rfl]; simp), if_pos rfl]
   rfl)
  have HQ : Hid ((b0 == 1) = ((b0.toNat : Int) == 1)) := Lib.hid (by
   rw [Bool.eq_iff_iff, beq_iff_eq, beq_iff_eq]
   constructor
   ·rintro rfl; rfl
   ·intro h; exact UInt8.toNat_inj.1 (by simp only [UInt8.reduceToNat]; omega))
  generalize (b0.toNat) = q at *
  clear hcell hlen
  by_cases hq : 1 < q
  ·have HE : Hid (lift 63 (b0 :: bs) = none) := Lib.hid (by rw [HSP.out, if_pos hq])
   go_enter Tryz.func57, Tryz.ntmps57
   go_wp2_with fail
   refine CW.mono ?_
   rintro e w1 ⟨rfl, rfl⟩
   go_wp2_with fail
   go_ret2
   exact LiftP.none_of HE.out rfl (Below.refl _ _)
  ·have HE : Hid (lift 63 (b0 :: bs) = some (flag (b0 == 1), 1)) := Lib.hid (by rw [HSP.out, if_neg hq])
   go_enter Tryz.func57, Tryz.ntmps57
   go_wp2_with fail
   refine CW.mono ?_
   rintro e w1 ⟨rfl, rfl⟩
   go_wp2_with fail
   go_ret2
   exact LiftP.some_of HE.out rfl (.inr (.inl ⟨rfl, by rw [HQ.out]; rfl⟩)) (Below.refl _ _)
set_option maxRecDepth 100000 in
set_option maxHeartbeats 3200000 in
theorem lift_blob {w : World} {v : Value} {m : Nat} {bs : List UInt8} (hrd : Rd w 1 v m (bV bs)) (hm : m ≤ 100000000) :
  Calls Tryz.prog 57 #[.int .i32 42, v] w (LiftP w (lift 42 bs)) := by
 have hlen : bs.length = m := by obtain ⟨_, _, _, hl, _⟩ := hrd; simpa [bV] using hl
 have CW := width_any 42 w (by omega) (by omega)
 rw [show widI 42 = 4 from rfl] at CW
 have HRD := Lib.hid hrd
 obtain ⟨ao, cap, rfl, _, _, ⟨_, hc1, hc2⟩, _⟩ := hrd
 by_cases hlt : m < 4
 ·have HE : Hid (lift 42 bs = none) := Lib.hid (by unfold lift; rw [if_pos (by rw [hlen]; exact hlt)])
  clear hlen
  go_enter Tryz.func57, Tryz.ntmps57
  go_wp2_with fail
  refine CW.mono ?_
  rintro e w1 ⟨rfl, rfl⟩
  go_wp2_with fail
  go_ret2
  exact LiftP.none_of HE.out rfl (Below.refl _ _)
 ·have HSP : Hid (lift 42 bs = if 16777216 < sum (bs.take 4) ∨ m - 4 < sum (bs.take 4) then none else some (blob ((bs.drop 4).take (sum (bs.take 4))), 4 + sum (bs.take 4))) := Lib.hid (by
   unfold lift
   rw [if_neg (by rw [hlen]; exact hlt), if_neg (by decide), if_pos rfl, hlen])
  have CH := high_any _ 4 (bs.take 4) w (HRD.out.head (by omega)) (by omega)
  have hcut := fun W => run_cutH (P := Tryz.prog) W 34 ao m cap 1 undBytes szBytes (4 : Int) (by omega) (by omega)
  have hs8 := sum_take_lt bs 4 (by omega)
  have HL := Lib.hid hlen
  simp only [Int.reduceToNat] at hcut
  generalize sum (bs.take 4) = s at *
  clear hlen
  by_cases hbig : 16777216 < s
  ·have HE : Hid (lift 42 bs = none) := Lib.hid (by rw [HSP.out, if_pos (.inl hbig)])
   go_enter Tryz.func57, Tryz.ntmps57
   go_wp2_with fail
   refine CW.mono ?_
   rintro e w1 ⟨rfl, rfl⟩
   go_wp2_with fail
   refine CH.mono ?_
   rintro e w2 ⟨rfl, hb⟩
   have HB := Lib.hid hb
   clear hb CH CW
   go_wp2_with fail
   go_ret2
   exact LiftP.none_of HE.out rfl HB.out
  ·by_cases hsh : m - 4 < s
   ·have HE : Hid (lift 42 bs = none) := Lib.hid (by rw [HSP.out, if_pos (.inr hsh)])
    go_enter Tryz.func57, Tryz.ntmps57
    go_wp2_with fail
    refine CW.mono ?_
    rintro e w1 ⟨rfl, rfl⟩
    go_wp2_with fail
    refine CH.mono ?_
    rintro e w2 ⟨rfl, hb⟩
    have HB := Lib.hid hb
    clear hb CH CW
    go_wp2_with fail
    go_ret2
    exact LiftP.none_of HE.out rfl HB.out
   ·have HE : Hid (lift 42 bs = some (blob ((bs.drop 4).take s), 4 + s)) := Lib.hid (by rw [HSP.out, if_neg (by omega)])
    have hcut2 := fun W => run_cut (P := Tryz.prog) W 34 ao m cap 1 undBytes szBytes (4 : Int) (4 + s : Int) (by omega) (by omega) (by omega)
    rw [show ((4 : Int) + (s : Int)).toNat = 4 + s by omega] at hcut2
    simp only [Int.reduceToNat] at hcut2
    have hrm := HRD.out.mid (show 4 ≤ 4 + s by omega) (show 4 + s ≤ m by omega)
    rw [show 4 + s - 4 = s by omega] at hrm
    have HRM := Lib.hid hrm
    have HBL : Hid (((bs.drop 4).take s).length = s) := Lib.hid (by rw [List.length_take, List.length_drop, HL.out]; omega)
    clear hrm
    go_enter Tryz.func57, Tryz.ntmps57
    go_wp2_with fail
    refine CW.mono ?_
    rintro e w1 ⟨rfl, rfl⟩
    go_wp2_with fail
    refine CH.mono ?_
    rintro e w2 ⟨rfl, hb⟩
    have HB := Lib.hid hb
    have hr2 := HRM.out.below hb
    have CC := clone8 _ s _ w2 hr2 (by omega)
    clear hb CH CW hr2
    go_wp2_with fail
    refine CC.mono ?_
    rintro e w3 ⟨v3, rfl, ho3, hb3⟩
    have HO3 := Lib.hid ho3
    have HB3 := Lib.hid hb3
    clear CC ho3 hb3
    go_wp2_with fail
    go_ret2
    refine LiftP.some_of HE.out rfl (.inr (.inr (.inl ⟨rfl, v3, rfl, ?_⟩))) (HB.out.trans (HB3.out.mono HB.out.size))
    have := HO3.out
    have hl : (blob ((bs.drop 4).take s)).b.length = s := HBL.out
    rw [hl]
    exact ownsRow_base this HB.out.size
set_option maxRecDepth 100000 in
set_option maxHeartbeats 3200000 in
theorem lift_blk {w : World} {v : Value} {m : Nat} {bs : List UInt8} (hrd : Rd w 1 v m (bV bs)) (hm : m ≤ 100000000) :
  Calls Tryz.prog 57 #[.int .i32 35, v] w (LiftP w (lift 35 bs)) := by
 have hlen : bs.length = m := by obtain ⟨_, _, _, hl, _⟩ := hrd; simpa [bV] using hl
 have CW := width_any 35 w (by omega) (by omega)
 rw [show widI 35 = 256 from rfl] at CW
 have HRD := Lib.hid hrd
 obtain ⟨ao, cap, rfl, _, _, ⟨_, hc1, hc2⟩, hcell⟩ := hrd
 by_cases hlt : m < 256
 ·have HE : Hid (lift 35 bs = none) := Lib.hid (by unfold lift; rw [if_pos (by rw [hlen]; exact hlt)])
  clear hlen hcell
  go_enter Tryz.func57, Tryz.ntmps57
  go_wp2_with fail
  refine CW.mono ?_
  rintro e w1 ⟨rfl, rfl⟩
  go_wp2_with fail
  go_ret2
  exact LiftP.none_of HE.out rfl (Below.refl _ _)
 ·have HE : Hid (lift 35 bs = some (blk (bs.take 256), 256)) := Lib.hid (by
   unfold lift
   rw [if_neg (by rw [hlen]; exact hlt), if_neg (by decide), if_neg (by decide), if_pos rfl])
  have h256 : (bs.take 256).length = 256 := by rw [List.length_take, hlen]; omega
  have H256 := Lib.hid h256
  obtain ⟨b, off, rfl⟩ : ∃ b off, ao = some ⟨b, off, none⟩ := by
   obtain ⟨b, off, h, _, _⟩ := hcell 0 _ (bV_get (List.getElem?_eq_getElem (by omega)))
   exact ⟨b, off, h⟩
  have hra : w.rangeAt b off (bV (bs.take 256)) := fun j u hj => by
   have hj1 : (bV bs)[j]? = some u := by
    unfold bV at hj ⊢
    rw [List.map_take, List.getElem?_take] at hj
    split at hj
    ·exact hj
    ·cases hj
   obtain ⟨b', off', e, _, hce⟩ := hcell j u hj1
   obtain ⟨rfl, rfl⟩ : b = b' ∧ off = off' := by simpa using e
   exact hce
  have hcut := fun W => run_cutH (P := Tryz.prog) W 34 (some ⟨b, off, none⟩) m cap 1 undBytes szBytes (256 : Int) (by omega) (by omega)
  have hca : cutA (some ⟨b, off, none⟩) cap 0 1 = some ⟨b, off, none⟩ := by
   unfold cutA
   split
   ·rfl
   ·simp [Addr.add_lit]
  rw [hca] at hcut
  simp only [Int.reduceToNat] at hcut
  have hi : (Tryz.prog.info? 76).map (·.size) = some (bV (bs.take 256)).length := by rw [bV_len, h256]; kernel_rfl
  have HIR := Lib.hid (And.intro hra hi)
  have hat := fun W => run_arrayAt (P := Tryz.prog) (w := W) 76 _ 256 (some ⟨b, off, none⟩) 256 cap Tryz.underlying76 (Nat.le_refl _)
  generalize hgl : bV (bs.take 256) = L at *
  clear hlen hcell h256 hra hca hi
  go_enter Tryz.func57, Tryz.ntmps57
  go_wp2_with fail
  refine CW.mono ?_
  rintro e w1 ⟨rfl, rfl⟩
  go_wp2_with fail
  refine wp_load_mid 76 _ rfl b off rfl L _ HIR.out.1 Tryz.underlying76 rfl HIR.out.2 ?_
  generalize hgc : L.toArray = C
  go_wp2_with fail
  go_ret2
  subst hgc
  subst hgl
  exact LiftP.some_of HE.out rfl (.inr (.inr (.inr ⟨rfl, rfl, H256.out⟩))) (Below.refl _ _)
theorem lift_any (c : UInt8) (hc : wid c ≠ 0) {w : World} {v : Value} {m : Nat} {bs : List UInt8} (hrd : Rd w 1 v m (bV bs)) (hm : m ≤ 100000000) :
  Calls Tryz.prog 57 #[.int .i32 (c.toNat : Int), v] w (LiftP w (lift c bs)) := by
 by_cases h1 : isNum c = true
 ·exact lift_num c h1 hrd hm
 by_cases h2 : c = 63
 ·subst h2; exact lift_flag hrd hm
 by_cases h3 : c = 42
 ·subst h3; exact lift_blob hrd hm
 by_cases h4 : c = 35
 ·subst h4; exact lift_blk hrd hm
 exfalso
 apply hc
 simp only [isNum, Bool.or_eq_true, beq_iff_eq, not_or] at h1
 have e : ∀ k : UInt8, c ≠ k → ((c.toNat : Int) ≠ (k.toNat : Int)) := fun k h hh => h (byteI.1 hh)
 have e1 := e 49 h1.1.1.1
 have e2 := e 50 h1.1.1.2
 have e3 := e 52 h1.1.2
 have e4 := e 56 h1.2
 have e5 := e 63 h2
 have e6 := e 42 h3
 have e7 := e 35 h4
 simp only [UInt8.reduceToNat, Int.cast_ofNat_Int] at e1 e2 e3 e4 e5 e6 e7
 unfold wid widI
 simp [e1, e2, e3, e4, e5, e6, e7]
end Go.Proofs.YtgkelbdgdhkeoaaGreat
/- wire.Unpack, walked. -/
namespace Go.Proofs.YtgkelbdgdhkeoaaGreat
open Go.RowKit
set_option linter.unusedVariables false
set_option linter.unusedSimpArgs false
open Wire
theorem infoAny : (Tryz.prog.info? 20).map (fun i => (i.zero, i.size, i.bytes)) = some (some .nilIface, 1, 16) := by kernel_rfl
/-- Values as the program answers them, in a row that is new. -/
def Outs (base : Nat) (w : World) (v : Value) (l : List V) : Prop :=
 ∃ xs, w.ownsRow base 20 1 v l.length xs ∧ ∀ (j : Nat) (x : V), l[j]? = some x → ∃ u, xs[j]? = some u ∧ AnyO base w u x
theorem Outs.nil (base : Nat) (w : World) : Outs base w (.slice none 0 0) [] := ⟨[], World.ownsRow_nil _ _ _ _, fun j x h => by simp at h⟩
theorem Outs.below {base : Nat} {w w' : World} {v : Value} {l : List V} (h : Outs base w v l) (hb : Below w.heap.size w w') : Outs base w' v l := by
 obtain ⟨xs, ho, hx⟩ := h
 refine ⟨xs, ownsRow_below ho hb, fun j x hj => ?_⟩
 obtain ⟨u, h1, h2⟩ := hx j x hj
 exact ⟨u, h1, h2.below hb⟩
/-- An answer's own block. -/
def ib : Value → List Nat
 | .iface _ v => ob v
 | _ => []
/-- The row's block holds none of its values' bytes. -/
def Outs2 (base : Nat) (w : World) (v : Value) (l : List V) : Prop :=
 ∃ xs, w.ownsRow base 20 1 v l.length xs ∧ ∀ (j : Nat) (x : V), l[j]? = some x → ∃ u, xs[j]? = some u ∧ AnyO base w u x ∧ ∀ k ∈ ib u, k ∉ ob v
theorem Outs2.outs {base : Nat} {w : World} {v : Value} {l : List V} (h : Outs2 base w v l) : Outs base w v l := by
 obtain ⟨xs, ho, hx⟩ := h
 refine ⟨xs, ho, fun j x hj => ?_⟩
 obtain ⟨u, h1, h2, _⟩ := hx j x hj
 exact ⟨u, h1, h2⟩
theorem Outs2.nil (base : Nat) (w : World) : Outs2 base w (.slice none 0 0) [] := ⟨[], World.ownsRow_nil _ _ _ _, fun j x h => by simp at h⟩
theorem Outs2.below {base : Nat} {w w' : World} {v : Value} {l : List V} (h : Outs2 base w v l) (hb : Below w.heap.size w w') : Outs2 base w' v l := by
 obtain ⟨xs, ho, hx⟩ := h
 refine ⟨xs, ownsRow_below ho hb, fun j x hj => ?_⟩
 obtain ⟨u, h1, h2, h3⟩ := hx j x hj
 exact ⟨u, h1, h2.below hb, h3⟩
/-- What changes just blocks that are none of the answers'. -/
theorem Outs2.at {base : Nat} {w w' : World} {v : Value} {l : List V} (h : Outs2 base w v l) (hs : ∀ k, base ≤ k → k < w.heap.size → (∃ t c f, w.heap[k]? = some (.cells c t f)) → w'.heap[k]? = w.heap[k]?) : Outs2 base w' v l := by
 have key : ∀ {e : TypeId} {n : Nat} {u : Value} {xs : List Value}, w.ownsRow base e 1 u n xs → w'.ownsRow base e 1 u n xs := by
  intro e n u xs ho
  refine ownsRow_at ho (fun k hk => ?_)
  rcases ho.2 with ⟨rfl, _⟩ | ⟨g, cap, cur, rfl, hg, hh, _⟩
  ·simp [ob_nil] at hk
  ·rw [ob_some] at hk
   obtain rfl : k = g := by simpa using hk
   exact hs k hg (Array.getElem?_eq_some_iff.1 hh).1 ⟨_, _, _, hh⟩
 obtain ⟨xs, ho, hx⟩ := h
 refine ⟨xs, key ho, fun j x hj => ?_⟩
 obtain ⟨u, h1, h2, h3⟩ := hx j x hj
 refine ⟨u, h1, ?_, h3⟩
 rcases h2 with h2 | h2 | ⟨h2, sl, h4, h5⟩ | h2
 ·exact .inl h2
 ·exact .inr (.inl h2)
 ·exact .inr (.inr (.inl ⟨h2, sl, h4, key h5⟩))
 ·exact .inr (.inr (.inr h2))
theorem AnyO.lt {base : Nat} {w : World} {u : Value} {x : V} (h : AnyO base w u x) : ∀ k ∈ ib u, base ≤ k ∧ k < w.heap.size := by
 intro k hk
 rcases h with ⟨_, rfl, _⟩ | ⟨_, rfl⟩ | ⟨_, sl, rfl, h5⟩ | ⟨_, rfl, _⟩
 ·simp [ib, ob, Value.ownBlock] at hk
 ·simp [ib, ob, Value.ownBlock] at hk
 ·exact ⟨ownsRow_ge h5 k hk, ownsRow_lt h5 k hk⟩
 ·simp [ib, ob, bA, Value.ownBlock] at hk
theorem AnyO.base {base base' : Nat} {w : World} {u : Value} {x : V} (h : AnyO base w u x) (hb : base' ≤ base) : AnyO base' w u x := by
 rcases h with h2 | h2 | ⟨h2, sl, h4, h5⟩ | h2
 ·exact .inl h2
 ·exact .inr (.inl h2)
 ·exact .inr (.inr (.inl ⟨h2, sl, h4, ownsRow_base h5 hb⟩))
 ·exact .inr (.inr (.inr h2))
theorem AnyO.at {base : Nat} {w w' : World} {u : Value} {x : V} (h : AnyO base w u x) (hs : ∀ k ∈ ib u, w'.heap[k]? = w.heap[k]?) : AnyO base w' u x := by
 rcases h with h2 | h2 | ⟨h2, sl, h4, h5⟩ | h2
 ·exact .inl h2
 ·exact .inr (.inl h2)
 ·refine .inr (.inr (.inl ⟨h2, sl, h4, ownsRow_at h5 (fun k hk => hs k ?_)⟩))
  rw [h4]
  exact hk
 ·exact .inr (.inr (.inr h2))
/-- A value appended to the row. -/
theorem Outs2.snoc {base : Nat} {w w1 : World} {v v1 u : Value} {l : List V} {x : V} {xs : List Value} (hx : ∀ (j : Nat) (y : V), l[j]? = some y → ∃ z, xs[j]? = some z ∧ AnyO base w z y ∧ ∀ k ∈ ib z, k ∉ ob v)
  (hn : xs.length = l.length) (hu : AnyO base w u x) (hd : ∀ k ∈ ib u, k ∉ ob v) (ho1 : w1.ownsRow base 20 1 v1 (l.length + 1) (xs ++ [u])) (hg : w.grownBy w1 v.ownBlock) (hs : SameOrNew w v v1) : Outs2 base w1 v1 (l ++ [x]) := by
 have key : ∀ {z y}, AnyO base w z y → (∀ k ∈ ib z, k ∉ ob v) → AnyO base w1 z y ∧ ∀ k ∈ ib z, k ∉ ob v1 := by
  intro z y hz hk
  refine ⟨hz.at fun k h => hg.block k (hz.lt k h).2 (fun e => hk k h (by simp [ob, ← e])), fun k h hm => ?_⟩
  rcases (Chg.of_grown hg hs).2 k hm with h1 | h1
  ·exact hk k h h1
  ·have := (hz.lt k h).2; omega
 refine ⟨xs ++ [u], by simpa using ho1, fun j y hj => ?_⟩
 rcases Nat.lt_trichotomy j l.length with h | h | h
 ·rw [List.getElem?_append_left h] at hj
  obtain ⟨z, h1, h2, h3⟩ := hx j y hj
  obtain ⟨k1, k2⟩ := key h2 h3
  exact ⟨z, by rw [List.getElem?_append_left (by omega)]; exact h1, k1, k2⟩
 ·subst h
  rw [List.getElem?_append_right (Nat.le_refl _), Nat.sub_self] at hj
  obtain rfl : x = y := by simpa using hj
  obtain ⟨k1, k2⟩ := key hu hd
  exact ⟨u, by rw [List.getElem?_append_right (by omega), hn, Nat.sub_self]; rfl, k1, k2⟩
 ·rw [List.getElem?_eq_none (by simp; omega)] at hj
  cases hj
/-- What Unpack leaves. -/
def UnpackP (w : World) (y : Bool) (o : Option (List V × Nat)) (e : Ending) (w' : World) : Prop :=
 Below w.heap.size w w' ∧ if y then (match o with
  | some (l, k) => ∃ v', e = .returned (.tuple #[v', .int .i64 (k : Int), .int .i64 0]) ∧ Outs w.heap.size w' v' l
  | none => e = .returned (.tuple #[.slice none 0 0, .int .i64 0, .int .i64 4])) else e = .returned (.tuple #[.slice none 0 0, .int .i64 0, .int .i64 2])
theorem UnpackP.no_of {w w' : World} {y : Bool} {o : Option (List V × Nat)} {e : Ending} (hy : y = false) (he : e = .returned (.tuple #[.slice none 0 0, .int .i64 0, .int .i64 2])) (hb : Below w.heap.size w w') : UnpackP w y o e w' := by
 subst hy; exact ⟨hb, by simpa using he⟩
theorem UnpackP.none_of {w w' : World} {y : Bool} {o : Option (List V × Nat)} {e : Ending} (hy : y = true) (ho : o = none) (he : e = .returned (.tuple #[.slice none 0 0, .int .i64 0, .int .i64 4])) (hb : Below w.heap.size w w') : UnpackP w y o e w' := by
 subst hy; subst ho; exact ⟨hb, by simpa using he⟩
theorem UnpackP.some_of {w w' : World} {y : Bool} {o : Option (List V × Nat)} {l : List V} {k : Nat} {v' : Value} {e : Ending} (hy : y = true) (ho : o = some (l, k)) (he : e = .returned (.tuple #[v', .int .i64 (k : Int), .int .i64 0])) (hr : Outs w.heap.size w' v' l) (hb : Below w.heap.size w w') : UnpackP w y o e w' := by
 subst hy; subst ho; exact ⟨hb, by simpa using ⟨v', he, hr⟩⟩
theorem lift_le {c : UInt8} {b : List UInt8} {x : V} {k : Nat} (h : lift c b = some (x, k)) : k ≤ b.length ∧ k ≤ 16777220 := by
 unfold lift at h
 split at h
 ·cases h
 rename_i h0
 split at h
 ·rename_i hc
  split at h
  ·cases h
  ·obtain ⟨_, rfl⟩ := Prod.mk.inj (Option.some.inj h)
   subst hc
   rw [show wid 63 = 1 from rfl] at h0
   omega
 split at h
 ·rename_i hc
  split at h
  ·cases h
  ·obtain ⟨_, rfl⟩ := Prod.mk.inj (Option.some.inj h)
   subst hc
   rw [show wid 42 = 4 from rfl] at h0
   omega
 split at h
 ·rename_i hc
  obtain ⟨_, rfl⟩ := Prod.mk.inj (Option.some.inj h)
  subst hc
  rw [show wid 35 = 256 from rfl] at h0
  omega
 ·obtain ⟨_, rfl⟩ := Prod.mk.inj (Option.some.inj h)
  have := widI_le (c.toNat : Int)
  unfold wid at h0 ⊢
  omega
set_option maxRecDepth 100000 in
set_option maxHeartbeats 6400000 in
theorem unpack_any (s : ByteArray) {w : World} {v : Value} {m : Nat} {bs : List UInt8} (hrd : Rd w 1 v m (bV bs)) (hm : m ≤ 100000000) (hs : s.size ≤ 1000000) :
  Calls Tryz.prog 36 #[.string s, v] w (UnpackP w (may (chs s)) (unpack (chs s) bs)) := by
 have hlen : bs.length = m := by obtain ⟨_, _, _, hl, _⟩ := hrd; simpa [bV] using hl
 have HLN := Lib.hid hlen
 have HRD := Lib.hid hrd
 have C := may_any s w hs
 obtain ⟨ao, cap, rfl, _, _, ⟨_, hc1, hc2⟩, _⟩ := hrd
 obtain ⟨B, hB⟩ : ∃ B, w.heap.size = B := ⟨_, rfl⟩
 have HB := Lib.hid hB
 clear hlen hB
 cases hy : may (chs s) with
 | false =>
  rw [hy] at C
  have HE := Lib.hid hy
  clear hy
  go_enter Tryz.func36, Tryz.ntmps36
  go_wp2_with fail
  refine C.mono ?_
  rintro e w1 ⟨rfl, hb⟩
  have HB1 := Lib.hid hb
  clear hb C
  go_wp2_with fail
  go_ret3
  exact UnpackP.no_of rfl rfl HB1.out
 | true =>
  rw [hy] at C
  have HY := Lib.hid hy
  clear hy
  go_enter Tryz.func36, Tryz.ntmps36
  go_wp2_with fail
  refine C.mono ?_
  rintro e w1 ⟨rfl, hb⟩
  have HB1 := Lib.hid hb
  clear hb C
  obtain ⟨R, hR⟩ : ∃ R, w1.heap.size = R := ⟨_, rfl⟩
  have HI : Hid ((w1.iter s 0).heap[R]? = some (.stringIter s 0) ∧ Below B w (w1.iter s 0)) := Lib.hid (by
   have h1 := World.iter_heap w1 s 0
   rw [hR] at h1
   have h2 : Below w.heap.size w (w1.iter s 0) := balloc HB1.out _
   rw [HB.out] at h2
   exact ⟨h1, h2⟩)
  go_wp2_with fail
  generalize w1.iter s 0 = w2 at HI ⊢
  have HR := Lib.hid hR
  clear hR
  have HRB : Hid (B ≤ R) := Lib.hid (by rw [← HB.out, ← HR.out]; exact HB1.out.size)
  go_loopg [7, 8] s.size (fun g o a wr => ∃ (pos k : Nat) (v' : Value) (l : List V), pos ≤ s.size ∧ g = s.size - pos ∧ wr.heap[R]? = some (.stringIter s pos) ∧ v' = o ∧ a = .int .i64 (k : Int) ∧ k ≤ m ∧ Outs2 B wr v' l ∧ (∀ j ∈ ob v', j ≠ R) ∧ l.length ≤ pos ∧ may ((chs s).drop pos) = true ∧ Below B w wr ∧
   unpack (chs s) bs = (unpack ((chs s).drop pos) (bs.drop k)).map (fun q => (l ++ q.1, k + q.2)))
  case atStart =>
   refine ⟨0, 0, _, [], by omega, by omega, HI.out.1, rfl, rfl, by omega, Outs2.nil _ _, by simp [ob_nil], by simp, HY.out, HI.out.2, ?_⟩
   simp
  case round =>
   obtain ⟨pos, k, v', l, hp, hg, hh, rfl, rfl, hk, ho, hob, hll, hmy, hb, hun⟩ := hrel
   have HG := Lib.hid hg
   have HU := Lib.hid hun
   have HO := Lib.hid ho
   have HBW := Lib.hid hb
   have HOB := Lib.hid hob
   have HMY := Lib.hid hmy
   have HH := Lib.hid hh
   clear hg hun ho hob hmy
   by_cases hlt : pos < s.size
   ·have hmd := HMY.out
    rw [may_drop hlt, Bool.and_eq_true] at hmd
    have hw : wid (s[pos]'hlt) ≠ 0 := by simpa using hmd.1
    have ha := wid_small hw
    have hnx := fun ty => Lib.run_next_any_at (P := Tryz.prog) wr R s pos ty hh hlt
    rw [decode_ascii s pos hlt ha] at hnx
    have hbi := Lib.below_iterAt hb HRB.out s (pos + 1)
    have HBI := Lib.hid hbi
    have HM2 := Lib.hid hmd.2
    have hcut := fun W => run_cutL (P := Tryz.prog) W 34 ao m cap 1 undBytes szBytes (k : Int) (by omega) (by omega)
    simp only [Int.toNat_natCast] at hcut
    have HSZ := Lib.hid (Lib.iterAt_size wr R s (pos + 1))
    have HHN := Lib.hid (Lib.iterAt_heap wr R s pos (pos + 1) hh)
    have ho1 : Outs2 B (wr.iterAt R s (pos + 1)) v' l := HO.out.at (fun j _ _ ⟨t, c, f, hc⟩ => Lib.iterAt_other _ _ _ _ _ (fun e => by subst e; rw [HH.out] at hc; cases hc))
    have HO1 := Lib.hid ho1
    have hdr : bV (bs.drop k) = bV ((bs.drop k).take (m - k)) := by
     rw [List.take_of_length_le (by rw [List.length_drop, HLN.out]; exact Nat.le_refl _)]
    have hr1 : Rd (wr.iterAt R s (pos + 1)) 1 (.slice (cutA ao cap k 1) (m - k) (cap - k)) (m - k) (bV (bs.drop k)) := by
     rw [hdr]
     exact ((HRD.out.below (by rw [HB.out]; exact HBI.out)).mid hk (Nat.le_refl m))
    have CL := lift_any (s[pos]'hlt) hw hr1 (by omega)
    have HD := Lib.hid (chs_drop hlt)
    have HRL := Lib.hid (Array.getElem?_eq_some_iff.1 hh).1
    clear hmd hw hb hbi ho1 hdr hr1 hh
    generalize hcc : s[pos]'hlt = c at *
    clear hcc
    go_wp2_with fail
    refine CL.mono ?_
    intro e w3 hP
    have HB3 := Lib.hid (hP.1)
    have hbs1 : B ≤ (wr.iterAt R s (pos + 1)).heap.size := by rw [← HB.out]; exact HBI.out.size
    have HBT := Lib.hid (HBI.out.trans (hP.1.mono hbs1))
    have HBS := Lib.hid hbs1
    clear hbs1
    cases hli : lift c (bs.drop k) with
    | none =>
     rw [hli] at hP
     obtain ⟨_, rfl⟩ := hP
     have HE : Hid (unpack (chs s) bs = none) := Lib.hid (by rw [HU.out, HD.out, unpack, hli]; rfl)
     clear hli CL hcut hnx
     go_wp2_with fail
     go_ret3
     exact UnpackP.none_of rfl HE.out rfl (by rw [HB.out]; exact HBT.out)
    | some xq =>
     obtain ⟨x, q⟩ := xq
     rw [hli] at hP
     obtain ⟨_, u, rfl, hau⟩ := hP
     have hq := lift_le hli
     rw [List.length_drop, HLN.out] at hq
     have HNX : Hid (unpack (chs s) bs = (unpack ((chs s).drop (pos + 1)) (bs.drop (k + q))).map (fun z => ((l ++ [x]) ++ z.1, (k + q) + z.2))) := Lib.hid (by
      rw [HU.out, HD.out, unpack, hli]
      simp only [Option.bind_some, Option.map_map, List.drop_drop]
      congr 1
      funext z
      simp [Function.comp, Nat.add_assoc])
     have hau2 := hau.base HBS.out
     have hnb : ∀ j ∈ ib u, j ∉ ob v' := fun j hj hv => by
      have h1 := (hau.lt j hj).1
      obtain ⟨xs0, ho0, _⟩ := HO.out
      have h2 := ownsRow_lt ho0 j hv
      rw [HSZ.out] at h1
      omega
     obtain ⟨xs, hox, hxx⟩ := HO1.out.below HB3.out
     have hxl : xs.length = l.length := by have := hox.1; omega
     obtain ⟨t, y, rfl⟩ := hau2.iface
     have HAU := Lib.hid hau2
     have HNB := Lib.hid hnb
     have HXX := Lib.hid hxx
     have HXL := Lib.hid hxl
     have hbB : B ≤ w3.heap.size := by rw [← HB.out]; exact HBT.out.size
     have HBB := Lib.hid hbB
     have hri : w3.heap[R]? = some (.stringIter s (pos + 1)) := by
      rw [HB3.out.block R (by rw [HSZ.out]; exact HRL.out)]
      exact HHN.out
     have HRI := Lib.hid hri
     have HR3 : Hid (R < w3.heap.size) := Lib.hid (Array.getElem?_eq_some_iff.1 hri).1
     clear hli CL hcut hnx hau hau2 hnb hxx hxl hri
     go_wp2_with (at_builtin; go_must (refine wpList_app rfl _ _ 90 rfl B 20 _ 1 16 Tryz.underlying90 infoAny rfl (by decide) (by decide) _ l.length _ rfl hox rfl rfl (by simp [Value.oneCell']) (by omega) hbB ?_); intro v1 w4 ho4 hb4 hg4 hs4 hn4)
     have HO4 : Hid (Outs2 B w4 v1 (l ++ [x])) := Lib.hid (Outs2.snoc HXX.out HXL.out HAU.out HNB.out ho4 hg4 hs4)
     have HB4 := Lib.hid (HBT.out.trans hb4)
     have HOB4 : Hid (∀ j ∈ ob v1, j ≠ R) := Lib.hid (fun j hj => by
      rcases (Chg.of_grown hg4 hs4).2 j hj with h | h
      ·exact HOB.out j h
      ·have := HR3.out; omega)
     have HI4 : Hid (w4.heap[R]? = some (.stringIter s (pos + 1))) := Lib.hid (by
      rw [hg4.block R HR3.out (fun e => HOB.out R (by unfold ob; rw [Option.mem_toList]; exact e.symm) rfl)]
      exact HRI.out)
     clear ho4 hb4 hg4 hs4 hn4 hox
     go_wp2_with fail
     go_roundg (s.size - (pos + 1))
     case rel =>
      exact ⟨pos + 1, k + q, v1, l ++ [x], by omega, rfl, HI4.out, rfl, by go_num, by omega, HO4.out, HOB4.out, by simp; omega, HM2.out, HB4.out, HNX.out⟩
     case measure => have := HG.out; omega
   ·obtain rfl : pos = s.size := by omega
    have hnx := fun ty => Lib.run_next_end_at (P := Tryz.prog) wr R s s.size ty hh (by omega)
    have hde : (chs s).drop s.size = [] := List.drop_eq_nil_of_le (by rw [chs_len]; exact Nat.le_refl _)
    have HE : Hid (unpack (chs s) bs = some (l, k)) := Lib.hid (by rw [HU.out, hde]; simp [unpack])
    clear hde hb
    go_wp2_with fail
    go_ret3
    exact UnpackP.some_of rfl HE.out rfl (by rw [HB.out]; exact HO.out.outs) (by rw [HB.out]; exact HBW.out)
end Go.Proofs.YtgkelbdgdhkeoaaGreat
/- The law's known, much, num. -/
namespace Go.Proofs.YtgkelbdgdhkeoaaGreat
open Go.RowKit
set_option linter.unusedVariables false
set_option linter.unusedSimpArgs false
open Wire
end Go.Proofs.YtgkelbdgdhkeoaaGreat
/- WireShapes, walked. -/
namespace Go.Proofs.YtgkelbdgdhkeoaaGreat
open Go.RowKit
set_option linter.unusedVariables false
set_option linter.unusedSimpArgs false
open Wire
theorem lift_ge {c : UInt8} {b : List UInt8} {x : V} {k : Nat} (h : lift c b = some (x, k)) : wid c ≤ k := by
 unfold lift at h
 split at h
 ·cases h
 split at h
 ·rename_i hc
  split at h
  ·cases h
  ·obtain ⟨_, rfl⟩ := Prod.mk.inj (Option.some.inj h)
   subst hc
   exact Nat.le_of_eq rfl
 split at h
 ·rename_i hc
  split at h
  ·cases h
  ·obtain ⟨_, rfl⟩ := Prod.mk.inj (Option.some.inj h)
   subst hc
   rw [show wid 42 = 4 from rfl]
   omega
 split at h
 ·rename_i hc
  obtain ⟨_, rfl⟩ := Prod.mk.inj (Option.some.inj h)
  subst hc
  exact Nat.le_of_eq rfl
 ·obtain ⟨_, rfl⟩ := Prod.mk.inj (Option.some.inj h)
  exact Nat.le_refl _
theorem unpack_bounds (s : List UInt8) : ∀ (b : List UInt8) (l : List V) (k : Nat), unpack s b = some (l, k) → sumW s ≤ k ∧ k ≤ b.length := by
 induction s with
 | nil =>
  intro b l k h
  obtain ⟨_, rfl⟩ := Prod.mk.inj (Option.some.inj h)
  exact ⟨by simp [sumW], Nat.zero_le _⟩
 | cons c s ih =>
  intro b l k h
  rw [unpack] at h
  cases hl : lift c b with
  | none => rw [hl] at h; cases h
  | some xq =>
   obtain ⟨x, q⟩ := xq
   rw [hl] at h
   simp only [Option.bind_some] at h
   cases hu : unpack s (b.drop q) with
   | none => rw [hu] at h; cases h
   | some lm =>
    obtain ⟨l2, m2⟩ := lm
    rw [hu] at h
    obtain ⟨_, rfl⟩ := Prod.mk.inj (Option.some.inj h)
    obtain ⟨h1, h2⟩ := ih _ _ _ hu
    have h3 := lift_ge hl
    have h4 := lift_le hl
    rw [List.length_drop] at h2
    rw [sumW_cons]
    omega
end Go.Proofs.YtgkelbdgdhkeoaaGreat
/- The reference's values in memory; the law's told, all, much. -/
namespace Go.Proofs.YtgkelbdgdhkeoaaGreat
open Go.RowKit
set_option linter.unusedVariables false
set_option linter.unusedSimpArgs false
open Wire
/-- A value's cells as the reference keeps it. -/
def rC (v : V) (sl : Value) : List Value := .int .u8 (v.letter.toNat : Int) :: .int .u64 (v.n : Int) :: .bool v.yes :: sl :: bV v.x
theorem rC_len {v : V} {sl : Value} (hx : v.x.length = 256) : (rC v sl).length = 260 := by simp [rC, bV_len, hx]
/-- A value of the reference's, by value. -/
def rA (v : V) (sl : Value) : Value := .agg (rC v sl).toArray
/-- A value as the program takes it, its bytes in new memory; odd: a number that has no type. -/
def AnyT (base : Nat) (w : World) (u : Value) (v : V) : Prop :=
 AnyO base w u v ∨ (v.letter ≠ 56 ∧ v.letter ≠ 63 ∧ v.letter ≠ 42 ∧ v.letter ≠ 35 ∧ ∃ n, u = .iface 3 (.int .i64 n))
theorem AnyT.any {base : Nat} {w : World} {u : Value} {v : V} (h : AnyT base w u v) : AnyV w u v := by
 rcases h with h | h
 ·exact h.any
 ·obtain ⟨h1, h2, h3, h4, n, e⟩ := h
  exact .inr (.inr (.inr (.inr ⟨h1, h2, h3, h4, .inl ⟨n, e⟩⟩)))
theorem AnyT.lt {base : Nat} {w : World} {u : Value} {x : V} (h : AnyT base w u x) : ∀ k ∈ ib u, base ≤ k ∧ k < w.heap.size := by
 rcases h with h | ⟨_, _, _, _, n, rfl⟩
 ·exact h.lt
 ·intro k hk; simp [ib, ob, Value.ownBlock] at hk
theorem AnyT.base {base base' : Nat} {w : World} {u : Value} {x : V} (h : AnyT base w u x) (hb : base' ≤ base) : AnyT base' w u x := by
 rcases h with h | h
 ·exact .inl (h.base hb)
 ·exact .inr h
theorem AnyT.at {base : Nat} {w w' : World} {u : Value} {x : V} (h : AnyT base w u x) (hs : ∀ k ∈ ib u, w'.heap[k]? = w.heap[k]?) : AnyT base w' u x := by
 rcases h with h | h
 ·exact .inl (h.at hs)
 ·exact .inr h
theorem AnyT.below {base : Nat} {w w' : World} {u : Value} {x : V} (h : AnyT base w u x) (hb : Below w.heap.size w w') : AnyT base w' u x :=
 h.at fun k hk => hb.block k (h.lt k hk).2
theorem AnyT.iface {base : Nat} {w : World} {u : Value} {v : V} (h : AnyT base w u v) : ∃ t y, u = .iface t y := by
 rcases h with h | ⟨_, _, _, _, n, rfl⟩
 ·exact h.iface
 ·exact ⟨_, _, rfl⟩
/-- Such values in a row that is new, and whose block holds none of their bytes. -/
def Outs3 (base : Nat) (w : World) (v : Value) (l : List V) : Prop :=
 ∃ xs, w.ownsRow base 20 1 v l.length xs ∧ ∀ (j : Nat) (x : V), l[j]? = some x → ∃ u, xs[j]? = some u ∧ AnyT base w u x ∧ ∀ k ∈ ib u, k ∉ ob v
theorem Outs3.nil (base : Nat) (w : World) : Outs3 base w (.slice none 0 0) [] := ⟨[], World.ownsRow_nil _ _ _ _, fun j x h => by simp at h⟩
theorem Outs3.below {base : Nat} {w w' : World} {v : Value} {l : List V} (h : Outs3 base w v l) (hb : Below w.heap.size w w') : Outs3 base w' v l := by
 obtain ⟨xs, ho, hx⟩ := h
 refine ⟨xs, ownsRow_below ho hb, fun j x hj => ?_⟩
 obtain ⟨u, h1, h2, h3⟩ := hx j x hj
 exact ⟨u, h1, h2.below hb, h3⟩
theorem Outs3.snoc {base : Nat} {w w1 : World} {v v1 u : Value} {l : List V} {x : V} {xs : List Value} (hx : ∀ (j : Nat) (y : V), l[j]? = some y → ∃ z, xs[j]? = some z ∧ AnyT base w z y ∧ ∀ k ∈ ib z, k ∉ ob v)
  (hn : xs.length = l.length) (hu : AnyT base w u x) (hd : ∀ k ∈ ib u, k ∉ ob v) (ho1 : w1.ownsRow base 20 1 v1 (l.length + 1) (xs ++ [u])) (hg : w.grownBy w1 v.ownBlock) (hs : SameOrNew w v v1) : Outs3 base w1 v1 (l ++ [x]) := by
 have key : ∀ {z y}, AnyT base w z y → (∀ k ∈ ib z, k ∉ ob v) → AnyT base w1 z y ∧ ∀ k ∈ ib z, k ∉ ob v1 := by
  intro z y hz hk
  refine ⟨hz.at fun k h => hg.block k (hz.lt k h).2 (fun e => hk k h (by simp [ob, ← e])), fun k h hm => ?_⟩
  rcases (Chg.of_grown hg hs).2 k hm with h1 | h1
  ·exact hk k h h1
  ·have := (hz.lt k h).2; omega
 refine ⟨xs ++ [u], by simpa using ho1, fun j y hj => ?_⟩
 rcases Nat.lt_trichotomy j l.length with h | h | h
 ·rw [List.getElem?_append_left h] at hj
  obtain ⟨z, h1, h2, h3⟩ := hx j y hj
  obtain ⟨k1, k2⟩ := key h2 h3
  exact ⟨z, by rw [List.getElem?_append_left (by omega)]; exact h1, k1, k2⟩
 ·subst h
  rw [List.getElem?_append_right (Nat.le_refl _), Nat.sub_self] at hj
  obtain rfl : x = y := by simpa using hj
  obtain ⟨k1, k2⟩ := key hu hd
  exact ⟨u, by rw [List.getElem?_append_right (by omega), hn, Nat.sub_self]; rfl, k1, k2⟩
 ·rw [List.getElem?_eq_none (by simp; omega)] at hj
  cases hj
theorem Outs3.anys {base : Nat} {w : World} {v : Value} {l : List V} (h : Outs3 base w v l) : ∃ ao cap, v = .slice ao l.length cap ∧ (ao = none → cap = 0) ∧ Anys w ao l.length cap l := by
 obtain ⟨xs, ho, hx⟩ := h
 obtain ⟨ao, cap, rfl, _, _, ⟨hn, h1, h2⟩, hc⟩ := Rd.of_own ho
 refine ⟨ao, cap, rfl, hn, rfl, h1, h2, fun j x hj => ?_⟩
 obtain ⟨u, hu, ha, _⟩ := hx j x hj
 obtain ⟨b, off, e, hb, hce⟩ := hc j u hu
 exact ⟨b, off, u, e, hb, hce, ha.any⟩
/-- A slice of the reference's values reads as l. -/
def RVs (w : World) (ao : Option Addr) (n cap : Nat) (l : List V) : Prop :=
 l.length = n ∧ n ≤ cap ∧ cap ≤ maxLen ∧ (ao = none → cap = 0) ∧ ∀ j x, l[j]? = some x → x.Ok ∧ ∃ b off sl, ao = some ⟨b, off, none⟩ ∧ b < w.heap.size ∧ w.rangeAt b (off + j * 260) (rC x sl) ∧ Rd w 1 sl x.b.length (bV x.b)
theorem rangeAt_below {w w' : World} {b o : Nat} {cs : List Value} (h : w.rangeAt b o cs) (hl : b < w.heap.size) (hb : Below w.heap.size w w') : w'.rangeAt b o cs :=
 fun j u hj => (hb.cell (p := ⟨b, o + j, none⟩) hl).trans (h j u hj)
theorem RVs.below {w w' : World} {ao : Option Addr} {n cap : Nat} {l : List V} (h : RVs w ao n cap l) (hb : Below w.heap.size w w') : RVs w' ao n cap l := by
 obtain ⟨h1, h2, h3, h4, h5⟩ := h
 refine ⟨h1, h2, h3, h4, fun j x hj => ?_⟩
 obtain ⟨ok, b, off, sl, e, hl, hr, hd⟩ := h5 j x hj
 exact ⟨ok, b, off, sl, e, Nat.lt_of_lt_of_le hl hb.size, rangeAt_below hr hl hb, hd.below hb⟩
theorem letter_ne {c k : UInt8} (h : c ≠ k) : ((c.toNat : Int) == (k.toNat : Int)) = false := by
 rw [beq_eq_false_iff_ne]; intro e; exact h (byteI.1 e)
end Go.Proofs.YtgkelbdgdhkeoaaGreat
/- The law's all, is, are. -/
namespace Go.Proofs.YtgkelbdgdhkeoaaGreat
open Go.RowKit
set_option linter.unusedVariables false
set_option linter.unusedSimpArgs false
open Wire
theorem infoRV : (Tryz.prog.info? 110).map (·.size) = some 260 := by kernel_rfl
/-- Two values that are the same by their letter. -/
def SameV (x y : V) : Prop := x.letter = y.letter ∧ (x.letter = 56 ∧ x.n = y.n ∨ x.letter = 63 ∧ x.yes = y.yes ∨ x.letter = 42 ∧ x.b = y.b ∨ x.letter = 35 ∧ x.x = y.x)
end Go.Proofs.YtgkelbdgdhkeoaaGreat
/- What was unpacked is packed as the bytes it took; shapes one behind the other: plain Lean. -/
namespace Go.Proofs.YtgkelbdgdhkeoaaGreat.Wire
set_option linter.unusedVariables false
set_option linter.unusedSimpArgs false
theorem wid_cases {c : UInt8} (hc : wid c ≠ 0) : isNum c = true ∨ c = 63 ∨ c = 42 ∨ c = 35 := by
 by_cases h1 : isNum c = true
 ·exact .inl h1
 by_cases h2 : c = 63
 ·exact .inr (.inl h2)
 by_cases h3 : c = 42
 ·exact .inr (.inr (.inl h3))
 by_cases h4 : c = 35
 ·exact .inr (.inr (.inr h4))
 exfalso
 apply hc
 simp only [isNum, Bool.or_eq_true, beq_iff_eq, not_or] at h1
 have e : ∀ k : UInt8, c ≠ k → ((c.toNat : Int) ≠ (k.toNat : Int)) := fun k h hh => h (byteI.1 hh)
 have e1 := e 49 h1.1.1.1
 have e2 := e 50 h1.1.1.2
 have e3 := e 52 h1.1.2
 have e4 := e 56 h1.2
 have e5 := e 63 h2
 have e6 := e 42 h3
 have e7 := e 35 h4
 simp only [UInt8.reduceToNat, Int.cast_ofNat_Int] at e1 e2 e3 e4 e5 e6 e7
 unfold wid widI
 simp [e1, e2, e3, e4, e5, e6, e7]
theorem low_take (b : List UInt8) (k : Nat) (h : k ≤ b.length) : low (sum (b.take k)) k = b.take k := by
 have e : (b.take k).length = k := by rw [List.length_take]; omega
 have := low_sum (b.take k)
 rwa [e] at this
theorem sum_take_pow (b : List UInt8) (k : Nat) (h : k ≤ b.length) : sum (b.take k) < 256 ^ k := by
 have e : (b.take k).length = k := by rw [List.length_take]; omega
 have := sum_lt (b.take k)
 rwa [e] at this
theorem lay_lift {c : UInt8} (hc : wid c ≠ 0) {b : List UInt8} {x : V} {k : Nat} (h : lift c b = some (x, k)) : lay c x = some (b.take k) := by
 rcases wid_cases hc with h1 | rfl | rfl | rfl
 ·have h63 : c ≠ 63 := by rintro rfl; cases h1
  have h42 : c ≠ 42 := by rintro rfl; cases h1
  have h35 : c ≠ 35 := by rintro rfl; cases h1
  unfold lift at h
  rw [if_neg h63, if_neg h42, if_neg h35] at h
  split at h
  ·cases h
  ·rename_i hl
   obtain ⟨rfl, rfl⟩ := Prod.mk.inj (Option.some.inj h)
   unfold lay num
   rw [if_pos rfl, if_pos ⟨h1, sum_take_pow b _ (by omega)⟩, low_take b _ (by omega)]
 ·unfold lift at h
  rw [if_pos rfl] at h
  split at h
  ·cases h
  ·rename_i hl
   rw [show wid 63 = 1 from rfl] at hl
   split at h
   ·cases h
   ·rename_i hb
    obtain ⟨rfl, rfl⟩ := Prod.mk.inj (Option.some.inj h)
    cases b with
    | nil => simp at hl
    | cons b0 b =>
     simp only [List.headD_cons] at hb ⊢
     have hlay : ∀ y, lay 63 (flag y) = some [if y then 1 else 0] := fun y => rfl
     rw [hlay]
     congr 1
     have hb2 : b0 = 0 ∨ b0 = 1 := by
      have : b0.toNat = 0 ∨ b0.toNat = 1 := by omega
      rcases this with h | h
      ·exact .inl (UInt8.toNat_inj.1 h)
      ·exact .inr (UInt8.toNat_inj.1 h)
     rcases hb2 with rfl | rfl <;> rfl
 ·unfold lift at h
  rw [if_neg (show (42 : UInt8) ≠ 63 by decide), if_pos rfl] at h
  split at h
  ·cases h
  ·rename_i hl
   rw [show wid 42 = 4 from rfl] at hl
   split at h
   ·cases h
   ·rename_i hb
    obtain ⟨rfl, rfl⟩ := Prod.mk.inj (Option.some.inj h)
    have hs4 := low_take b 4 (by omega)
    generalize sum (b.take 4) = s at *
    have hlen : ((b.drop 4).take s).length = s := by rw [List.length_take, List.length_drop]; omega
    have hlay : ∀ l : List UInt8, l.length ≤ 16777216 → lay 42 (blob l) = some (low l.length 4 ++ l) := fun l hh => by
     have e : lay 42 (blob l) = if (42 : UInt8) = 42 ∧ l.length ≤ 16777216 then some (low l.length 4 ++ l) else none := rfl
     rw [e, if_pos ⟨rfl, hh⟩]
    rw [hlay _ (by rw [hlen]; omega), hlen, hs4]
    congr 1
    rw [Nat.add_comm 4 s, Nat.add_comm s 4, List.take_add]
 ·unfold lift at h
  rw [if_neg (show (35 : UInt8) ≠ 63 by decide), if_neg (show (35 : UInt8) ≠ 42 by decide), if_pos rfl] at h
  split at h
  ·cases h
  ·obtain ⟨rfl, rfl⟩ := Prod.mk.inj (Option.some.inj h)
   rfl
theorem pack_unpack (s : List UInt8) : ∀ (b : List UInt8) (l : List V) (k : Nat), may s = true → unpack s b = some (l, k) → pack s l = some (b.take k) := by
 induction s with
 | nil =>
  intro b l k _ h
  obtain ⟨rfl, rfl⟩ := Prod.mk.inj (Option.some.inj h)
  rfl
 | cons c s ih =>
  intro b l k hm h
  rw [may_cons, Bool.and_eq_true] at hm
  have hc : wid c ≠ 0 := by simpa using hm.1
  rw [unpack] at h
  cases hl : lift c b with
  | none => rw [hl] at h; cases h
  | some xq =>
   obtain ⟨x, q⟩ := xq
   rw [hl] at h
   simp only [Option.bind_some] at h
   cases hu : unpack s (b.drop q) with
   | none => rw [hu] at h; cases h
   | some lm =>
    obtain ⟨l2, m2⟩ := lm
    rw [hu] at h
    obtain ⟨rfl, rfl⟩ := Prod.mk.inj (Option.some.inj h)
    rw [pack, lay_lift hc hl, Option.bind_some, ih _ _ _ hm.2 hu, Option.map_some, List.take_add]
theorem lift_blen {c : UInt8} {b : List UInt8} {x : V} {k : Nat} (h : lift c b = some (x, k)) : x.b.length ≤ b.length := by
 unfold lift at h
 split at h
 ·cases h
 split at h
 ·split at h
  ·cases h
  ·obtain ⟨rfl, _⟩ := Prod.mk.inj (Option.some.inj h); exact Nat.zero_le _
 split at h
 ·split at h
  ·cases h
  ·obtain ⟨rfl, _⟩ := Prod.mk.inj (Option.some.inj h)
   simp only [blob, List.length_take, List.length_drop]; omega
 split at h
 ·obtain ⟨rfl, _⟩ := Prod.mk.inj (Option.some.inj h); exact Nat.zero_le _
 ·obtain ⟨rfl, _⟩ := Prod.mk.inj (Option.some.inj h); exact Nat.zero_le _
theorem unpack_blen (s : List UInt8) : ∀ (b : List UInt8) (l : List V) (k : Nat), unpack s b = some (l, k) → (∀ v ∈ l, v.b.length ≤ b.length) ∧ l.length = s.length := by
 induction s with
 | nil =>
  intro b l k h
  obtain ⟨rfl, _⟩ := Prod.mk.inj (Option.some.inj h)
  exact ⟨(fun v hv => by cases hv), rfl⟩
 | cons c s ih =>
  intro b l k h
  rw [unpack] at h
  cases hl : lift c b with
  | none => rw [hl] at h; cases h
  | some xq =>
   obtain ⟨x, q⟩ := xq
   rw [hl] at h
   simp only [Option.bind_some] at h
   cases hu : unpack s (b.drop q) with
   | none => rw [hu] at h; cases h
   | some lm =>
    obtain ⟨l2, m2⟩ := lm
    rw [hu] at h
    obtain ⟨rfl, _⟩ := Prod.mk.inj (Option.some.inj h)
    obtain ⟨h1, h2⟩ := ih _ _ _ hu
    refine ⟨fun v hv => ?_, by simp [h2]⟩
    rcases List.mem_cons.1 hv with rfl | hv
    ·exact lift_blen hl
    ·have := h1 v hv
     rw [List.length_drop] at this
     omega
/-- What Unpack answers: the error's number, how many bytes, the values. -/
def ucode (s b : List UInt8) : Int := if may s then (if (unpack s b).isSome then 0 else 4) else 2
def ulen (s b : List UInt8) : Nat := if may s then (match unpack s b with | some (_, k) => k | none => 0) else 0
def uvals (s b : List UInt8) : List V := if may s then (match unpack s b with | some (l, _) => l | none => []) else []
theorem ucode_of {s b : List UInt8} {l : List V} {k : Nat} (hm : may s = true) (hu : unpack s b = some (l, k)) : ucode s b = 0 ∧ uvals s b = l ∧ ulen s b = k := by
 unfold ucode uvals ulen
 rw [if_pos hm, if_pos hm, if_pos hm, hu]
 exact ⟨rfl, rfl, rfl⟩
theorem ulen_le (s b : List UInt8) : ulen s b ≤ b.length := by
 unfold ulen
 split
 ·split
  ·rename_i hu; exact (unpack_bounds s b _ _ hu).2
  ·exact Nat.zero_le _
 ·exact Nat.zero_le _
end Go.Proofs.YtgkelbdgdhkeoaaGreat.Wire
/- WireJoins, walked. -/
namespace Go.Proofs.YtgkelbdgdhkeoaaGreat
open Go.RowKit
set_option linter.unusedVariables false
set_option linter.unusedSimpArgs false
open Wire
theorem anys_of {w : World} {base : Nat} {v : Value} {l : List V} {xs : List Value} (ho : w.ownsRow base 20 1 v l.length xs) (hx : ∀ (j : Nat) (x : V), l[j]? = some x → ∃ u, xs[j]? = some u ∧ AnyV w u x) :
  ∃ ao cap, v = .slice ao l.length cap ∧ (ao = none → cap = 0) ∧ Anys w ao l.length cap l := by
 obtain ⟨ao, cap, rfl, _, _, ⟨hn, h1, h2⟩, hc⟩ := Rd.of_own ho
 refine ⟨ao, cap, rfl, hn, rfl, h1, h2, fun j x hj => ?_⟩
 obtain ⟨u, hu, ha⟩ := hx j x hj
 obtain ⟨b, off, e, hb, hce⟩ := hc j u hu
 exact ⟨b, off, u, e, hb, hce, ha⟩
theorem Outs.anys {w : World} {base : Nat} {v : Value} {l : List V} (h : Outs base w v l) : ∃ ao cap, v = .slice ao l.length cap ∧ (ao = none → cap = 0) ∧ Anys w ao l.length cap l := by
 obtain ⟨xs, ho, hx⟩ := h
 exact anys_of ho fun j x hj => by
  obtain ⟨u, h1, h2⟩ := hx j x hj
  exact ⟨u, h1, h2.any⟩
end Go.Proofs.YtgkelbdgdhkeoaaGreat
/- What was packed is unpacked as it was; of fewer bytes nothing: plain Lean. -/
namespace Go.Proofs.YtgkelbdgdhkeoaaGreat.Wire
set_option linter.unusedVariables false
set_option linter.unusedSimpArgs false
theorem wid_num {c : UInt8} (h : isNum c = true) : 1 ≤ wid c ∧ wid c ≤ 8 := by
 simp only [isNum, Bool.or_eq_true, beq_iff_eq] at h
 rcases h with ((rfl | rfl) | rfl) | rfl <;> decide
def SameVs (l' l : List V) : Prop := l'.length = l.length ∧ ∀ (j : Nat) (x y : V), l'[j]? = some x → l[j]? = some y → SameV x y
theorem SameVs.cons {x y : V} {l' l : List V} (h : SameV x y) (hs : SameVs l' l) : SameVs (x :: l') (y :: l) := by
 refine ⟨by simp [hs.1], fun j a b ha hb => ?_⟩
 cases j with
 | zero => simp at ha hb; subst ha; subst hb; exact h
 | succ j => exact hs.2 j a b (by simpa using ha) (by simpa using hb)
end Go.Proofs.YtgkelbdgdhkeoaaGreat.Wire
/- The law's are; Pack in one form. -/
namespace Go.Proofs.YtgkelbdgdhkeoaaGreat
open Go.RowKit
set_option linter.unusedVariables false
set_option linter.unusedSimpArgs false
open Wire
def pcode (s : List UInt8) (l : List V) : Int := if (pack s l).isSome then 0 else 2
end Go.Proofs.YtgkelbdgdhkeoaaGreat
