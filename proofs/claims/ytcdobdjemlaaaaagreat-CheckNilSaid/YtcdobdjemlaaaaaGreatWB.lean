/- Several texts in one: Lay Pack Lift Unpack Known1 ShapesL Told All Join0 JoinsL Means0 Are. -/
import Derived.Test.YtcdobdjemlaaaaaGreatWA
import Derived.Deep.DeepCutAuto
namespace Go.Proofs.YtcdobdjemlaaaaaGreat
open Go.RowKit
set_option linter.unusedVariables false
set_option linter.unusedSimpArgs false
open Wire

/-- A value that has none of the four types: a number of another type; none. -/
def OddV (u : Value) : Prop := (∃ n, u = .iface 3 (.int .i64 n)) ∨ u = .nilIface
/-- A value as the program takes it. -/
def AnyV (w : World) (u : Value) (v : V) : Prop :=
  (v.letter = 56 ∧ u = .iface 23 (.int .u64 (v.n : Int)) ∧ v.n < 18446744073709551616) ∨
  (v.letter = 63 ∧ u = .iface 4 (.bool v.yes)) ∨
  (v.letter = 42 ∧ ∃ sl, u = .iface 171 sl ∧ Rd w 1 sl v.b.length (bV v.b)) ∨
  (v.letter = 35 ∧ u = .iface 50 (bA v.x) ∧ v.x.length = 256) ∨
  (v.letter ≠ 56 ∧ v.letter ≠ 63 ∧ v.letter ≠ 42 ∧ v.letter ≠ 35 ∧ OddV u)
theorem AnyV.below {w w' : World} {u : Value} {v : V} (h : AnyV w u v) (hb : Below w.heap.size w w') : AnyV w' u v := by
  rcases h with h | h | ⟨h, sl, h1, h2⟩ | h | h
  · exact .inl h
  · exact .inr (.inl h)
  · exact .inr (.inr (.inl ⟨h, sl, h1, h2.below hb⟩))
  · exact .inr (.inr (.inr (.inl h)))
  · exact .inr (.inr (.inr (.inr h)))

/-- A value's bytes by a rune. -/
def layI (r : Int) (v : V) : Option (List UInt8) :=
  if v.letter = 56 then (if isNumI r = true ∧ v.n < 256 ^ widI r then some (low v.n (widI r)) else none)
  else if v.letter = 63 then (if r = 63 then some [if v.yes then 1 else 0] else none)
  else if v.letter = 42 then (if r = 42 ∧ v.b.length ≤ 16777216 then some (low v.b.length 4 ++ v.b) else none)
  else if v.letter = 35 then (if r = 35 then some v.x else none)
  else none
theorem byteI {c k : UInt8} : ((c.toNat : Int) = (k.toNat : Int)) ↔ c = k := ⟨fun h => UInt8.toNat_inj.1 (by omega), fun h => by rw [h]⟩
theorem isNumI_byte (c : UInt8) : isNumI (c.toNat : Int) = isNum c := by
  have e : ∀ k : UInt8, ((c.toNat : Int) == (k.toNat : Int)) = (c == k) := fun k => by
    rw [Bool.eq_iff_iff, beq_iff_eq, beq_iff_eq]; exact byteI
  have e1 := e 49
  have e2 := e 50
  have e3 := e 52
  have e4 := e 56
  unfold isNumI isNum
  rw [← e1, ← e2, ← e3, ← e4]
  rfl
theorem layI_byte (c : UInt8) (v : V) : layI (c.toNat : Int) v = lay c v := by
  have e : ∀ k : UInt8, ((c.toNat : Int) = (k.toNat : Int)) ↔ c = k := fun k => byteI
  have e1 := e 63
  have e2 := e 42
  have e3 := e 35
  simp only [UInt8.reduceToNat, Int.cast_ofNat_Int] at e1 e2 e3
  unfold layI lay
  rw [isNumI_byte]
  simp only [e1, e2, e3]
  rfl
theorem layI_far {r : Int} (h : 128 ≤ r) (v : V) : layI r v = none := by
  have h1 : isNumI r = false := by simp [isNumI]; omega
  unfold layI
  rw [h1, if_neg (fun hh : _ ∧ _ => by cases hh.1), if_neg (show r ≠ 63 by omega), if_neg (fun hh : r = 42 ∧ _ => by omega), if_neg (show r ≠ 35 by omega)]
  simp

/-- What lay leaves. -/
def LayP (base : Nat) (w : World) (v0 : Value) (m : Nat) (xs : List UInt8) (o : Option (List UInt8)) (e : Ending) (w' : World) : Prop :=
  ∃ v', Mods (ob v0) w w' ∧ match o with
    | some bs => e = .returned (.tuple #[v', .bool true]) ∧ w'.ownsRow base 5 1 v' (m + bs.length) (bV (xs ++ bs)) ∧ Chg (ob v0) w w' (ob v')
    | none => e = .returned (.tuple #[v', .bool false])
theorem LayP.none_of {base : Nat} {w : World} {v0 v' : Value} {m : Nat} {xs : List UInt8} {o : Option (List UInt8)} {e : Ending} {w' : World} (ho : o = none) (he : e = .returned (.tuple #[v', .bool false])) (hm : Mods (ob v0) w w') : LayP base w v0 m xs o e w' := by
  subst ho; exact ⟨v', hm, he⟩
theorem LayP.some_of {base : Nat} {w : World} {v0 v' : Value} {m : Nat} {xs bs : List UInt8} {o : Option (List UInt8)} {e : Ending} {w' : World} (ho : o = some bs) (he : e = .returned (.tuple #[v', .bool true])) (hr : w'.ownsRow base 5 1 v' (m + bs.length) (bV (xs ++ bs))) (hc : Chg (ob v0) w w' (ob v')) : LayP base w v0 m xs o e w' := by
  subst ho; exact ⟨v', hc.1, he, hr, hc⟩

end Go.Proofs.YtcdobdjemlaaaaaGreat
/- wire.Pack, walked. -/
namespace Go.Proofs.YtcdobdjemlaaaaaGreat
open Go.RowKit
set_option linter.unusedVariables false
set_option linter.unusedSimpArgs false
open Wire

/-- Values as the program takes them, in a slice. -/
def Anys (w : World) (ao : Option Addr) (n cap : Nat) (vs : List V) : Prop :=
  vs.length = n ∧ n ≤ cap ∧ cap ≤ maxLen ∧ ∀ j v, vs[j]? = some v → ∃ b off x, ao = some ⟨b, off, none⟩ ∧ b < w.heap.size ∧ w.cell? ⟨b, off + j, none⟩ = some x ∧ AnyV w x v
theorem Anys.below {w w' : World} {ao : Option Addr} {n cap : Nat} {vs : List V} (h : Anys w ao n cap vs) (hb : Below w.heap.size w w') : Anys w' ao n cap vs := by
  obtain ⟨h1, h2, h3, h4⟩ := h
  refine ⟨h1, h2, h3, fun j v hj => ?_⟩
  obtain ⟨b, off, x, e, hl, hc, ha⟩ := h4 j v hj
  exact ⟨b, off, x, e, Nat.lt_of_lt_of_le hl hb.size, (hb.cell (p := ⟨b, off + j, none⟩) hl).trans hc, ha.below hb⟩
theorem Anys.head {w : World} {ao : Option Addr} {n cap : Nat} {v : V} {vs : List V} (h : Anys w ao n cap (v :: vs)) : ∃ b off x, ao = some ⟨b, off, none⟩ ∧ b < w.heap.size ∧ w.cell? ⟨b, off, none⟩ = some x ∧ AnyV w x v := by
  obtain ⟨b, off, x, e, hl, hc, ha⟩ := h.2.2.2 0 v rfl
  exact ⟨b, off, x, e, hl, by simpa using hc, ha⟩
theorem Anys.tail {w : World} {ao : Option Addr} {n cap : Nat} {v : V} {vs : List V} (h : Anys w ao (n + 1) cap (v :: vs)) : Anys w (cutA ao cap 1 1) n (cap - 1) vs := by
  obtain ⟨h1, h2, h3, h4⟩ := h
  refine ⟨by simpa using h1, by omega, by omega, fun j u hj => ?_⟩
  obtain ⟨b, off, x, rfl, hl, hc, ha⟩ := h4 (j + 1) u (by simpa using hj)
  have hn : cap ≠ 1 := by
    have hlen : j < vs.length := (List.getElem?_eq_some_iff.1 hj).1
    simp at h1
    omega
  refine ⟨b, off + 1, x, ?_, hl, ?_, ha⟩
  · unfold cutA
    rw [if_neg hn]
    simp [Addr.add_lit]
  · rw [← hc]; congr 1; simp only [Addr.mk.injEq, true_and, and_true]; omega

theorem lay_len {c : UInt8} {v : V} {bs : List UInt8} (h : lay c v = some bs) (hx : v.letter = 35 → v.x.length = 256) : bs.length ≤ 260 + v.b.length := by
  unfold lay at h
  split at h
  · split at h
    · obtain rfl := Option.some.inj h
      rw [low_len]
      have := widI_le (c.toNat : Int)
      unfold wid; omega
    · cases h
  split at h
  · split at h
    · obtain rfl := Option.some.inj h; simp; omega
    · cases h
  split at h
  · split at h
    · obtain rfl := Option.some.inj h; simp [low_len]; try omega
    · cases h
  split at h
  · split at h
    · obtain rfl := Option.some.inj h; have := hx (by assumption); omega
    · cases h
  · cases h

theorem run_cutL {P : Program} (w : World) (t : TypeId) (ao : Option Addr) (n cap size : Nat) (ht : P.underlying t = some (.slice (P.elem t))) (hs : ∀ w, (sizeOf (P.elem t)).run P w = .ok size w) (l : Int) (h0 : 0 ≤ l) (h1 : l ≤ n) :
    (Instr.slice t (.slice ao n cap) (some (.int .i64 l)) none none).run P w = .ok (.slice (cutA ao cap l.toNat size) (n - l.toNat) (cap - l.toNat)) w := by
  rw [run_slice_l w t ao n cap ht .i64 l h0 h1, hs]
  rfl

/-- What Pack leaves. -/
def PackP (w : World) (o : Option (List UInt8)) (e : Ending) (w' : World) : Prop :=
  Below w.heap.size w w' ∧ match o with
    | some bs => ∃ v', e = .returned (.tuple #[v', .int .i64 0]) ∧ w'.ownsRow w.heap.size 5 1 v' bs.length (bV bs)
    | none => e = .returned (.tuple #[.slice none 0 0, .int .i64 2])
theorem PackP.none_of {w w' : World} {o : Option (List UInt8)} {e : Ending} (ho : o = none) (he : e = .returned (.tuple #[.slice none 0 0, .int .i64 2])) (hb : Below w.heap.size w w') : PackP w o e w' := by
  subst ho; exact ⟨hb, he⟩
theorem PackP.some_of {w w' : World} {o : Option (List UInt8)} {bs : List UInt8} {v' : Value} {e : Ending} (ho : o = some bs) (he : e = .returned (.tuple #[v', .int .i64 0])) (hr : w'.ownsRow w.heap.size 5 1 v' bs.length (bV bs)) (hb : Below w.heap.size w w') : PackP w o e w' := by
  subst ho; exact ⟨hb, v', he, hr⟩
theorem pack_left (s : List UInt8) : pack s [] = if s = [] then some [] else none := by cases s <;> simp [pack]

end Go.Proofs.YtcdobdjemlaaaaaGreat
/- wire.lift, walked. -/
namespace Go.Proofs.YtcdobdjemlaaaaaGreat
open Go.RowKit
set_option linter.unusedVariables false
set_option linter.unusedSimpArgs false
open Wire

/-- A value as the program answers it: its bytes in new memory. -/
def AnyO (base : Nat) (w : World) (u : Value) (v : V) : Prop :=
  (v.letter = 56 ∧ u = .iface 23 (.int .u64 (v.n : Int)) ∧ v.n < 18446744073709551616) ∨
  (v.letter = 63 ∧ u = .iface 4 (.bool v.yes)) ∨
  (v.letter = 42 ∧ ∃ sl, u = .iface 171 sl ∧ w.ownsRow base 5 1 sl v.b.length (bV v.b)) ∨
  (v.letter = 35 ∧ u = .iface 50 (bA v.x) ∧ v.x.length = 256)
theorem AnyO.any {base : Nat} {w : World} {u : Value} {v : V} (h : AnyO base w u v) : AnyV w u v := by
  rcases h with h | h | ⟨h, sl, h1, h2⟩ | h
  · exact .inl h
  · exact .inr (.inl h)
  · exact .inr (.inr (.inl ⟨h, sl, h1, Rd.of_own h2⟩))
  · exact .inr (.inr (.inr (.inl h)))
theorem AnyO.below {base : Nat} {w w' : World} {u : Value} {v : V} (h : AnyO base w u v) (hb : Below w.heap.size w w') : AnyO base w' u v := by
  rcases h with h | h | ⟨h, sl, h1, h2⟩ | h
  · exact .inl h
  · exact .inr (.inl h)
  · exact .inr (.inr (.inl ⟨h, sl, h1, ownsRow_below h2 hb⟩))
  · exact .inr (.inr (.inr h))
theorem AnyO.iface {base : Nat} {w : World} {u : Value} {v : V} (h : AnyO base w u v) : ∃ t y, u = .iface t y := by
  rcases h with ⟨_, h, _⟩ | ⟨_, h⟩ | ⟨_, _, h, _⟩ | ⟨_, h, _⟩ <;> exact ⟨_, _, h⟩

/-- What lift leaves. -/
def LiftP (w : World) (o : Option (V × Nat)) (e : Ending) (w' : World) : Prop :=
  Below w.heap.size w w' ∧ match o with
    | some (x, k) => ∃ u, e = .returned (.tuple #[u, .int .i64 (k : Int)]) ∧ AnyO w.heap.size w' u x
    | none => e = .returned (.tuple #[.nilIface, .int .i64 0])
theorem LiftP.none_of {w w' : World} {o : Option (V × Nat)} {e : Ending} (ho : o = none) (he : e = .returned (.tuple #[.nilIface, .int .i64 0])) (hb : Below w.heap.size w w') : LiftP w o e w' := by
  subst ho; exact ⟨hb, he⟩
theorem LiftP.some_of {w w' : World} {o : Option (V × Nat)} {x : V} {k : Nat} {u : Value} {e : Ending} (ho : o = some (x, k)) (he : e = .returned (.tuple #[u, .int .i64 (k : Int)])) (ha : AnyO w.heap.size w' u x) (hb : Below w.heap.size w w') : LiftP w o e w' := by
  subst ho; exact ⟨hb, u, he, ha⟩

theorem run_cutH {P : Program} (w : World) (t : TypeId) (ao : Option Addr) (n cap size : Nat) (ht : P.underlying t = some (.slice (P.elem t))) (hs : ∀ w, (sizeOf (P.elem t)).run P w = .ok size w) (h : Int) (h0 : 0 ≤ h) (h1 : h ≤ cap) :
    (Instr.slice t (.slice ao n cap) none (some (.int .i64 h)) none).run P w = .ok (.slice (cutA ao cap 0 size) h.toNat cap) w := by
  rw [run_slice_h w t ao n cap ht .i64 h h0 h1, hs]
  rfl
theorem szBytes (w : World) : (sizeOf (Tryz.prog.elem 171)).run Tryz.prog w = .ok 1 w := by kernel_rfl
theorem undBytes : Tryz.prog.underlying 171 = some (.slice (Tryz.prog.elem 171)) := by kernel_rfl

/-- The first bytes of a slice. -/
theorem Rd.head {w : World} {n cap : Nat} {ao : Option Addr} {bs : List UInt8} (h : Rd w 1 (.slice ao n cap) n (bV bs)) {k : Nat} (hk : k ≤ n) : Rd w 1 (.slice (cutA ao cap 0 1) k cap) k (bV (bs.take k)) := by
  have := h.cut (Nat.zero_le k) hk
  simpa [bV] using this
theorem Rd.mid {w : World} {n cap : Nat} {ao : Option Addr} {bs : List UInt8} (h : Rd w 1 (.slice ao n cap) n (bV bs)) {l k : Nat} (hl : l ≤ k) (hk : k ≤ n) : Rd w 1 (.slice (cutA ao cap l 1) (k - l) (cap - l)) (k - l) (bV ((bs.drop l).take (k - l))) := by
  have := h.cut hl hk
  simpa [bV] using this
theorem sum_take_lt (bs : List UInt8) (k : Nat) (hk : k ≤ 8) : sum (bs.take k) < 18446744073709551616 := by
  refine Nat.lt_of_lt_of_le (sum_lt _) ?_
  have : 256 ^ (bs.take k).length ≤ 256 ^ 8 := Nat.pow_le_pow_right (by omega) (by rw [List.length_take]; omega)
  exact Nat.le_trans this (by decide)

end Go.Proofs.YtcdobdjemlaaaaaGreat
/- wire.Unpack, walked. -/
namespace Go.Proofs.YtcdobdjemlaaaaaGreat
open Go.RowKit
set_option linter.unusedVariables false
set_option linter.unusedSimpArgs false
open Wire

theorem infoAny : (Tryz.prog.info? 20).map (fun i => (i.zero, i.size, i.bytes)) = some (some .nilIface, 1, 16) := by kernel_rfl

/-- Values as the program answers them, in a row that is new. -/
def Outs (base : Nat) (w : World) (v : Value) (l : List V) : Prop :=
  ∃ xs, w.ownsRow base 20 1 v l.length xs ∧ ∀ (j : Nat) (x : V), l[j]? = some x → ∃ u, xs[j]? = some u ∧ AnyO base w u x
theorem Outs.nil (base : Nat) (w : World) : Outs base w (.slice none 0 0) [] := ⟨[], World.ownsRow_nil _ _ _ _, fun j x h => by simp at h⟩
theorem Outs.below {base : Nat} {w w' : World} {v : Value} {l : List V} (h : Outs base w v l) (hb : Below w.heap.size w w') : Outs base w' v l := by
  obtain ⟨xs, ho, hx⟩ := h
  refine ⟨xs, ownsRow_below ho hb, fun j x hj => ?_⟩
  obtain ⟨u, h1, h2⟩ := hx j x hj
  exact ⟨u, h1, h2.below hb⟩
/-- An answer's own block. -/
def ib : Value → List Nat
  | .iface _ v => ob v
  | _ => []
/-- The row's block holds none of its values' bytes. -/
def Outs2 (base : Nat) (w : World) (v : Value) (l : List V) : Prop :=
  ∃ xs, w.ownsRow base 20 1 v l.length xs ∧ ∀ (j : Nat) (x : V), l[j]? = some x → ∃ u, xs[j]? = some u ∧ AnyO base w u x ∧ ∀ k ∈ ib u, k ∉ ob v
theorem Outs2.outs {base : Nat} {w : World} {v : Value} {l : List V} (h : Outs2 base w v l) : Outs base w v l := by
  obtain ⟨xs, ho, hx⟩ := h
  refine ⟨xs, ho, fun j x hj => ?_⟩
  obtain ⟨u, h1, h2, _⟩ := hx j x hj
  exact ⟨u, h1, h2⟩
theorem Outs2.nil (base : Nat) (w : World) : Outs2 base w (.slice none 0 0) [] := ⟨[], World.ownsRow_nil _ _ _ _, fun j x h => by simp at h⟩
theorem Outs2.below {base : Nat} {w w' : World} {v : Value} {l : List V} (h : Outs2 base w v l) (hb : Below w.heap.size w w') : Outs2 base w' v l := by
  obtain ⟨xs, ho, hx⟩ := h
  refine ⟨xs, ownsRow_below ho hb, fun j x hj => ?_⟩
  obtain ⟨u, h1, h2, h3⟩ := hx j x hj
  exact ⟨u, h1, h2.below hb, h3⟩
/-- What changes just blocks that are none of the answers'. -/
theorem Outs2.at {base : Nat} {w w' : World} {v : Value} {l : List V} (h : Outs2 base w v l) (hs : ∀ k, base ≤ k → k < w.heap.size → (∃ t c f, w.heap[k]? = some (.cells c t f)) → w'.heap[k]? = w.heap[k]?) : Outs2 base w' v l := by
  have key : ∀ {e : TypeId} {n : Nat} {u : Value} {xs : List Value}, w.ownsRow base e 1 u n xs → w'.ownsRow base e 1 u n xs := by
    intro e n u xs ho
    refine ownsRow_at ho (fun k hk => ?_)
    rcases ho.2 with ⟨rfl, _⟩ | ⟨g, cap, cur, rfl, hg, hh, _⟩
    · simp [ob_nil] at hk
    · rw [ob_some] at hk
      obtain rfl : k = g := by simpa using hk
      exact hs k hg (Array.getElem?_eq_some_iff.1 hh).1 ⟨_, _, _, hh⟩
  obtain ⟨xs, ho, hx⟩ := h
  refine ⟨xs, key ho, fun j x hj => ?_⟩
  obtain ⟨u, h1, h2, h3⟩ := hx j x hj
  refine ⟨u, h1, ?_, h3⟩
  rcases h2 with h2 | h2 | ⟨h2, sl, h4, h5⟩ | h2
  · exact .inl h2
  · exact .inr (.inl h2)
  · exact .inr (.inr (.inl ⟨h2, sl, h4, key h5⟩))
  · exact .inr (.inr (.inr h2))

theorem AnyO.lt {base : Nat} {w : World} {u : Value} {x : V} (h : AnyO base w u x) : ∀ k ∈ ib u, base ≤ k ∧ k < w.heap.size := by
  intro k hk
  rcases h with ⟨_, rfl, _⟩ | ⟨_, rfl⟩ | ⟨_, sl, rfl, h5⟩ | ⟨_, rfl, _⟩
  · simp [ib, ob, Value.ownBlock] at hk
  · simp [ib, ob, Value.ownBlock] at hk
  · exact ⟨ownsRow_ge h5 k hk, ownsRow_lt h5 k hk⟩
  · simp [ib, ob, bA, Value.ownBlock] at hk
theorem AnyO.base {base base' : Nat} {w : World} {u : Value} {x : V} (h : AnyO base w u x) (hb : base' ≤ base) : AnyO base' w u x := by
  rcases h with h2 | h2 | ⟨h2, sl, h4, h5⟩ | h2
  · exact .inl h2
  · exact .inr (.inl h2)
  · exact .inr (.inr (.inl ⟨h2, sl, h4, ownsRow_base h5 hb⟩))
  · exact .inr (.inr (.inr h2))
theorem AnyO.at {base : Nat} {w w' : World} {u : Value} {x : V} (h : AnyO base w u x) (hs : ∀ k ∈ ib u, w'.heap[k]? = w.heap[k]?) : AnyO base w' u x := by
  rcases h with h2 | h2 | ⟨h2, sl, h4, h5⟩ | h2
  · exact .inl h2
  · exact .inr (.inl h2)
  · refine .inr (.inr (.inl ⟨h2, sl, h4, ownsRow_at h5 (fun k hk => hs k ?_)⟩))
    rw [h4]
    exact hk
  · exact .inr (.inr (.inr h2))

/-- A value appended to the row. -/
theorem Outs2.snoc {base : Nat} {w w1 : World} {v v1 u : Value} {l : List V} {x : V} {xs : List Value} (hx : ∀ (j : Nat) (y : V), l[j]? = some y → ∃ z, xs[j]? = some z ∧ AnyO base w z y ∧ ∀ k ∈ ib z, k ∉ ob v)
    (hn : xs.length = l.length) (hu : AnyO base w u x) (hd : ∀ k ∈ ib u, k ∉ ob v) (ho1 : w1.ownsRow base 20 1 v1 (l.length + 1) (xs ++ [u])) (hg : w.grownBy w1 v.ownBlock) (hs : SameOrNew w v v1) : Outs2 base w1 v1 (l ++ [x]) := by
  have key : ∀ {z y}, AnyO base w z y → (∀ k ∈ ib z, k ∉ ob v) → AnyO base w1 z y ∧ ∀ k ∈ ib z, k ∉ ob v1 := by
    intro z y hz hk
    refine ⟨hz.at fun k h => hg.block k (hz.lt k h).2 (fun e => hk k h (by simp [ob, ← e])), fun k h hm => ?_⟩
    rcases (Chg.of_grown hg hs).2 k hm with h1 | h1
    · exact hk k h h1
    · have := (hz.lt k h).2; omega
  refine ⟨xs ++ [u], by simpa using ho1, fun j y hj => ?_⟩
  rcases Nat.lt_trichotomy j l.length with h | h | h
  · rw [List.getElem?_append_left h] at hj
    obtain ⟨z, h1, h2, h3⟩ := hx j y hj
    obtain ⟨k1, k2⟩ := key h2 h3
    exact ⟨z, by rw [List.getElem?_append_left (by omega)]; exact h1, k1, k2⟩
  · subst h
    rw [List.getElem?_append_right (Nat.le_refl _), Nat.sub_self] at hj
    obtain rfl : x = y := by simpa using hj
    obtain ⟨k1, k2⟩ := key hu hd
    exact ⟨u, by rw [List.getElem?_append_right (by omega), hn, Nat.sub_self]; rfl, k1, k2⟩
  · rw [List.getElem?_eq_none (by simp; omega)] at hj
    cases hj

/-- What Unpack leaves. -/
def UnpackP (w : World) (y : Bool) (o : Option (List V × Nat)) (e : Ending) (w' : World) : Prop :=
  Below w.heap.size w w' ∧ if y then (match o with
    | some (l, k) => ∃ v', e = .returned (.tuple #[v', .int .i64 (k : Int), .int .i64 0]) ∧ Outs w.heap.size w' v' l
    | none => e = .returned (.tuple #[.slice none 0 0, .int .i64 0, .int .i64 4])) else e = .returned (.tuple #[.slice none 0 0, .int .i64 0, .int .i64 2])
theorem UnpackP.no_of {w w' : World} {y : Bool} {o : Option (List V × Nat)} {e : Ending} (hy : y = false) (he : e = .returned (.tuple #[.slice none 0 0, .int .i64 0, .int .i64 2])) (hb : Below w.heap.size w w') : UnpackP w y o e w' := by
  subst hy; exact ⟨hb, by simpa using he⟩
theorem UnpackP.none_of {w w' : World} {y : Bool} {o : Option (List V × Nat)} {e : Ending} (hy : y = true) (ho : o = none) (he : e = .returned (.tuple #[.slice none 0 0, .int .i64 0, .int .i64 4])) (hb : Below w.heap.size w w') : UnpackP w y o e w' := by
  subst hy; subst ho; exact ⟨hb, by simpa using he⟩
theorem UnpackP.some_of {w w' : World} {y : Bool} {o : Option (List V × Nat)} {l : List V} {k : Nat} {v' : Value} {e : Ending} (hy : y = true) (ho : o = some (l, k)) (he : e = .returned (.tuple #[v', .int .i64 (k : Int), .int .i64 0])) (hr : Outs w.heap.size w' v' l) (hb : Below w.heap.size w w') : UnpackP w y o e w' := by
  subst hy; subst ho; exact ⟨hb, by simpa using ⟨v', he, hr⟩⟩

theorem lift_le {c : UInt8} {b : List UInt8} {x : V} {k : Nat} (h : lift c b = some (x, k)) : k ≤ b.length ∧ k ≤ 16777220 := by
  unfold lift at h
  split at h
  · cases h
  rename_i h0
  split at h
  · rename_i hc
    split at h
    · cases h
    · obtain ⟨_, rfl⟩ := Prod.mk.inj (Option.some.inj h)
      subst hc
      rw [show wid 63 = 1 from rfl] at h0
      omega
  split at h
  · rename_i hc
    split at h
    · cases h
    · obtain ⟨_, rfl⟩ := Prod.mk.inj (Option.some.inj h)
      subst hc
      rw [show wid 42 = 4 from rfl] at h0
      omega
  split at h
  · rename_i hc
    obtain ⟨_, rfl⟩ := Prod.mk.inj (Option.some.inj h)
    subst hc
    rw [show wid 35 = 256 from rfl] at h0
    omega
  · obtain ⟨_, rfl⟩ := Prod.mk.inj (Option.some.inj h)
    have := widI_le (c.toNat : Int)
    unfold wid at h0 ⊢
    omega

end Go.Proofs.YtcdobdjemlaaaaaGreat
/- The law's known, much, num. -/
namespace Go.Proofs.YtcdobdjemlaaaaaGreat
open Go.RowKit
set_option linter.unusedVariables false
set_option linter.unusedSimpArgs false
open Wire

theorem pack_known : pack (chs ⟨#[52, 63, 42]⟩) [num 258, flag true, blob [7]] = some [2, 1, 0, 0, 1, 1, 0, 0, 0, 7] := by kernel_rfl
theorem unpack_known : unpack (chs ⟨#[50]⟩) [3, 1, 9] = some ([num 259], 2) := by kernel_rfl
theorem may_known : may (chs ⟨#[50]⟩) = true := by kernel_rfl

end Go.Proofs.YtcdobdjemlaaaaaGreat
/- WireShapes, walked. -/
namespace Go.Proofs.YtcdobdjemlaaaaaGreat
open Go.RowKit
set_option linter.unusedVariables false
set_option linter.unusedSimpArgs false
open Wire

theorem lift_ge {c : UInt8} {b : List UInt8} {x : V} {k : Nat} (h : lift c b = some (x, k)) : wid c ≤ k := by
  unfold lift at h
  split at h
  · cases h
  split at h
  · rename_i hc
    split at h
    · cases h
    · obtain ⟨_, rfl⟩ := Prod.mk.inj (Option.some.inj h)
      subst hc
      exact Nat.le_of_eq rfl
  split at h
  · rename_i hc
    split at h
    · cases h
    · obtain ⟨_, rfl⟩ := Prod.mk.inj (Option.some.inj h)
      subst hc
      rw [show wid 42 = 4 from rfl]
      omega
  split at h
  · rename_i hc
    obtain ⟨_, rfl⟩ := Prod.mk.inj (Option.some.inj h)
    subst hc
    exact Nat.le_of_eq rfl
  · obtain ⟨_, rfl⟩ := Prod.mk.inj (Option.some.inj h)
    exact Nat.le_refl _
theorem unpack_bounds (s : List UInt8) : ∀ (b : List UInt8) (l : List V) (k : Nat), unpack s b = some (l, k) → sumW s ≤ k ∧ k ≤ b.length := by
  induction s with
  | nil =>
    intro b l k h
    obtain ⟨_, rfl⟩ := Prod.mk.inj (Option.some.inj h)
    exact ⟨by simp [sumW], Nat.zero_le _⟩
  | cons c s ih =>
    intro b l k h
    rw [unpack] at h
    cases hl : lift c b with
    | none => rw [hl] at h; cases h
    | some xq =>
      obtain ⟨x, q⟩ := xq
      rw [hl] at h
      simp only [Option.bind_some] at h
      cases hu : unpack s (b.drop q) with
      | none => rw [hu] at h; cases h
      | some lm =>
        obtain ⟨l2, m2⟩ := lm
        rw [hu] at h
        obtain ⟨_, rfl⟩ := Prod.mk.inj (Option.some.inj h)
        obtain ⟨h1, h2⟩ := ih _ _ _ hu
        have h3 := lift_ge hl
        have h4 := lift_le hl
        rw [List.length_drop] at h2
        rw [sumW_cons]
        omega
theorem unpack_least {s b : List UInt8} {l : List V} {k : Nat} (h : unpack s b = some (l, k)) : least s ≤ k ∧ k ≤ b.length := by
  obtain ⟨h1, h2⟩ := unpack_bounds s b l k h
  refine ⟨?_, h2⟩
  unfold least
  split <;> omega

end Go.Proofs.YtcdobdjemlaaaaaGreat
/- The reference's values in memory; the law's told, all, much. -/
namespace Go.Proofs.YtcdobdjemlaaaaaGreat
open Go.RowKit
set_option linter.unusedVariables false
set_option linter.unusedSimpArgs false
open Wire

/-- A value's cells as the reference keeps it. -/
def rC (v : V) (sl : Value) : List Value := .int .u8 (v.letter.toNat : Int) :: .int .u64 (v.n : Int) :: .bool v.yes :: sl :: bV v.x
theorem rC_len {v : V} {sl : Value} (hx : v.x.length = 256) : (rC v sl).length = 260 := by simp [rC, bV_len, hx]
/-- A value of the reference's, by value. -/
def rA (v : V) (sl : Value) : Value := .agg (rC v sl).toArray

/-- A value as the program takes it, its bytes in new memory; odd: a number that has no type. -/
def AnyT (base : Nat) (w : World) (u : Value) (v : V) : Prop :=
  AnyO base w u v ∨ (v.letter ≠ 56 ∧ v.letter ≠ 63 ∧ v.letter ≠ 42 ∧ v.letter ≠ 35 ∧ ∃ n, u = .iface 3 (.int .i64 n))
theorem AnyT.any {base : Nat} {w : World} {u : Value} {v : V} (h : AnyT base w u v) : AnyV w u v := by
  rcases h with h | h
  · exact h.any
  · obtain ⟨h1, h2, h3, h4, n, e⟩ := h
    exact .inr (.inr (.inr (.inr ⟨h1, h2, h3, h4, .inl ⟨n, e⟩⟩)))
theorem AnyT.lt {base : Nat} {w : World} {u : Value} {x : V} (h : AnyT base w u x) : ∀ k ∈ ib u, base ≤ k ∧ k < w.heap.size := by
  rcases h with h | ⟨_, _, _, _, n, rfl⟩
  · exact h.lt
  · intro k hk; simp [ib, ob, Value.ownBlock] at hk
theorem AnyT.base {base base' : Nat} {w : World} {u : Value} {x : V} (h : AnyT base w u x) (hb : base' ≤ base) : AnyT base' w u x := by
  rcases h with h | h
  · exact .inl (h.base hb)
  · exact .inr h
theorem AnyT.at {base : Nat} {w w' : World} {u : Value} {x : V} (h : AnyT base w u x) (hs : ∀ k ∈ ib u, w'.heap[k]? = w.heap[k]?) : AnyT base w' u x := by
  rcases h with h | h
  · exact .inl (h.at hs)
  · exact .inr h
theorem AnyT.below {base : Nat} {w w' : World} {u : Value} {x : V} (h : AnyT base w u x) (hb : Below w.heap.size w w') : AnyT base w' u x :=
  h.at fun k hk => hb.block k (h.lt k hk).2
theorem AnyT.iface {base : Nat} {w : World} {u : Value} {v : V} (h : AnyT base w u v) : ∃ t y, u = .iface t y := by
  rcases h with h | ⟨_, _, _, _, n, rfl⟩
  · exact h.iface
  · exact ⟨_, _, rfl⟩

/-- Such values in a row that is new, and whose block holds none of their bytes. -/
def Outs3 (base : Nat) (w : World) (v : Value) (l : List V) : Prop :=
  ∃ xs, w.ownsRow base 20 1 v l.length xs ∧ ∀ (j : Nat) (x : V), l[j]? = some x → ∃ u, xs[j]? = some u ∧ AnyT base w u x ∧ ∀ k ∈ ib u, k ∉ ob v
theorem Outs3.nil (base : Nat) (w : World) : Outs3 base w (.slice none 0 0) [] := ⟨[], World.ownsRow_nil _ _ _ _, fun j x h => by simp at h⟩
theorem Outs3.below {base : Nat} {w w' : World} {v : Value} {l : List V} (h : Outs3 base w v l) (hb : Below w.heap.size w w') : Outs3 base w' v l := by
  obtain ⟨xs, ho, hx⟩ := h
  refine ⟨xs, ownsRow_below ho hb, fun j x hj => ?_⟩
  obtain ⟨u, h1, h2, h3⟩ := hx j x hj
  exact ⟨u, h1, h2.below hb, h3⟩
theorem Outs3.snoc {base : Nat} {w w1 : World} {v v1 u : Value} {l : List V} {x : V} {xs : List Value} (hx : ∀ (j : Nat) (y : V), l[j]? = some y → ∃ z, xs[j]? = some z ∧ AnyT base w z y ∧ ∀ k ∈ ib z, k ∉ ob v)
    (hn : xs.length = l.length) (hu : AnyT base w u x) (hd : ∀ k ∈ ib u, k ∉ ob v) (ho1 : w1.ownsRow base 20 1 v1 (l.length + 1) (xs ++ [u])) (hg : w.grownBy w1 v.ownBlock) (hs : SameOrNew w v v1) : Outs3 base w1 v1 (l ++ [x]) := by
  have key : ∀ {z y}, AnyT base w z y → (∀ k ∈ ib z, k ∉ ob v) → AnyT base w1 z y ∧ ∀ k ∈ ib z, k ∉ ob v1 := by
    intro z y hz hk
    refine ⟨hz.at fun k h => hg.block k (hz.lt k h).2 (fun e => hk k h (by simp [ob, ← e])), fun k h hm => ?_⟩
    rcases (Chg.of_grown hg hs).2 k hm with h1 | h1
    · exact hk k h h1
    · have := (hz.lt k h).2; omega
  refine ⟨xs ++ [u], by simpa using ho1, fun j y hj => ?_⟩
  rcases Nat.lt_trichotomy j l.length with h | h | h
  · rw [List.getElem?_append_left h] at hj
    obtain ⟨z, h1, h2, h3⟩ := hx j y hj
    obtain ⟨k1, k2⟩ := key h2 h3
    exact ⟨z, by rw [List.getElem?_append_left (by omega)]; exact h1, k1, k2⟩
  · subst h
    rw [List.getElem?_append_right (Nat.le_refl _), Nat.sub_self] at hj
    obtain rfl : x = y := by simpa using hj
    obtain ⟨k1, k2⟩ := key hu hd
    exact ⟨u, by rw [List.getElem?_append_right (by omega), hn, Nat.sub_self]; rfl, k1, k2⟩
  · rw [List.getElem?_eq_none (by simp; omega)] at hj
    cases hj
theorem Outs3.anys {base : Nat} {w : World} {v : Value} {l : List V} (h : Outs3 base w v l) : ∃ ao cap, v = .slice ao l.length cap ∧ (ao = none → cap = 0) ∧ Anys w ao l.length cap l := by
  obtain ⟨xs, ho, hx⟩ := h
  obtain ⟨ao, cap, rfl, _, _, ⟨hn, h1, h2⟩, hc⟩ := Rd.of_own ho
  refine ⟨ao, cap, rfl, hn, rfl, h1, h2, fun j x hj => ?_⟩
  obtain ⟨u, hu, ha, _⟩ := hx j x hj
  obtain ⟨b, off, e, hb, hce⟩ := hc j u hu
  exact ⟨b, off, u, e, hb, hce, ha.any⟩

/-- A slice of the reference's values reads as l. -/
def RVs (w : World) (ao : Option Addr) (n cap : Nat) (l : List V) : Prop :=
  l.length = n ∧ n ≤ cap ∧ cap ≤ maxLen ∧ (ao = none → cap = 0) ∧ ∀ j x, l[j]? = some x → x.Ok ∧ ∃ b off sl, ao = some ⟨b, off, none⟩ ∧ b < w.heap.size ∧ w.rangeAt b (off + j * 260) (rC x sl) ∧ Rd w 1 sl x.b.length (bV x.b)
theorem rangeAt_below {w w' : World} {b o : Nat} {cs : List Value} (h : w.rangeAt b o cs) (hl : b < w.heap.size) (hb : Below w.heap.size w w') : w'.rangeAt b o cs :=
  fun j u hj => (hb.cell (p := ⟨b, o + j, none⟩) hl).trans (h j u hj)
theorem RVs.below {w w' : World} {ao : Option Addr} {n cap : Nat} {l : List V} (h : RVs w ao n cap l) (hb : Below w.heap.size w w') : RVs w' ao n cap l := by
  obtain ⟨h1, h2, h3, h4, h5⟩ := h
  refine ⟨h1, h2, h3, h4, fun j x hj => ?_⟩
  obtain ⟨ok, b, off, sl, e, hl, hr, hd⟩ := h5 j x hj
  exact ⟨ok, b, off, sl, e, Nat.lt_of_lt_of_le hl hb.size, rangeAt_below hr hl hb, hd.below hb⟩

/-- The cells of a value in a block of its own. -/
theorem rC_box (w : World) (T : TypeId) (v : V) (sl : Value) : (w.alloc (.cells (rC v sl).toArray T)).rangeAt w.heap.size 0 (rC v sl) := fun j u hj => by
  rw [Nat.zero_add]
  exact cellOf' (heap_alloc_new w _) j (by simpa using hj)
theorem rC_cells {w : World} {b o : Nat} {v : V} {sl : Value} (h : w.rangeAt b o (rC v sl)) : w.cell? ⟨b, o, none⟩ = some (.int .u8 (v.letter.toNat : Int)) ∧ w.cell? ⟨b, o + 1, none⟩ = some (.int .u64 (v.n : Int)) ∧ w.cell? ⟨b, o + 2, none⟩ = some (.bool v.yes) ∧ w.cell? ⟨b, o + 3, none⟩ = some sl ∧ w.rangeAt b (o + 4) (bV v.x) :=
  ⟨h 0 _ rfl, h 1 _ rfl, h 2 _ rfl, h 3 _ rfl, fun j u hj => by
    have := h (j + 4) u (by simpa [rC] using hj)
    rwa [show o + (j + 4) = o + 4 + j by omega] at this⟩

theorem letter_ne {c k : UInt8} (h : c ≠ k) : ((c.toNat : Int) == (k.toNat : Int)) = false := by
  rw [beq_eq_false_iff_ne]; intro e; exact h (byteI.1 e)

end Go.Proofs.YtcdobdjemlaaaaaGreat
/- The law's all, is, are. -/
namespace Go.Proofs.YtcdobdjemlaaaaaGreat
open Go.RowKit
set_option linter.unusedVariables false
set_option linter.unusedSimpArgs false
open Wire

/-- Two values that are the same by their letter. -/
def SameV (x y : V) : Prop := x.letter = y.letter ∧ (x.letter = 56 ∧ x.n = y.n ∨ x.letter = 63 ∧ x.yes = y.yes ∨ x.letter = 42 ∧ x.b = y.b ∨ x.letter = 35 ∧ x.x = y.x)

theorem zeroBlock2 (w : World) : (zeroValue 50).run Tryz.prog w = .ok (.agg Tryz.zeroCells50) w := by kernel_rfl
theorem zsz : Tryz.zeroCells50.size = 256 := by kernel_rfl
theorem zone : ∀ u ∈ Tryz.zeroCells50.toList, u.oneCell' = true := by
  have : Tryz.zeroCells50.toList.all (fun u => u.oneCell') = true := by kernel_rfl
  intro u hu
  exact List.all_eq_true.1 this u hu

theorem cellsU8 : Tryz.prog.cellsOf 5 = 1 := by kernel_rfl
theorem infoU8 : ∃ i, Tryz.prog.info? 5 = some i := by
  have : (Tryz.prog.info? 5).isSome = true := by kernel_rfl
  exact Option.isSome_iff_exists.1 this

end Go.Proofs.YtcdobdjemlaaaaaGreat
/- What was unpacked is packed as the bytes it took; shapes one behind the other: plain Lean. -/
namespace Go.Proofs.YtcdobdjemlaaaaaGreat.Wire
set_option linter.unusedVariables false
set_option linter.unusedSimpArgs false

theorem wid_cases {c : UInt8} (hc : wid c ≠ 0) : isNum c = true ∨ c = 63 ∨ c = 42 ∨ c = 35 := by
  by_cases h1 : isNum c = true
  · exact .inl h1
  by_cases h2 : c = 63
  · exact .inr (.inl h2)
  by_cases h3 : c = 42
  · exact .inr (.inr (.inl h3))
  by_cases h4 : c = 35
  · exact .inr (.inr (.inr h4))
  exfalso
  apply hc
  simp only [isNum, Bool.or_eq_true, beq_iff_eq, not_or] at h1
  have e : ∀ k : UInt8, c ≠ k → ((c.toNat : Int) ≠ (k.toNat : Int)) := fun k h hh => h (byteI.1 hh)
  have e1 := e 49 h1.1.1.1
  have e2 := e 50 h1.1.1.2
  have e3 := e 52 h1.1.2
  have e4 := e 56 h1.2
  have e5 := e 63 h2
  have e6 := e 42 h3
  have e7 := e 35 h4
  simp only [UInt8.reduceToNat, Int.cast_ofNat_Int] at e1 e2 e3 e4 e5 e6 e7
  unfold wid widI
  simp [e1, e2, e3, e4, e5, e6, e7]

theorem low_take (b : List UInt8) (k : Nat) (h : k ≤ b.length) : low (sum (b.take k)) k = b.take k := by
  have e : (b.take k).length = k := by rw [List.length_take]; omega
  have := low_sum (b.take k)
  rwa [e] at this
theorem sum_take_pow (b : List UInt8) (k : Nat) (h : k ≤ b.length) : sum (b.take k) < 256 ^ k := by
  have e : (b.take k).length = k := by rw [List.length_take]; omega
  have := sum_lt (b.take k)
  rwa [e] at this

theorem lay_lift {c : UInt8} (hc : wid c ≠ 0) {b : List UInt8} {x : V} {k : Nat} (h : lift c b = some (x, k)) : lay c x = some (b.take k) := by
  rcases wid_cases hc with h1 | rfl | rfl | rfl
  · have h63 : c ≠ 63 := by rintro rfl; cases h1
    have h42 : c ≠ 42 := by rintro rfl; cases h1
    have h35 : c ≠ 35 := by rintro rfl; cases h1
    unfold lift at h
    rw [if_neg h63, if_neg h42, if_neg h35] at h
    split at h
    · cases h
    · rename_i hl
      obtain ⟨rfl, rfl⟩ := Prod.mk.inj (Option.some.inj h)
      unfold lay num
      rw [if_pos rfl, if_pos ⟨h1, sum_take_pow b _ (by omega)⟩, low_take b _ (by omega)]
  · unfold lift at h
    rw [if_pos rfl] at h
    split at h
    · cases h
    · rename_i hl
      rw [show wid 63 = 1 from rfl] at hl
      split at h
      · cases h
      · rename_i hb
        obtain ⟨rfl, rfl⟩ := Prod.mk.inj (Option.some.inj h)
        cases b with
        | nil => simp at hl
        | cons b0 b =>
          simp only [List.headD_cons] at hb ⊢
          have hlay : ∀ y, lay 63 (flag y) = some [if y then 1 else 0] := fun y => rfl
          rw [hlay]
          congr 1
          have hb2 : b0 = 0 ∨ b0 = 1 := by
            have : b0.toNat = 0 ∨ b0.toNat = 1 := by omega
            rcases this with h | h
            · exact .inl (UInt8.toNat_inj.1 h)
            · exact .inr (UInt8.toNat_inj.1 h)
          rcases hb2 with rfl | rfl <;> rfl
  · unfold lift at h
    rw [if_neg (show (42 : UInt8) ≠ 63 by decide), if_pos rfl] at h
    split at h
    · cases h
    · rename_i hl
      rw [show wid 42 = 4 from rfl] at hl
      split at h
      · cases h
      · rename_i hb
        obtain ⟨rfl, rfl⟩ := Prod.mk.inj (Option.some.inj h)
        have hs4 := low_take b 4 (by omega)
        generalize sum (b.take 4) = s at *
        have hlen : ((b.drop 4).take s).length = s := by rw [List.length_take, List.length_drop]; omega
        have hlay : ∀ l : List UInt8, l.length ≤ 16777216 → lay 42 (blob l) = some (low l.length 4 ++ l) := fun l hh => by
          have e : lay 42 (blob l) = if (42 : UInt8) = 42 ∧ l.length ≤ 16777216 then some (low l.length 4 ++ l) else none := rfl
          rw [e, if_pos ⟨rfl, hh⟩]
        rw [hlay _ (by rw [hlen]; omega), hlen, hs4]
        congr 1
        rw [Nat.add_comm 4 s, Nat.add_comm s 4, List.take_add]
  · unfold lift at h
    rw [if_neg (show (35 : UInt8) ≠ 63 by decide), if_neg (show (35 : UInt8) ≠ 42 by decide), if_pos rfl] at h
    split at h
    · cases h
    · obtain ⟨rfl, rfl⟩ := Prod.mk.inj (Option.some.inj h)
      rfl

theorem pack_unpack (s : List UInt8) : ∀ (b : List UInt8) (l : List V) (k : Nat), may s = true → unpack s b = some (l, k) → pack s l = some (b.take k) := by
  induction s with
  | nil =>
    intro b l k _ h
    obtain ⟨rfl, rfl⟩ := Prod.mk.inj (Option.some.inj h)
    rfl
  | cons c s ih =>
    intro b l k hm h
    rw [may_cons, Bool.and_eq_true] at hm
    have hc : wid c ≠ 0 := by simpa using hm.1
    rw [unpack] at h
    cases hl : lift c b with
    | none => rw [hl] at h; cases h
    | some xq =>
      obtain ⟨x, q⟩ := xq
      rw [hl] at h
      simp only [Option.bind_some] at h
      cases hu : unpack s (b.drop q) with
      | none => rw [hu] at h; cases h
      | some lm =>
        obtain ⟨l2, m2⟩ := lm
        rw [hu] at h
        obtain ⟨rfl, rfl⟩ := Prod.mk.inj (Option.some.inj h)
        rw [pack, lay_lift hc hl, Option.bind_some, ih _ _ _ hm.2 hu, Option.map_some, List.take_add]

theorem may_app (a c : List UInt8) : may (a ++ c) = (may a && may c) := by simp [may]
theorem unpack_app (a c : List UInt8) : ∀ b, unpack (a ++ c) b = (unpack a b).bind fun p => (unpack c (b.drop p.2)).map fun q => (p.1 ++ q.1, p.2 + q.2) := by
  induction a with
  | nil => intro b; simp [unpack]
  | cons x a ih =>
    intro b
    rw [List.cons_append, unpack, unpack]
    cases hl : lift x b with
    | none => rfl
    | some vk =>
      obtain ⟨v, k⟩ := vk
      simp only [Option.bind_some]
      rw [ih]
      cases hu : unpack a (b.drop k) with
      | none => rfl
      | some lm =>
        obtain ⟨l, m⟩ := lm
        simp only [Option.bind_some, Option.map_some, List.drop_drop]
        cases unpack c (b.drop (k + m)) with
        | none => rfl
        | some q => simp [Nat.add_assoc]

theorem lift_blen {c : UInt8} {b : List UInt8} {x : V} {k : Nat} (h : lift c b = some (x, k)) : x.b.length ≤ b.length := by
  unfold lift at h
  split at h
  · cases h
  split at h
  · split at h
    · cases h
    · obtain ⟨rfl, _⟩ := Prod.mk.inj (Option.some.inj h); exact Nat.zero_le _
  split at h
  · split at h
    · cases h
    · obtain ⟨rfl, _⟩ := Prod.mk.inj (Option.some.inj h)
      simp only [blob, List.length_take, List.length_drop]; omega
  split at h
  · obtain ⟨rfl, _⟩ := Prod.mk.inj (Option.some.inj h); exact Nat.zero_le _
  · obtain ⟨rfl, _⟩ := Prod.mk.inj (Option.some.inj h); exact Nat.zero_le _
theorem unpack_blen (s : List UInt8) : ∀ (b : List UInt8) (l : List V) (k : Nat), unpack s b = some (l, k) → (∀ v ∈ l, v.b.length ≤ b.length) ∧ l.length = s.length := by
  induction s with
  | nil =>
    intro b l k h
    obtain ⟨rfl, _⟩ := Prod.mk.inj (Option.some.inj h)
    exact ⟨(fun v hv => by cases hv), rfl⟩
  | cons c s ih =>
    intro b l k h
    rw [unpack] at h
    cases hl : lift c b with
    | none => rw [hl] at h; cases h
    | some xq =>
      obtain ⟨x, q⟩ := xq
      rw [hl] at h
      simp only [Option.bind_some] at h
      cases hu : unpack s (b.drop q) with
      | none => rw [hu] at h; cases h
      | some lm =>
        obtain ⟨l2, m2⟩ := lm
        rw [hu] at h
        obtain ⟨rfl, _⟩ := Prod.mk.inj (Option.some.inj h)
        obtain ⟨h1, h2⟩ := ih _ _ _ hu
        refine ⟨fun v hv => ?_, by simp [h2]⟩
        rcases List.mem_cons.1 hv with rfl | hv
        · exact lift_blen hl
        · have := h1 v hv
          rw [List.length_drop] at this
          omega

/-- What Unpack answers: the error's number, how many bytes, the values. -/
def ucode (s b : List UInt8) : Int := if may s then (if (unpack s b).isSome then 0 else 4) else 2
def ulen (s b : List UInt8) : Nat := if may s then (match unpack s b with | some (_, k) => k | none => 0) else 0
def uvals (s b : List UInt8) : List V := if may s then (match unpack s b with | some (l, _) => l | none => []) else []
theorem ucode_zero {s b : List UInt8} (h : ucode s b = 0) : may s = true ∧ unpack s b = some (uvals s b, ulen s b) := by
  unfold ucode at h
  split at h
  · rename_i hm
    split at h
    · rename_i hs
      obtain ⟨⟨l, k⟩, hu⟩ := Option.isSome_iff_exists.1 hs
      refine ⟨hm, ?_⟩
      unfold uvals ulen
      rw [if_pos hm, if_pos hm, hu]
    · cases h
  · cases h
theorem ucode_of {s b : List UInt8} {l : List V} {k : Nat} (hm : may s = true) (hu : unpack s b = some (l, k)) : ucode s b = 0 ∧ uvals s b = l ∧ ulen s b = k := by
  unfold ucode uvals ulen
  rw [if_pos hm, if_pos hm, if_pos hm, hu]
  exact ⟨rfl, rfl, rfl⟩
theorem ucode_pos {s b : List UInt8} (h : ucode s b ≠ 0) : uvals s b = [] ∧ ulen s b = 0 ∧ (ucode s b = 2 ∨ ucode s b = 4) := by
  unfold ucode uvals ulen at *
  by_cases hm : may s = true
  · rw [if_pos hm] at h ⊢
    rw [if_pos hm, if_pos hm]
    cases hu : unpack s b with
    | none => exact ⟨rfl, rfl, .inr rfl⟩
    | some p => rw [hu] at h; simp at h
  · rw [if_neg hm, if_neg hm, if_neg hm]
    exact ⟨rfl, rfl, .inl rfl⟩
theorem join_first {a c b : List UInt8} (h : ucode a b ≠ 0) : ucode (a ++ c) b ≠ 0 := by
  intro h2
  obtain ⟨hm, hu⟩ := ucode_zero h2
  rw [may_app, Bool.and_eq_true] at hm
  rw [unpack_app] at hu
  cases hx : unpack a b with
  | none => rw [hx] at hu; cases hu
  | some p => exact h (ucode_of (l := p.1) (k := p.2) hm.1 hx).1
theorem join_second {a c b : List UInt8} (h : ucode a b = 0) (h2 : ucode c (b.drop (ulen a b)) ≠ 0) : ucode (a ++ c) b = ucode c (b.drop (ulen a b)) := by
  obtain ⟨hm, hu⟩ := ucode_zero h
  unfold ucode at h2 ⊢
  rw [may_app, hm, Bool.true_and, unpack_app, hu, Option.bind_some]
  by_cases hc : may c = true
  · rw [if_pos hc] at h2 ⊢
    rw [if_pos hc]
    cases hx : unpack c (b.drop (ulen a b)) with
    | none => rfl
    | some p => rfl
  · rw [if_neg hc, if_neg hc]
theorem join_both {a c b : List UInt8} (h : ucode a b = 0) (h2 : ucode c (b.drop (ulen a b)) = 0) :
    ucode (a ++ c) b = 0 ∧ ulen (a ++ c) b = ulen a b + ulen c (b.drop (ulen a b)) ∧ uvals (a ++ c) b = uvals a b ++ uvals c (b.drop (ulen a b)) := by
  obtain ⟨hm, hu⟩ := ucode_zero h
  obtain ⟨hm2, hu2⟩ := ucode_zero h2
  have hm3 : may (a ++ c) = true := by rw [may_app, hm, hm2]; rfl
  have hu3 := unpack_app a c b
  rw [hu, Option.bind_some] at hu3
  simp only [hu2, Option.map_some] at hu3
  obtain ⟨h1, h2, h3⟩ := ucode_of hm3 hu3
  exact ⟨h1, h3, h2⟩
theorem ulen_le (s b : List UInt8) : ulen s b ≤ b.length := by
  unfold ulen
  split
  · split
    · rename_i hu; exact (unpack_bounds s b _ _ hu).2
    · exact Nat.zero_le _
  · exact Nat.zero_le _
theorem uvals_blen (s b : List UInt8) : (∀ v ∈ uvals s b, v.b.length ≤ b.length) ∧ (uvals s b).length ≤ s.length := by
  unfold uvals
  split
  · split
    · rename_i hu
      obtain ⟨h1, h2⟩ := unpack_blen s b _ _ hu
      exact ⟨h1, Nat.le_of_eq h2⟩
    · exact ⟨(fun v hv => by cases hv), Nat.zero_le _⟩
  · exact ⟨(fun v hv => by cases hv), Nat.zero_le _⟩
theorem upack {s b : List UInt8} (h : ucode s b = 0) : pack s (uvals s b) = some (b.take (ulen s b)) := by
  obtain ⟨hm, hu⟩ := ucode_zero h
  exact pack_unpack s b _ _ hm hu
end Go.Proofs.YtcdobdjemlaaaaaGreat.Wire
/- WireJoins, walked. -/
namespace Go.Proofs.YtcdobdjemlaaaaaGreat
open Go.RowKit
set_option linter.unusedVariables false
set_option linter.unusedSimpArgs false
open Wire

theorem anys_of {w : World} {base : Nat} {v : Value} {l : List V} {xs : List Value} (ho : w.ownsRow base 20 1 v l.length xs) (hx : ∀ (j : Nat) (x : V), l[j]? = some x → ∃ u, xs[j]? = some u ∧ AnyV w u x) :
    ∃ ao cap, v = .slice ao l.length cap ∧ (ao = none → cap = 0) ∧ Anys w ao l.length cap l := by
  obtain ⟨ao, cap, rfl, _, _, ⟨hn, h1, h2⟩, hc⟩ := Rd.of_own ho
  refine ⟨ao, cap, rfl, hn, rfl, h1, h2, fun j x hj => ?_⟩
  obtain ⟨u, hu, ha⟩ := hx j x hj
  obtain ⟨b, off, e, hb, hce⟩ := hc j u hu
  exact ⟨b, off, u, e, hb, hce, ha⟩
theorem Outs.anys {w : World} {base : Nat} {v : Value} {l : List V} (h : Outs base w v l) : ∃ ao cap, v = .slice ao l.length cap ∧ (ao = none → cap = 0) ∧ Anys w ao l.length cap l := by
  obtain ⟨xs, ho, hx⟩ := h
  exact anys_of ho fun j x hj => by
    obtain ⟨u, h1, h2⟩ := hx j x hj
    exact ⟨u, h1, h2.any⟩
/-- The row's cells: each of one cell, and as many as the values. -/
theorem outs_one {w : World} {base : Nat} {v : Value} {l : List V} {xs : List Value} (ho : w.ownsRow base 20 1 v l.length xs) (hx : ∀ (j : Nat) (x : V), l[j]? = some x → ∃ u, xs[j]? = some u ∧ AnyO base w u x) : ∀ u ∈ xs, u.oneCell' = true := by
  intro u hu
  obtain ⟨j, hj⟩ := List.mem_iff_getElem?.1 hu
  have hl : xs.length = l.length := by have := ho.1; omega
  have hjl : j < l.length := by rw [← hl]; exact (List.getElem?_eq_some_iff.1 hj).1
  obtain ⟨z, h1, h2⟩ := hx j _ (List.getElem?_eq_getElem hjl)
  rw [hj] at h1
  obtain rfl := Option.some.inj h1
  obtain ⟨t, y, rfl⟩ := h2.iface
  rfl
theorem pw_app {P : Value → V → Prop} {l1 l2 : List V} {xs1 xs2 : List Value} (hl : xs1.length = l1.length) (h1 : ∀ (j : Nat) (x : V), l1[j]? = some x → ∃ u, xs1[j]? = some u ∧ P u x) (h2 : ∀ (j : Nat) (x : V), l2[j]? = some x → ∃ u, xs2[j]? = some u ∧ P u x) :
    ∀ (j : Nat) (x : V), (l1 ++ l2)[j]? = some x → ∃ u, (xs1 ++ xs2)[j]? = some u ∧ P u x := by
  intro j x hj
  rcases Nat.lt_or_ge j l1.length with h | h
  · rw [List.getElem?_append_left h] at hj
    obtain ⟨u, e, p⟩ := h1 j x hj
    exact ⟨u, by rw [List.getElem?_append_left (by omega)]; exact e, p⟩
  · rw [List.getElem?_append_right h] at hj
    obtain ⟨u, e, p⟩ := h2 _ x hj
    exact ⟨u, by rw [List.getElem?_append_right (by omega), hl]; exact e, p⟩

theorem chs_app (a c : ByteArray) : chs (a ++ c) = chs a ++ chs c := by simp [chs]

end Go.Proofs.YtcdobdjemlaaaaaGreat
/- What was packed is unpacked as it was; of fewer bytes nothing: plain Lean. -/
namespace Go.Proofs.YtcdobdjemlaaaaaGreat.Wire
set_option linter.unusedVariables false
set_option linter.unusedSimpArgs false

theorem wid_num {c : UInt8} (h : isNum c = true) : 1 ≤ wid c ∧ wid c ≤ 8 := by
  simp only [isNum, Bool.or_eq_true, beq_iff_eq] at h
  rcases h with ((rfl | rfl) | rfl) | rfl <;> decide

theorem lift_lay {c : UInt8} {v : V} {a : List UInt8} (hx : v.x.length = 256) (h : lay c v = some a) (r : List UInt8) : wid c ≠ 0 ∧ ∃ v', lift c (a ++ r) = some (v', a.length) ∧ SameV v' v := by
  unfold lay at h
  split at h
  · rename_i hv
    split at h
    · rename_i hc
      obtain rfl := Option.some.inj h
      have hw := wid_num hc.1
      have h63 : c ≠ 63 := by rintro rfl; cases hc.1
      have h42 : c ≠ 42 := by rintro rfl; cases hc.1
      have h35 : c ≠ 35 := by rintro rfl; cases hc.1
      refine ⟨by omega, num v.n, ?_, hv.symm, .inl ⟨rfl, rfl⟩⟩
      unfold lift
      rw [if_neg (by rw [List.length_append, low_len]; omega), if_neg h63, if_neg h42, if_neg h35, List.take_left' (low_len _ _), sum_low _ _ hc.2, low_len]
    · cases h
  split at h
  · rename_i hv
    split at h
    · rename_i hc
      subst hc
      obtain rfl := Option.some.inj h
      refine ⟨by decide, flag v.yes, ?_, hv.symm, .inr (.inl ⟨rfl, rfl⟩)⟩
      unfold lift
      rw [if_neg (by rw [show wid 63 = 1 from rfl]; simp), if_pos rfl]
      cases v.yes <;> rfl
    · cases h
  split at h
  · rename_i hv
    split at h
    · rename_i hc
      obtain ⟨rfl, hl⟩ := hc
      obtain rfl := Option.some.inj h
      refine ⟨by decide, blob v.b, ?_, hv.symm, .inr (.inr (.inl ⟨rfl, rfl⟩))⟩
      have h4 : (low v.b.length 4).length = 4 := low_len _ _
      have hs : sum ((low v.b.length 4 ++ v.b ++ r).take 4) = v.b.length := by
        rw [List.append_assoc, List.take_left' h4]
        exact sum_low 4 _ (Nat.lt_of_le_of_lt hl (by decide))
      unfold lift
      rw [if_neg (by rw [show wid 42 = 4 from rfl, List.length_append, List.length_append, h4]; omega), if_neg (by decide), if_pos rfl, hs]
      rw [if_neg (by rw [List.length_append, List.length_append, h4]; omega)]
      rw [List.append_assoc, List.drop_left' h4, List.take_left' rfl, List.length_append, h4]
    · cases h
  split at h
  · rename_i hv
    split at h
    · rename_i hc
      subst hc
      obtain rfl := Option.some.inj h
      refine ⟨by decide, blk v.x, ?_, hv.symm, .inr (.inr (.inr ⟨rfl, rfl⟩))⟩
      unfold lift
      rw [if_neg (by rw [show wid 35 = 256 from rfl, List.length_append, hx]; omega), if_neg (by decide), if_neg (by decide), if_pos rfl, List.take_left' hx, hx]
    · cases h
  · cases h

theorem lift_short {c : UInt8} {v : V} {a : List UInt8} (hx : v.x.length = 256) (h : lay c v = some a) {m : Nat} (hm : m < a.length) : lift c (a.take m) = none := by
  have hl : (a.take m).length = m := by rw [List.length_take]; omega
  unfold lay at h
  split at h
  · split at h
    · obtain rfl := Option.some.inj h
      rw [low_len] at hm
      unfold lift
      rw [if_pos (by omega)]
    · cases h
  split at h
  · split at h
    · rename_i hc
      subst hc
      obtain rfl := Option.some.inj h
      obtain rfl : m = 0 := by simpa using hm
      rfl
    · cases h
  split at h
  · split at h
    · rename_i hc
      obtain ⟨rfl, hlen⟩ := hc
      obtain rfl := Option.some.inj h
      have h4 : (low v.b.length 4).length = 4 := low_len _ _
      rw [List.length_append, h4] at hm
      unfold lift
      rw [hl]
      by_cases h44 : m < 4
      · rw [if_pos (show m < wid 42 from h44)]
      · have hs : sum (((low v.b.length 4 ++ v.b).take m).take 4) = v.b.length := by
          rw [List.take_take, Nat.min_eq_left (by omega), List.take_left' h4]
          exact sum_low 4 _ (Nat.lt_of_le_of_lt hlen (by decide))
        rw [if_neg (by rw [show wid 42 = 4 from rfl]; exact h44), if_neg (by decide), if_pos rfl, hs, if_pos (by omega)]
    · cases h
  split at h
  · split at h
    · rename_i hc
      subst hc
      obtain rfl := Option.some.inj h
      unfold lift
      rw [if_pos (by rw [hl, show wid 35 = 256 from rfl]; omega)]
    · cases h
  · cases h

def SameVs (l' l : List V) : Prop := l'.length = l.length ∧ ∀ (j : Nat) (x y : V), l'[j]? = some x → l[j]? = some y → SameV x y
theorem SameVs.cons {x y : V} {l' l : List V} (h : SameV x y) (hs : SameVs l' l) : SameVs (x :: l') (y :: l) := by
  refine ⟨by simp [hs.1], fun j a b ha hb => ?_⟩
  cases j with
  | zero => simp at ha hb; subst ha; subst hb; exact h
  | succ j => exact hs.2 j a b (by simpa using ha) (by simpa using hb)

theorem unpack_pack (s : List UInt8) : ∀ (l : List V) (bs : List UInt8), (∀ v ∈ l, v.x.length = 256) → pack s l = some bs → ∀ r, may s = true ∧ ∃ l', unpack s (bs ++ r) = some (l', bs.length) ∧ SameVs l' l := by
  induction s with
  | nil =>
    intro l bs hx h r
    cases l with
    | nil =>
      obtain rfl := Option.some.inj h
      exact ⟨rfl, [], rfl, rfl, fun j x y hj => by simp at hj⟩
    | cons v l => simp [pack] at h
  | cons c s ih =>
    intro l bs hx h r
    cases l with
    | nil => simp [pack] at h
    | cons v l =>
      rw [pack] at h
      cases ha : lay c v with
      | none => rw [ha] at h; cases h
      | some a =>
        rw [ha, Option.bind_some] at h
        cases hp : pack s l with
        | none => rw [hp] at h; cases h
        | some bs' =>
          rw [hp] at h
          obtain rfl := Option.some.inj h
          obtain ⟨hc, v', hl, hsv⟩ := lift_lay (hx v (by simp)) ha (bs' ++ r)
          obtain ⟨hm, l', hu, hss⟩ := ih l bs' (fun u hu => hx u (by simp [hu])) hp r
          refine ⟨by rw [may_cons, hm]; simpa using hc, v' :: l', ?_, hss.cons hsv⟩
          rw [unpack, List.append_assoc, hl, Option.bind_some]
          simp only [List.drop_left, hu, Option.map_some, List.length_append]

theorem unpack_short (s : List UInt8) : ∀ (l : List V) (bs : List UInt8), (∀ v ∈ l, v.x.length = 256) → pack s l = some bs → ∀ m, m < bs.length → unpack s (bs.take m) = none := by
  induction s with
  | nil =>
    intro l bs hx h m hm
    cases l with
    | nil => obtain rfl := Option.some.inj h; simp at hm
    | cons v l => simp [pack] at h
  | cons c s ih =>
    intro l bs hx h m hm
    cases l with
    | nil => simp [pack] at h
    | cons v l =>
      rw [pack] at h
      cases ha : lay c v with
      | none => rw [ha] at h; cases h
      | some a =>
        rw [ha, Option.bind_some] at h
        cases hp : pack s l with
        | none => rw [hp] at h; cases h
        | some bs' =>
          rw [hp] at h
          obtain rfl := Option.some.inj h
          rw [unpack]
          rcases Nat.lt_or_ge m a.length with h1 | h1
          · rw [List.take_append_of_le_length (by omega), lift_short (hx v (by simp)) ha h1]; rfl
          · obtain ⟨hc, v', hl, hsv⟩ := lift_lay (hx v (by simp)) ha (bs'.take (m - a.length))
            have hta : (a ++ bs').take m = a ++ bs'.take (m - a.length) := by
              rw [List.take_append, List.take_of_length_le h1]
            rw [List.length_append] at hm
            rw [hta, hl, Option.bind_some]
            simp only [List.drop_left, ih l bs' (fun u hu => hx u (by simp [hu])) hp _ (show m - a.length < bs'.length by omega), Option.map_none]
theorem pack_len (s : List UInt8) : ∀ (l : List V) (bs : List UInt8) (L : Nat), (∀ v ∈ l, v.x.length = 256 ∧ v.b.length ≤ L) → pack s l = some bs → bs.length ≤ s.length * (L + 260) := by
  induction s with
  | nil =>
    intro l bs L hx h
    cases l with
    | nil => obtain rfl := Option.some.inj h; simp
    | cons v l => simp [pack] at h
  | cons c s ih =>
    intro l bs L hx h
    cases l with
    | nil => simp [pack] at h
    | cons v l =>
      rw [pack] at h
      cases ha : lay c v with
      | none => rw [ha] at h; cases h
      | some a =>
        rw [ha, Option.bind_some] at h
        cases hp : pack s l with
        | none => rw [hp] at h; cases h
        | some bs' =>
          rw [hp] at h
          obtain rfl := Option.some.inj h
          have h1 := lay_len ha (fun _ => (hx v (by simp)).1)
          have h2 := ih l bs' L (fun u hu => hx u (by simp [hu])) hp
          have h3 := (hx v (by simp)).2
          rw [List.length_append, List.length_cons, Nat.add_mul]
          omega
end Go.Proofs.YtcdobdjemlaaaaaGreat.Wire
/- The law's are; Pack in one form. -/
namespace Go.Proofs.YtcdobdjemlaaaaaGreat
open Go.RowKit
set_option linter.unusedVariables false
set_option linter.unusedSimpArgs false
open Wire

def pcode (s : List UInt8) (l : List V) : Int := if (pack s l).isSome then 0 else 2
theorem pcode_none {s : List UInt8} {l : List V} (h : pack s l = none) : pcode s l = 2 := by unfold pcode; rw [h]; rfl
theorem pcode_some {s : List UInt8} {l : List V} {bs : List UInt8} (h : pack s l = some bs) : pcode s l = 0 := by unfold pcode; rw [h]; rfl
end Go.Proofs.YtcdobdjemlaaaaaGreat
