/- The two kinds of area in memory: a struct of two slices and two numbers; what stays, what a store leaves. -/
import Derived.Test.YtcdobdjemlaaaaaGreatWA
namespace Go.Proofs.YtcdobdjemlaaaaaGreat
open Go.RowKit
set_option linter.unusedVariables false

/-- An area's numbers. -/
structure M where
  now : List Nat
  was : List Nat
  at_ : Nat
  kept : Nat

/-- Counts as cells. -/
def kV (kd : IntKind) (l : List Nat) : List Value := l.map fun (k : Nat) => .int kd (k : Int)
theorem kV_len (kd : IntKind) (l : List Nat) : (kV kd l).length = l.length := by simp [kV]
theorem kV_get {kd : IntKind} {l : List Nat} {j k : Nat} (h : l[j]? = some k) : (kV kd l)[j]? = some (.int kd (k : Int)) := by simp [kV, h]
theorem kV_app (kd : IntKind) (a b : List Nat) : kV kd (a ++ b) = kV kd a ++ kV kd b := by simp [kV]
theorem kV_one (kd : IntKind) (l : List Nat) : ∀ u ∈ kV kd l, u.oneCell' = true := by
  intro u hu
  obtain ⟨b, _, rfl⟩ := List.mem_map.1 hu
  rfl
theorem kV_set (kd : IntKind) (l : List Nat) (i k : Nat) : kV kd (l.set i k) = (kV kd l).set i (.int kd (k : Int)) := by simp [kV, List.map_set]

/-- A slice that holds counts, its row block g of cells; full: the block has just the slice's room. -/
def Row (E : TypeId) (kd : IntKind) (w : World) (g n cap : Nat) (xs : List Nat) : Prop :=
  ∃ cs, w.heap[g]? = some (.cells cs E (0, 0)) ∧ xs.length = n ∧ n ≤ cap ∧ cap ≤ maxLen ∧ cap ≤ cs.size ∧ cs.toList.take n = kV kd xs

theorem Row.lt {E : TypeId} {kd : IntKind} {w : World} {g n cap : Nat} {xs : List Nat} (h : Row E kd w g n cap xs) : g < w.heap.size := by
  obtain ⟨cs, hh, _⟩ := h
  exact (Array.getElem?_eq_some_iff.1 hh).1
theorem Row.same {E : TypeId} {kd : IntKind} {w w' : World} {g n cap : Nat} {xs : List Nat} (h : Row E kd w g n cap xs) (hs : w'.heap[g]? = w.heap[g]?) : Row E kd w' g n cap xs := by
  obtain ⟨cs, hh, r⟩ := h
  exact ⟨cs, hs.trans hh, r⟩
theorem Row.cell {E : TypeId} {kd : IntKind} {w : World} {g n cap : Nat} {xs : List Nat} (h : Row E kd w g n cap xs) {i k : Nat} (hk : xs[i]? = some k) : w.cell? ⟨g, i, none⟩ = some (.int kd (k : Int)) := by
  obtain ⟨cs, hh, hl, hn, hm, hc, ht⟩ := h
  refine cellOf hh i ?_
  have hi : i < n := by rw [← hl]; exact (List.getElem?_eq_some_iff.1 hk).1
  have := kV_get (kd := kd) hk
  rw [← ht, List.getElem?_take, if_pos hi] at this
  simpa using this
theorem Row.frozen {E : TypeId} {kd : IntKind} {w : World} {g n cap : Nat} {xs : List Nat} (h : Row E kd w g n cap xs) (i : Nat) : w.frozen? ⟨g, i, none⟩ = false := by
  obtain ⟨cs, hh, _⟩ := h
  exact frozenOf hh i
theorem Row.rd {E : TypeId} {kd : IntKind} {w : World} {g n cap : Nat} {xs : List Nat} (h : Row E kd w g n cap xs) : Rd w 1 (.slice (some ⟨g, 0, none⟩) n cap) n (kV kd xs) := by
  have h2 := h
  obtain ⟨cs, hh, hl, hn, hm, hc, ht⟩ := h2
  refine ⟨_, _, rfl, by simp [kV_len, hl], by omega, ⟨(fun e => by cases e), hn, hm⟩, fun j u hj => ⟨g, 0, rfl, h.lt, ?_⟩⟩
  simp only [kV, List.getElem?_map, Option.map_eq_some_iff] at hj
  obtain ⟨k, hk, rfl⟩ := hj
  rw [Nat.zero_add]
  exact h.cell hk
theorem Row.of_own {E : TypeId} {kd : IntKind} {w : World} {base n : Nat} {v : Value} {xs : List Nat} (h : w.ownsRow base E 1 v n (kV kd xs)) (hn : v ≠ .slice none 0 0) : ∃ g cap, v = .slice (some ⟨g, 0, none⟩) n cap ∧ base ≤ g ∧ Row E kd w g n cap xs := by
  have h1 := h.1
  rcases h.2 with ⟨rfl, rfl⟩ | ⟨g, cap, cur, rfl, hb, hg, hnc, hcm, hcs, ht⟩
  · exact absurd rfl hn
  · exact ⟨g, cap, rfl, hb, cur, hg, by simpa [kV_len] using h1, hnc, hcm, by omega, by simpa using ht⟩
theorem Row.set {E : TypeId} {kd : IntKind} {w : World} {g n cap : Nat} {xs : List Nat} (h : Row E kd w g n cap xs) (i k : Nat) : Row E kd (w.setCell ⟨g, i, none⟩ (.int kd (k : Int))) g n cap (xs.set i k) := by
  obtain ⟨cs, hh, hl, hn, hm, hc, ht⟩ := h
  refine ⟨_, setOf hh i _, by simpa using hl, hn, hm, by simpa using hc, ?_⟩
  rw [kV_set, ← ht, Array.toList_setIfInBounds]
  exact List.take_set ..

/-- An area lies at block p: F are its blocks. -/
structure ArAt (T E : TypeId) (kd : IntKind) (w : World) (p g1 g2 n1 c1 n2 c2 : Nat) (A : M) : Prop where
  here : w.heap[p]? = some (.cells #[.slice (some ⟨g1, 0, none⟩) n1 c1, .slice (some ⟨g2, 0, none⟩) n2 c2, .int .i64 (A.at_ : Int), .int .i64 (A.kept : Int)] T (0, 0))
  r1 : Row E kd w g1 n1 c1 A.now
  r2 : Row E kd w g2 n2 c2 A.was
  ne : g1 ≠ g2
  np1 : p ≠ g1
  np2 : p ≠ g2
namespace ArAt
variable {T E : TypeId} {kd : IntKind} {w w' : World} {p g1 g2 n1 c1 n2 c2 : Nat} {A : M} (h : ArAt T E kd w p g1 g2 n1 c1 n2 c2 A)
include h
theorem k0 : w.cell? ⟨p, 0, none⟩ = some (.slice (some ⟨g1, 0, none⟩) n1 c1) := cellOf h.here 0 rfl
theorem k1 : w.cell? ⟨p, 1, none⟩ = some (.slice (some ⟨g2, 0, none⟩) n2 c2) := cellOf h.here 1 rfl
theorem k2 : w.cell? ⟨p, 2, none⟩ = some (.int .i64 (A.at_ : Int)) := cellOf h.here 2 rfl
theorem k3 : w.cell? ⟨p, 3, none⟩ = some (.int .i64 (A.kept : Int)) := cellOf h.here 3 rfl
theorem fr (i : Nat) : w.frozen? ⟨p, i, none⟩ = false := frozenOf h.here i
theorem lt : p < w.heap.size := (Array.getElem?_eq_some_iff.1 h.here).1
theorem same (hs : SameAt [p, g1, g2] w w') : ArAt T E kd w' p g1 g2 n1 c1 n2 c2 A :=
  ⟨(hs p (by simp)).trans h.here, h.r1.same (hs g1 (by simp)), h.r2.same (hs g2 (by simp)), h.ne, h.np1, h.np2⟩
theorem below (hb : Below w.heap.size w w') : ArAt T E kd w' p g1 g2 n1 c1 n2 c2 A :=
  h.same (fun k hk => by
    have : k < w.heap.size := by
      simp only [List.mem_cons, List.not_mem_nil, or_false] at hk
      rcases hk with rfl | rfl | rfl
      · exact h.lt
      · exact h.r1.lt
      · exact h.r2.lt
    exact hb.block k this)
theorem setNow (i k : Nat) : ArAt T E kd (w.setCell ⟨g1, i, none⟩ (.int kd (k : Int))) p g1 g2 n1 c1 n2 c2 { A with now := A.now.set i k } :=
  ⟨(setOther _ _ h.np1).trans h.here, h.r1.set i k, h.r2.same (setOther _ _ (Ne.symm h.ne)), h.ne, h.np1, h.np2⟩
theorem setAt (k : Nat) : ArAt T E kd (w.setCell ⟨p, 2, none⟩ (.int .i64 (k : Int))) p g1 g2 n1 c1 n2 c2 { A with at_ := k } :=
  ⟨setOf h.here 2 _, h.r1.same (setOther _ _ (Ne.symm h.np1)), h.r2.same (setOther _ _ (Ne.symm h.np2)), h.ne, h.np1, h.np2⟩
theorem setKept (k : Nat) : ArAt T E kd (w.setCell ⟨p, 3, none⟩ (.int .i64 (k : Int))) p g1 g2 n1 c1 n2 c2 { A with kept := k } :=
  ⟨setOf h.here 3 _, h.r1.same (setOther _ _ (Ne.symm h.np1)), h.r2.same (setOther _ _ (Ne.symm h.np2)), h.ne, h.np1, h.np2⟩
/-- Another row is laid in for now. -/
theorem putNow {g n c : Nat} {xs : List Nat} (hr : Row E kd w g n c xs) (h2 : g ≠ g2) (hp : p ≠ g) : ArAt T E kd (w.setCell ⟨p, 0, none⟩ (.slice (some ⟨g, 0, none⟩) n c)) p g g2 n c n2 c2 { A with now := xs } :=
  ⟨setOf h.here 0 _, hr.same (setOther _ _ (Ne.symm hp)), h.r2.same (setOther _ _ (Ne.symm h.np2)), h2, hp, h.np2⟩
theorem putWas {g n c : Nat} {xs : List Nat} (hr : Row E kd w g n c xs) (h2 : g1 ≠ g) (hp : p ≠ g) : ArAt T E kd (w.setCell ⟨p, 1, none⟩ (.slice (some ⟨g, 0, none⟩) n c)) p g1 g n1 c1 n c { A with was := xs } :=
  ⟨setOf h.here 1 _, h.r1.same (setOther _ _ (Ne.symm h.np1)), hr.same (setOther _ _ (Ne.symm hp)), h2, h.np1, hp⟩
end ArAt

/-- An area at block p, whose blocks are F. -/
def Ar (T E : TypeId) (kd : IntKind) (w : World) (p : Nat) (A : M) (F : List Nat) : Prop := ∃ g1 g2 c1 c2, F = [p, g1, g2] ∧ ArAt T E kd w p g1 g2 A.now.length c1 A.was.length c2 A
theorem Ar.same {T E : TypeId} {kd : IntKind} {w w' : World} {p : Nat} {A : M} {F : List Nat} (h : Ar T E kd w p A F) (hs : SameAt F w w') : Ar T E kd w' p A F := by
  obtain ⟨g1, g2, c1, c2, rfl, h⟩ := h
  exact ⟨g1, g2, c1, c2, rfl, h.same hs⟩
theorem Ar.lt {T E : TypeId} {kd : IntKind} {w : World} {p : Nat} {A : M} {F : List Nat} (h : Ar T E kd w p A F) : ∀ k ∈ F, k < w.heap.size := by
  obtain ⟨g1, g2, c1, c2, rfl, h⟩ := h
  intro k hk
  simp only [List.mem_cons, List.not_mem_nil, or_false] at hk
  rcases hk with rfl | rfl | rfl
  · exact h.lt
  · exact h.r1.lt
  · exact h.r2.lt
/-- What a call that changes an area leaves of the world. -/
def Left (F : List Nat) (w w' : World) (F' : List Nat) : Prop := Mods F w w' ∧ ∀ k ∈ F', k ∈ F ∨ w.heap.size ≤ k
theorem Left.refl (F : List Nat) (w : World) : Left F w w F := ⟨Mods.refl F w, fun k h => .inl h⟩
theorem Left.trans {F G H : List Nat} {a b c : World} (h : Left F a b G) (k : Left G b c H) : Left F a c H :=
  ⟨h.1.trans k.1 h.2, fun i hi => by
    rcases k.2 i hi with h1 | h1
    · exact h.2 i h1
    · exact .inr (Nat.le_trans h.1.size h1)⟩
/-- What is right of an area. -/
structure M.Ok (A : M) : Prop where
  pos : 0 < A.now.length
  max : A.now.length ≤ 1000
  len : A.was.length = A.now.length
  at_ : A.at_ < A.now.length
  kept : A.kept < A.now.length
  now : ∀ k ∈ A.now, k < 65536
  was : ∀ k ∈ A.was, k < 65536

theorem infoC16 : (Tryz.prog.info? 60).map (fun i => (i.zero, i.size, i.bytes)) = some (some (.int .u16 0), 1, 2) := by kernel_rfl

set_option maxRecDepth 100000 in
set_option maxHeartbeats 400000 in
/-- slices.Clone at []uint16. -/
theorem clone16 (v : Value) (n : Nat) (bs : List Nat) (w : World) (h : Rd w 1 v n (kV .u16 bs)) (hn : n ≤ 1000000) :
    Calls Tryz.prog 115 #[v] w fun e w' => ∃ v', e = .returned v' ∧ w'.ownsRow w.heap.size 60 1 v' n (kV .u16 bs) ∧ Below w.heap.size w w' := by
  have hrd := h
  obtain ⟨ao, cap, rfl, hl, hm, hcap, hc⟩ := h
  cases ao with
  | none =>
    obtain rfl := hcap.1 rfl
    have hb : bs = [] := by
      cases bs with
      | nil => rfl
      | cons y ys => obtain ⟨b, off, h0, _⟩ := hc 0 _ (kV_get rfl); cases h0
    subst hb
    obtain rfl : n = 0 := by simpa [kV] using hl.symm
    clear hl hm hcap hc hrd
    have he := fun w a n c => Lib.run_eql_slice_nil (P := Tryz.prog) w 119 60 a n c 0 0 Tryz.underlying119
    go_enter Tryz.func115, Tryz.ntmps115
    go_wp2
    go_ret
    exact ⟨_, rfl, World.ownsRow_nil _ _ _ _, Below.refl _ _⟩
  | some ad =>
    clear hl hm hcap hc
    have he := fun w a n c => Lib.run_eql_slice_nil (P := Tryz.prog) w 119 60 a n c 0 0 Tryz.underlying119
    have ho0 : (w.alloc (.cells #[] 60)).ownsRow w.heap.size 60 1 (.slice (some ⟨w.heap.size, 0, none⟩) 0 0) 0 [] := World.ownsRow_made w #[] 0 (Nat.le_refl _) (by decide) rfl
    have hrd2 := hrd.below (balloc (Below.refl _ w) (.cells #[] 60))
    go_enter Tryz.func115, Tryz.ntmps115
    go_wp2_with (at_builtin; go_must (refine wpList_apps rfl _ _ 119 rfl w.heap.size 60 _ 1 2 Tryz.underlying119 infoC16 rfl (by decide) (by decide) _ 0 [] rfl ho0 _ n (kV .u16 bs) rfl hrd2 (kV_one _ bs) (by omega) (by simp) ?_); intro v' w1 ho1 hb1 _ _ _)
    go_ret
    exact ⟨_, rfl, by simpa using ho1, (balloc (Below.refl _ w) _).trans hb1⟩
end Go.Proofs.YtcdobdjemlaaaaaGreat
