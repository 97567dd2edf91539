/- The methods of count.Area, walked: Grow. -/
import Derived.Deep.RegionLawGrows
import Derived.Test.YtgokaoajpidhnaaCount6
namespace Go.Proofs.Ytgokaoajpidhnaa
open Go.RowKit
set_option linter.unusedVariables false

set_option maxRecDepth 100000 in
set_option maxHeartbeats 400000 in
theorem clip_any (g n cap : Nat) {w : World} (h : n ≤ cap) (hm : cap ≤ maxLen) :
    Calls Try.prog 74 #[.slice (some ⟨g, 0, none⟩) n cap] w fun e w' => e = .returned (.slice (some ⟨g, 0, none⟩) n n) ∧ w' = w := by
  unfold maxLen at hm
  go_enter Try.func74, Try.ntmps74
  go_wp2
  go_ret
  exact ⟨rfl, rfl⟩

theorem step_clip {ops : Array Oper} {o : Oper} {a : Act} {w : World} {K : Act → World → Prop} {Q : Exit → Act → World → Prop} {E : Prop}
    (hg : o.guard = none) (x : Operand) (hop : o.op = Op.call { callee := Callee.value (.func 74), args := #[x], argTypes := #[47] })
    {g n cap : Nat} (hx : a.eval x = .slice (some ⟨g, 0, none⟩) n cap) (h1 : n ≤ cap) (h2 : cap ≤ maxLen) (hK : K (a.put o.dst (.slice (some ⟨g, 0, none⟩) n n)) w) :
    if Region.wanted o (yielded ops a.tmps) = true then Oper.wp Try.prog o a w K Q else E := by
  have hw : Region.wanted o (yielded ops a.tmps) = true := by simp [Region.wanted, hg]
  rw [if_pos hw]
  have he : a.eval (.func 74) = .func (.func 74) #[] #[] := rfl
  have hr : (execOp a.eval o).run Try.prog w = .ok (.enter 74 #[.slice (some ⟨g, 0, none⟩) n cap]) w := by
    simp [execOp, hop, resolve, invoke, Deferred.ofValue, he, hx]
  unfold Oper.wp
  rw [hr, Oper.upon_enter]
  refine (clip_any g n cap h1 h2).mono ?_
  rintro e w' ⟨rfl, rfl⟩
  exact hK

/-- A clipped row's append, as one step of a region that draws. -/
theorem step_clipped {ops : Array Oper} {o : Oper} {a : Act} {w : World} {K : Act → World → Prop} {Q : Exit → Act → World → Prop} {E : Prop}
    (hg : o.guard = none) (s x : Operand) (hop : o.op = Op.call { callee := Callee.builtin Builtin.append, args := #[s, x], argTypes := #[47, 47] })
    {g n m c cap b : Nat} {xs : List Nat} (row : Row 65 .u16 w g n cap xs) (hs : a.eval s = .slice (some ⟨g, 0, none⟩) n n)
    (hx : a.eval x = .slice (some ⟨b, 0, none⟩) m c) (hc : ∀ j, j < m → w.cell? ⟨b, j, none⟩ = some (.int .u16 0)) (h1 : n + m ≤ 1000)
    (hK : ∀ g' c' w', Row 65 .u16 w' g' (n + m) c' (xs ++ List.replicate m 0) → Below w.heap.size w w' → (g' = g ∨ w.heap.size ≤ g') → K (a.put o.dst (.slice (some ⟨g', 0, none⟩) (n + m) c')) w') :
    if Region.wanted o (yielded ops a.tmps) = true then Oper.wp Try.prog o a w K Q else E := by
  obtain ⟨i0, hi, hz0, hz1, hz2⟩ := info_parts infoU16
  have hrow := row
  obtain ⟨cs, hh, hl, hn, hm, hcs, ht⟩ := hrow
  by_cases hm0 : m = 0
  · subst hm0
    refine step_append_room hg s x 47 hop 65 i0 1 Try.underlying47 hi hz1 g 0 n n hs ⟨b, 0, none⟩ 0 c [] hx (by simp) (fun j u hj => by simp at hj) (by simp) (by omega) (fun j hj => by simp at hj) ?_
    have hw : w.setCells g (0 + n * 1) [] = w := rfl
    rw [hw]
    refine hK g n w ?_ (Below.refl _ _) (.inl rfl)
    exact ⟨cs, hh, by simpa using hl, by omega, by omega, by omega, by simpa using ht⟩
  · have hne : ∀ (b' : Addr), (some ⟨g, 0, none⟩ : Option Addr) = some b' → ∀ j u, (kV .u16 xs)[j]? = some u → w.cell? (b'.add j) = some u := by
      rintro b' hb' j u hj
      obtain rfl := Option.some.inj hb'
      simp only [kV, List.getElem?_map, Option.map_eq_some_iff] at hj
      obtain ⟨k, hk, rfl⟩ := hj
      rw [Addr.add_lit, Nat.zero_add]
      exact row.cell hk
    refine step_append_grows hg s x 47 hop 65 i0 (.int .u16 0) 1 2 Try.underlying47 hi hz0 hz1 hz2 rfl (by decide) (some ⟨g, 0, none⟩) n n (kV .u16 xs) hs (fun e => by cases e) (by simp [kV_len, hl]) hne ⟨b, 0, none⟩ m c (kV .u16 (List.replicate m 0)) hx (by simp [kV_len]) ?_ (kV_one _ _) (by omega) (by unfold maxLen; omega) (by omega) ?_
    · intro j u hj
      simp only [kV, List.getElem?_map, Option.map_eq_some_iff, List.getElem?_replicate] at hj
      obtain ⟨k, hk, rfl⟩ := hj
      split at hk
      · rename_i hjm
        obtain rfl := Option.some.inj hk
        rw [Addr.add_lit, Nat.zero_add]
        exact hc j hjm
      · cases hk
    · intro v' w' ho hgr
      rw [← kV_app] at ho
      obtain ⟨g', c', rfl, hge, hr⟩ := own_row ho (by omega)
      exact hK g' c' w' hr ((Below.refl _ w).grown hgr (Nat.le_refl _) (fun k e => by cases e)) (.inr hge)

/-- What Grow leaves. -/
def growM (A : M) (m : Nat) : M := ⟨A.now ++ List.replicate m 0, A.was ++ List.replicate m 0, A.at_, A.at_⟩

set_option maxRecDepth 100000 in
set_option maxHeartbeats 1600000 in
theorem grow_out {w : World} {p : Nat} {A : M} {F : List Nat} (h : IA w p A F) (ok : A.Ok) (k : Int) (hk : k < A.now.length ∨ 1000 < k) :
    Calls Try.prog 51 #[pt p, .int .i64 k] w fun e w' => e = .returned (.int .i64 2) ∧ w' = w := by
  obtain ⟨g1, g2, c1, c2, rfl, h⟩ := h
  have L := len_any h
  have hpos := ok.pos
  have k0 := h.k0
  have hm := ok.max
  have hn0 : ((A.now.length : Int) == 0) = false := beq_eq_false_iff_ne.2 (by omega)
  unfold pt at L ⊢
  clear h
  by_cases h1 : k < A.now.length
  · clear hk
    go_enter Try.func51, Try.ntmps51
    go_wp2_with fail
    refine L.mono ?_
    rintro e w' ⟨rfl, rfl⟩
    go_wp2_with fail
    go_ret
    exact ⟨rfl, rfl⟩
  · have hk : 1000 < k := by omega
    go_enter Try.func51, Try.ntmps51
    go_wp2_with fail
    refine L.mono ?_
    rintro e w' ⟨rfl, rfl⟩
    go_wp2_with fail
    go_ret
    exact ⟨rfl, rfl⟩

theorem grow_left {w w0 w1 w2 : World} {p g1 g2 c1 c2 a ca b cb m n n' : Nat} {A : M} (h0 : IAt w0 p g1 g2 A.now.length c1 A.was.length c2 A) (hb0 : Below w.heap.size w w0) (hb1 : Below w0.heap.size w0 w1) (hb2 : Below w1.heap.size w1 w2)
    (r1 : Row 65 .u16 w1 a n ca (A.now ++ List.replicate m 0)) (ha : a = g1 ∨ w0.heap.size ≤ a) (r2 : Row 65 .u16 w2 b n' cb (A.was ++ List.replicate m 0)) (hb : b = g2 ∨ w1.heap.size ≤ b) :
    ∃ F', IA (((w2.setCell ⟨p, 0, none⟩ (.slice (some ⟨a, 0, none⟩) n ca)).setCell ⟨p, 1, none⟩ (.slice (some ⟨b, 0, none⟩) n' cb)).setCell ⟨p, 3, none⟩ (.int .i64 (A.at_ : Int))) p (growM A m) F' ∧
      Left [p, g1, g2] w (((w2.setCell ⟨p, 0, none⟩ (.slice (some ⟨a, 0, none⟩) n ca)).setCell ⟨p, 1, none⟩ (.slice (some ⟨b, 0, none⟩) n' cb)).setCell ⟨p, 3, none⟩ (.int .i64 (A.at_ : Int))) F' := by
  have s1 := hb1.size
  have s0 := hb0.size
  have q0 := h0.lt
  have q1 := h0.r1.lt
  have q2 := h0.r2.lt
  have n0 := h0.ne
  have n1 := h0.np1
  have n2 := h0.np2
  have l1 := r1.lt
  have e1 : (A.now ++ List.replicate m 0).length = n := by obtain ⟨_, _, hl, _⟩ := r1; exact hl
  have e2 : (A.was ++ List.replicate m 0).length = n' := by obtain ⟨_, _, hl, _⟩ := r2; exact hl
  have h2 := (h0.below hb1).below hb2
  have r1' := r1.same (hb2.block a l1)
  have x1 : a ≠ g2 := by omega
  have x2 : p ≠ a := by omega
  have x3 : a ≠ b := by omega
  have x4 : p ≠ b := by omega
  have hA := ((h2.putNow r1' x1 x2).putWas (r2.same (setOther _ _ (by simpa using Ne.symm x4))) x3 x4).setKept A.at_
  refine ⟨[p, a, b], ⟨a, b, ca, cb, rfl, ?_⟩, (((Mods.of_below (bthen (bthen hb0 hb1) hb2)).setCell (by simp) _).setCell (by simp) _).setCell (by simp) _, fun k hk => ?_⟩
  · simp only [growM, e1, e2]
    exact hA
  · simp only [List.mem_cons, List.not_mem_nil, or_false] at hk ⊢
    rcases hk with rfl | rfl | rfl
    · exact .inl (.inl rfl)
    · rcases ha with rfl | ha
      · exact .inl (.inr (.inl rfl))
      · exact .inr (by omega)
    · rcases hb with rfl | hb
      · exact .inl (.inr (.inr rfl))
      · exact .inr (by omega)

end Go.Proofs.Ytgokaoajpidhnaa
