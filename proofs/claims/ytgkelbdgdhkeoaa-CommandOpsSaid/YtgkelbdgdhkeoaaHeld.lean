/- 'out = append(out, y...)' as one operation, wherever it stands: in a plain region, or as a step of a region that draws. -/
import Derived.Deep.RegionHeld3
import Derived.Test.YtgkelbdgdhkeoaaStill
namespace Go.Proofs.Ytgkelbdgdhkeoaa
open Go.RowKit
set_option linter.unusedVariables false

theorem wp_apps {P : Program} {o : Oper} {a : Act} {K : Act → World → Prop} {Q : Exit → Act → World → Prop} {w : World} (s x : Operand) (t : TypeId)
    (ho : o.op = .call { callee := .builtin .append, args := #[s, x], argTypes := #[t, t] })
    (base : Nat) (e : TypeId) (z : Value) (size bytes : Nat) (ht : P.underlying t = some (.slice e)) (hinfo : (P.info? e).map (fun i => (i.zero, i.size, i.bytes)) = some (some z, size, bytes))
    (hzs : z.cells.size = size) (hsz : 0 < size) (hby : 0 < bytes)
    (v : Value) (n : Nat) (xs : List Value) (hs : a.eval s = v) (hown : w.ownsRow base e size v n xs)
    (u : Value) (m : Nat) (news : List Value) (hx : a.eval x = u) (hrd : Rd w size u m news) (h1 : ∀ u ∈ news, u.oneCell' = true)
    (hbytes : (n + m) * bytes ≤ 140737488355328) (hbase : base ≤ w.heap.size)
    (h : ∀ v' w', w'.ownsRow base e size v' (n + m) (xs ++ news) → Below base w w' → w.grownBy w' v.ownBlock → SameOrNew w v v' → (v' = .slice none 0 0 ↔ v = .slice none 0 0 ∧ m = 0) → K (a.put o.dst v') w') :
    o.wp P a w K Q := by
  obtain ⟨i0, hi, hz0, hz1, hz2⟩ := info_parts hinfo
  have hn1 : n + m ≤ maxLen := by
    have : n + m ≤ (n + m) * bytes := Nat.le_mul_of_pos_right _ hby
    unfold maxLen; omega
  obtain ⟨ao, cap, rfl, hl, hm, hcap, hc⟩ := hrd
  cases ao with
  | none =>
    obtain rfl := hcap.1 rfl
    have hnews : news = [] := by
      cases news with
      | nil => rfl
      | cons y ys => obtain ⟨b, off, h0, _⟩ := hc 0 y rfl; cases h0
    subst hnews
    have hm0 : m = 0 := by
      rcases Nat.eq_zero_or_pos m with h | h
      · exact h
      · have := Nat.mul_pos h hsz; simp at hl; omega
    subst hm0
    have hrun := run_append_owned_none (P := P) w base t o.type e i0 size ht hi v n xs hown
    unfold Oper.wp
    simp [execOp, ho, resolve, invoke, builtin, hs, hx, hrun, Result.andThen]
    exact h v w (by simpa using hown) (Below.refl _ _) (World.grownBy.refl _ _) (.inl rfl) (by simp)
  | some ad =>
    by_cases hm0 : m = 0
    · subst hm0
      have hnews : news = [] := List.eq_nil_of_length_eq_zero (by simpa using hl)
      subst hnews
      refine wp_app _ s x t ho base e i0 z size bytes ht hi hz0 hz1 hz2 hzs hsz v n xs hs hown ad 0 cap [] hx (by simp) (fun j u hj => by simp at hj) (by simp) hn1 hbytes hbase ?_
      intro v' w' ho' hg hsn hne
      exact h v' w' ho' ((Below.refl base w).grown hg hbase (fun k hk => (hown.lt k hk).1)) hg hsn hne
    · have hpos : 0 < news.length := by rw [hl]; exact Nat.mul_pos (by omega) hsz
      obtain ⟨b, off, hb0, _⟩ := hc 0 news[0] (List.getElem?_eq_getElem hpos)
      obtain rfl := Option.some.inj hb0
      refine wp_app _ s x t ho base e i0 z size bytes ht hi hz0 hz1 hz2 hzs hsz v n xs hs hown ⟨b, off, none⟩ m cap news hx hl ?_ h1 hn1 hbytes hbase ?_
      · intro j u hj
        obtain ⟨b', off', hb1, _, hcell⟩ := hc j u hj
        obtain ⟨rfl, rfl⟩ : b = b' ∧ off = off' := by simpa using hb1
        rw [Addr.add_lit]
        exact hcell
      · intro v' w' ho' hg hsn hne
        exact h v' w' ho' ((Below.refl base w).grown hg hbase (fun k hk => (hown.lt k hk).1)) hg hsn hne
end Go.Proofs.Ytgkelbdgdhkeoaa
