/- Devices: what each operation's function answers and leaves, in one word. -/
import Derived.Test.YthkmihedkddnmaaDev17
import Derived.Test.YthkmihedkddnmaaDev14
namespace Go.Proofs.Ythkmihedkddnmaa
open Go.RowKit Go.Maps Wire Cmd
set_option linter.unusedVariables false
set_option linter.unusedSimpArgs false

/-- An answer's value. -/
def ansV (a : Ans0) (sv : Value) : Value := .agg #[.int .i64 a.code, .int .i64 a.done, sv]
/-- What an operation's function leaves: its answer (with its data in new memory), the device. -/
def PartP (n0 : Nat) (w : World) (B Ba : Nat) (l : List (Nat × (Vl × Nat))) (r : Ans0 × List (Nat × Vl)) (e : Ending) (w' : World) : Prop :=
  ∃ sv l', e = .returned (ansV r.1 sv) ∧ DevAt n0 w' B Ba l' ∧ strip l' = r.2 ∧ w'.ownsRow w.heap.size 5 1 sv r.1.data.length (bV r.1.data) ∧ Chg (dF Ba l) w w' (dF Ba l')
theorem PartP.plain {n0 : Nat} {w w' : World} {B Ba : Nat} {l l' : List (Nat × (Vl × Nat))} {c d : Int} {l2 : List (Nat × Vl)} (hd : DevAt n0 w' B Ba l') (hs : strip l' = l2) (hc : Chg (dF Ba l) w w' (dF Ba l')) : PartP n0 w B Ba l (⟨c, d, []⟩, l2) (.returned (ansE c d)) w' :=
  ⟨.slice none 0 0, l', rfl, hd, hs, World.ownsRow_nil _ _ _ _, hc⟩
theorem dF_put {Ba : Nat} {l : List (Nat × (Vl × Nat))} {n : Nat} {v : Vl} {b : Nat} : ∀ k ∈ dF Ba (putA n (v, b) l), k ∈ dF Ba l ∨ k = b := by
  intro k hk
  rcases List.mem_cons.1 hk with rfl | hk
  · exact .inl (List.mem_cons_self ..)
  · obtain ⟨p, hp, rfl⟩ := List.mem_map.1 hk
    rcases mem_putA hp with rfl | hp
    · exact .inr rfl
    · exact .inl (List.mem_cons_of_mem _ (List.mem_map.2 ⟨p, hp, rfl⟩))
theorem dF_mem {Ba : Nat} {l : List (Nat × (Vl × Nat))} {n : Nat} {x : Vl × Nat} (hg : getA n l = some x) : x.2 ∈ dF Ba l := List.mem_cons_of_mem _ (List.mem_map.2 ⟨_, getA_some hg, rfl⟩)
theorem strip_put (n : Nat) (v : Vl) (b : Nat) (l : List (Nat × (Vl × Nat))) : strip (putA n (v, b) l) = putA n v (strip l) := (putA_map (fun x : Vl × Nat => x.1) n (v, b) l).symm
theorem strip_del (n : Nat) (l : List (Nat × (Vl × Nat))) : strip (delA n l) = delA n (strip l) := (delA_map _ _ _).symm
/-- An operation that is not refused may be; and where it wants a volume there is one. -/
theorem ref0_may {l : List (Nat × Vl)} {o : Op0} (h : refD l o = 0) : mayO o = true := by
  cases hm : mayO o with
  | true => rfl
  | false => unfold refD at h; rw [if_pos hm] at h; omega
theorem ref0_vol {l : List (Nat × Vl)} {o : Op0} (h : refD l o = 0) (h8 : o.k ≠ 8) (h1 : o.k ≠ 1) : ∃ v, getA o.vol l = some v := by
  cases hg : getA o.vol l with
  | some v => exact ⟨v, rfl⟩
  | none =>
    unfold refD at h
    rw [if_neg (by rw [ref0_may h]; simp), if_neg h8, if_neg h1, hg] at h
    cases h
theorem ref0_row {l : List (Nat × Vl)} {o : Op0} (h : refD l o = 0) (hk : o.k = 5 ∨ o.k = 6 ∨ o.k = 9) {v : Vl} (hg : getA o.vol l = some v) : o.pl + rowC o ≤ 4 * (v.size : Int) := by
  unfold refD at h
  rw [if_neg (by rw [ref0_may h]; simp), if_neg (by omega), if_neg (by omega), hg] at h
  dsimp only at h
  rw [if_neg (by omega), if_pos hk] at h
  split at h <;> omega
/-- The function of a kind. -/
def fnK (k : Int) : Nat :=
  if k = 1 then 23 else if k = 2 then 24 else if k = 3 then 25 else if k = 4 then 26
  else if k = 5 ∨ k = 6 then 27 else if k = 7 then 28 else 29
theorem dop_at (n0 : Nat) (w : World) (B Ba : Nat) (l : List (Nat × (Vl × Nat))) (h : DevAt n0 w B Ba l) (o : Op0) (ok : o.Ok) (ao : Option Addr) (cap : Nat) (b : Int) (hbb : -9223372036854775808 ≤ b ∧ b ≤ 9223372036854775807)
    (hd : Rd w 1 (.slice ao o.data.length cap) o.data.length (bV o.data)) (hr : refD (strip l) o = 0) (h8 : o.k ≠ 8) :
    Calls Try.prog (fnK o.k) #[.pointer (some ⟨B, 0, none⟩), .agg (oC o (.slice ao o.data.length cap)), .int .i64 b] w fun e w' => PartP n0 w B Ba l (stepD (strip l) o b) e w' := by
  have hmay := ref0_may hr
  have hn : o.data.length ≤ 9223372036854775807 := by obtain ⟨_, _, _, _, hm, _⟩ := hd; unfold maxLen at hm; omega
  have hkind := may_kind hmay
  unfold stepD fnK
  rw [if_neg (show ¬ (refD (strip l) o ≠ 0) from by omega)]
  by_cases h1 : o.k = 1
  · rw [if_pos h1, if_pos h1]
    refine (dcreate_at n0 w B Ba l h o ao cap b hn hmay h1).mono fun e w' ⟨he, b', hd', hm, hb'⟩ => ?_
    subst he
    refine PartP.plain hd' (strip_put _ _ _ _) ⟨hm.mono (by intro k hk; rw [List.mem_singleton.1 hk]; exact List.mem_cons_self ..), fun k hk => ?_⟩
    rcases dF_put k hk with h | rfl
    · exact .inl h
    · exact .inr hb'
  rw [if_neg h1, if_neg h1]
  by_cases h2 : o.k = 2
  · rw [if_pos h2, if_pos h2]
    refine (ddrop_at n0 w B Ba l h o ao o.data.length cap b ok.vol).mono fun e w' ⟨he, hd', hm⟩ => ?_
    subst he
    refine PartP.plain hd' (strip_del _ _) ⟨hm.mono (by intro k hk; rw [List.mem_singleton.1 hk]; exact List.mem_cons_self ..), fun k hk => .inl ?_⟩
    rcases List.mem_cons.1 hk with rfl | hk
    · exact List.mem_cons_self ..
    · obtain ⟨p, hp, rfl⟩ := List.mem_map.1 hk
      exact List.mem_cons_of_mem _ (List.mem_map.2 ⟨p, (List.mem_filter.1 hp).1, rfl⟩)
  rw [if_neg h2, if_neg h2]
  obtain ⟨v, hv⟩ := ref0_vol hr h8 h1
  obtain ⟨x, hg, rfl⟩ : ∃ x, getA o.vol l = some x ∧ x.1 = v := by
    rw [getA_strip] at hv
    obtain ⟨x, hx, e⟩ := Option.map_eq_some_iff.1 hv
    exact ⟨x, hx, e⟩
  rw [hv]
  dsimp only
  have hput : ∀ {w' : World} {m : List (Nat × List UInt8)} {s : Nat} {F : List Nat}, Mods F w w' → (∀ k ∈ F, k ∈ dF Ba l) → Chg (dF Ba l) w w' (dF Ba (putA o.vol (⟨s, m⟩, x.2) l)) := fun hm hF =>
    ⟨hm.mono hF, fun k hk => by
      rcases dF_put k hk with h | rfl
      · exact .inl h
      · exact .inl (dF_mem hg)⟩
  have h1x : ∀ k ∈ [x.2], k ∈ dF Ba l := fun k hk => by rw [List.mem_singleton.1 hk]; exact dF_mem hg
  by_cases h3 : o.k = 3
  · rw [if_pos h3, if_pos h3]
    refine (dresize_at n0 w B Ba l h o ao cap b hn hmay h3 x hg).mono fun e w' ⟨he, hd', hm⟩ => ?_
    subst he
    exact PartP.plain hd' (strip_put _ _ _ _) (hput hm (fun k hk => by
      rcases List.mem_cons.1 hk with rfl | hk
      · exact List.mem_cons_self ..
      · exact h1x k hk))
  rw [if_neg h3, if_neg h3]
  by_cases h4 : o.k = 4
  · rw [if_pos h4, if_pos h4]
    refine (dsnap_at n0 w B Ba l h o ao cap b hn hmay h4 x hg).mono fun e w' ⟨he, b', hd', hm, hb'⟩ => ?_
    subst he
    refine PartP.plain hd' (strip_put _ _ _ _) ⟨hm.mono (by intro k hk; rw [List.mem_singleton.1 hk]; exact List.mem_cons_self ..), fun k hk => ?_⟩
    rcases dF_put k hk with h | rfl
    · exact .inl h
    · exact .inr hb'
  rw [if_neg h4, if_neg h4]
  by_cases h5 : o.k = 5 ∨ o.k = 6
  · rw [if_pos h5, if_pos h5]
    refine (dput_at n0 w B Ba l h o ao cap b hd hmay h5 x hg (ref0_row hr (by omega) hv) hbb).mono fun e w' ⟨he, hd', hm⟩ => ?_
    subst he
    unfold putR
    split
    · exact PartP.plain hd' (strip_put _ _ _ _) (hput hm h1x)
    · exact PartP.plain hd' (strip_put _ _ _ _) (hput hm h1x)
  rw [if_neg h5, if_neg h5]
  by_cases h7 : o.k = 7
  · rw [if_pos h7, if_pos h7]
    refine (ddiscard_at n0 w B Ba l h o ao cap b hn hmay h7 x hg).mono fun e w' ⟨he, hd', hm⟩ => ?_
    subst he
    exact PartP.plain hd' (strip_put _ _ _ _) (hput hm h1x)
  rw [if_neg h7, if_neg h7]
  have h9 : o.k = 9 := by omega
  rw [if_pos h9]
  have hrow := ref0_row hr (by omega) hv
  have hrc : rowC o = o.count := by unfold rowC; rw [if_neg (by omega)]
  rw [hrc] at hrow
  refine (dread_at n0 w B Ba l h o ao cap b hn hmay h9 x hg hrow).mono fun e w' ⟨sv, he, ho, hb⟩ => ?_
  exact ⟨sv, l, he, h.below hb, rfl, ho, Chg.of_below hb⟩
end Go.Proofs.Ythkmihedkddnmaa
