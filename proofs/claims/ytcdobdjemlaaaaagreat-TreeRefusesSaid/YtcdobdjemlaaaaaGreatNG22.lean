import Derived.Test.YtcdobdjemlaaaaaGreatNG21
set_option linter.unusedVariables false
set_option linter.unusedSimpArgs false
/- slices.Delete at uint64, walked. -/
namespace Go.Proofs.YtcdobdjemlaaaaaGreat
open Go.RowKit Go.Maps Wire
set_option linter.unusedVariables false
set_option linter.unusedSimpArgs false
theorem mods_grown {w w' : World} {g : Nat} (h : w.grownBy w' (some g)) : Mods [g] w w' := ⟨h.os, h.tape, h.output, h.size, fun i hi hne => h.block i hi (fun e => hne (by simp [Option.some.inj e]))⟩
theorem wp_fit {P : Program} {o : Oper} {a : Act} {K : Act → World → Prop} {Q : Exit → Act → World → Prop} {w : World} (s x : Operand) (t : TypeId)
  (hop : o.op = Op.call { callee := Callee.builtin Builtin.append, args := #[s, x], argTypes := #[t, t] })
  (base : Nat) (e : TypeId) (i : TypeInfo) (size : Nat) (h1 : P.underlying t = some (.slice e)) (h2 : P.info? e = some i) (h4 : i.size = size)
  (g k cap : Nat) (xs : List Value) (hs : a.eval s = .slice (some ⟨g, 0, none⟩) k cap) (hown : w.ownsRow base e size (.slice (some ⟨g, 0, none⟩) k cap) k xs) (ao : Option Addr) (m c : Nat) (news : List Value) (hx : a.eval x = .slice ao m c) (hn : news.length = m * size)
  (hao : ∃ ad, ao = some ad ∧ ∀ j u, news[j]? = some u → w.cell? (ad.add j) = some u) (h1c : ∀ u ∈ news, u.oneCell' = true) (b1 : k + m ≤ cap)
  (hK : ∀ w', w'.ownsRow base e size (.slice (some ⟨g, 0, none⟩) (k + m) cap) (k + m) (xs ++ news) → w.grownBy w' (some g) → K (a.put o.dst (.slice (some ⟨g, 0, none⟩) (k + m) cap)) w') :
  o.wp P a w K Q := by
 obtain ⟨ad, rfl, hc⟩ := hao
 obtain ⟨w', hrun, r1, r2⟩ := run_append_fits (P := P) w base t o.type e i size h1 h2 h4 g k cap xs hown ad m c news hn hc h1c b1
 unfold Oper.wp
 simp [execOp, hop, resolve, invoke, builtin, hs, hx, hrun, Result.andThen]
 exact hK w' r1 r2
set_option maxRecDepth 100000 in
set_option maxHeartbeats 6400000 in
theorem del64 {w : World} {base n : Nat} {v : Value} {xs : List Nat} (h : w.ownsRow base 23 1 v n (qV xs)) (hn : n ≤ 1000) (i : Nat) (hi : i < n) :
  Calls Tryz.prog 135 #[v, .int .i64 (i : Int), .int .i64 ((i + 1 : Nat) : Int)] w fun e w' => ∃ v', e = .returned v' ∧ w'.ownsRow base 23 1 v' (n - 1) (qV (xs.eraseIdx i)) ∧ ob v' = ob v ∧ Mods (ob v) w w' := by
 obtain ⟨g, c, cur, rfl, hg0, hgl, hnc, hcm, hx, hsz, htk⟩ := rowSome h (by omega)
 have hi1 : (i : Int) < ((i + 1 : Nat) : Int) := by omega
 have hin : ((i + 1 : Nat) : Int) ≤ (n : Int) := by omega
 have hne : ((i : Int) == ((i + 1 : Nat) : Int)) = false := by simp; omega
 have HX := Lib.hid hx
 have HTK := Lib.hid htk
 have HXL : Hid (xs.length = n) := Lib.hid (by have := h.1; rw [qV_len] at this; omega)
 have HEL : Hid ((xs.eraseIdx i).length = (n - 1) * 1) := Lib.hid (by rw [List.length_eraseIdx, HXL.out, if_pos hi]; omega)
 have HEQ : Hid (qV (xs.take i) ++ qV (xs.drop (i + 1)) = qV (xs.eraseIdx i)) := Lib.hid (by rw [List.eraseIdx_eq_take_drop_succ]; simp [qV])
 have HRA : Hid (∀ X, Below w.heap.size w X → X.ownsRow base 23 1 (.slice (some ⟨g, 0, none⟩) i c) i (qV (xs.take i))) := Lib.hid (fun X hX => by
  refine ⟨by rw [qV_len, List.length_take, HXL.out]; omega, .inr ⟨g, c, cur, rfl, hg0, (hX.block _ hgl).trans HX.out, by omega, hcm, hsz, ?_⟩⟩
  have e : qV (xs.take i) = (qV xs).take i := by simp [qV, List.map_take]
  rw [e, ← HTK.out, List.take_take, Nat.mul_one, Nat.mul_one, Nat.min_eq_left (by omega)])
 have HLB : Hid ((qV (xs.drop (i + 1))).length = (n - (i + 1)) * 1) := Lib.hid (by rw [qV_len, List.length_drop, HXL.out]; omega)
 have HRB : Hid (∀ X, Below w.heap.size w X → ∃ ad, (if c = i + 1 then some (⟨g, 0, none⟩ : Addr) else some ⟨g, i + 1, none⟩) = some ad ∧ ∀ (j : Nat) (u : Value), (qV (xs.drop (i + 1)))[j]? = some u → X.cell? (ad.add j) = some u) := Lib.hid (fun X hX => by
  by_cases hce : c = i + 1
  ·refine ⟨_, if_pos hce, fun j u hu => ?_⟩
   have h1 := (List.getElem?_eq_some_iff.1 hu).1
   rw [HLB.out] at h1
   omega
  ·refine ⟨_, if_neg hce, fun j u hu => ?_⟩
   have e : qV (xs.drop (i + 1)) = (qV xs).drop (i + 1) := by simp [qV, List.map_drop]
   rw [e, List.getElem?_drop, ← HTK.out, List.getElem?_take] at hu
   split at hu
   ·rw [Addr.add_lit]
    exact cellOf ((hX.block _ hgl).trans HX.out) (i + 1 + j) (by simpa using hu)
   ·cases hu)
 have HFT : Hid (i + (n - (i + 1)) ≤ c) := Lib.hid (by omega)
 clear htk hx
 go_enter Tryz.func135, Tryz.ntmps135
 go_upto_region 5 with fail
 have q1 : (0 : Int) ≤ (i : Int) + 1 := by omega
 have q2 : (i : Int) + 1 ≤ (n : Int) := by omega
 have q3 : (i : Int) ≤ (c : Int) := by omega
 have q4 : (0 : Int) ≤ (i : Int) := by omega
 have HSS : Hid (∀ X, Mods [g] w X → (True) ∧ Mods [g] w X) := Lib.hid (fun X hb => ⟨trivial, hb⟩)
 refine wp_region_held_drew (S := fun X => (True) ∧ Mods [g] w X) (by kernel_rfl) (HSS.out _ (Mods.of_below (Below.refl _ _).drew)) (fun hHeld => ?_)
 have hbe : Below w.heap.size w w.drew := (Below.refl _ _).drew
 obtain ⟨wd, hwd⟩ : ∃ y, w.drew = y := ⟨_, rfl⟩
 rw [hwd] at hHeld hbe ⊢
 have HBE := Lib.hid hbe
 have HS0 : Hid (w.heap.size ≤ wd.heap.size) := Lib.hid HBE.out.size
 clear hwd hbe
 refine wpAnyH_take (i := 0) (v := ?_) rfl (by kernel_rfl) (by kernel_rfl) (by kernel_rfl) (fun _ _ _ h => h) (Or.inl ⟨by rfl, ?_⟩) (by assumption) ?_
 rotate_left
 ·(intro w hSw; (try dsimp only at hSw); simp only [List.getElem_toArray, List.getElem_cons_zero, List.getElem_cons_succ]; go_simp; first | done | with_reducible rfl)
 simp only [List.getElem_toArray, List.getElem_cons_zero, List.getElem_cons_succ, Act.put, List.setIfInBounds_toArray, List.set_cons_zero, List.set_cons_succ]
 refine wpAnyH_take (i := 1) (v := ?_) rfl (by kernel_rfl) (by kernel_rfl) (by kernel_rfl) (fun _ _ _ h => h) (Or.inl ⟨by rfl, ?_⟩) (by assumption) ?_
 rotate_left
 ·(intro w hSw; (try dsimp only at hSw); simp only [List.getElem_toArray, List.getElem_cons_zero, List.getElem_cons_succ]; go_simp; first | done | with_reducible rfl)
 simp only [List.getElem_toArray, List.getElem_cons_zero, List.getElem_cons_succ, Act.put, List.setIfInBounds_toArray, List.set_cons_zero, List.set_cons_succ]
 refine wpAnyH_take (i := 3) (v := ?_) rfl (by kernel_rfl) (by kernel_rfl) (by kernel_rfl) (fun _ _ _ h => h) (Or.inl ⟨by rfl, ?_⟩) (by assumption) ?_
 rotate_left
 ·(intro w hSw; (try dsimp only at hSw); simp only [List.getElem_toArray, List.getElem_cons_zero, List.getElem_cons_succ]; go_simp; first | done | with_reducible rfl)
 simp only [List.getElem_toArray, List.getElem_cons_zero, List.getElem_cons_succ, Act.put, List.setIfInBounds_toArray, List.set_cons_zero, List.set_cons_succ]
 refine wpAnyH_take (i := 4) (v := ?_) rfl (by kernel_rfl) (by kernel_rfl) (by kernel_rfl) (fun _ _ _ h => h) (Or.inl ⟨by rfl, ?_⟩) (by assumption) ?_
 rotate_left
 ·(intro w hSw; (try dsimp only at hSw); simp only [List.getElem_toArray, List.getElem_cons_zero, List.getElem_cons_succ]; go_simp; first | done | with_reducible rfl)
 simp only [List.getElem_toArray, List.getElem_cons_zero, List.getElem_cons_succ, Act.put, List.setIfInBounds_toArray, List.set_cons_zero, List.set_cons_succ]
 refine wpAnyH_take (i := 2) (v := ?_) rfl (by kernel_rfl) (by kernel_rfl) (by kernel_rfl) (fun _ _ _ h => h) (Or.inl ⟨by rfl, ?_⟩) (by assumption) ?_
 rotate_left
 ·(intro w hSw; (try dsimp only at hSw); simp only [List.getElem_toArray, List.getElem_cons_zero, List.getElem_cons_succ]; go_simp; first | done | with_reducible rfl)
 simp only [List.getElem_toArray, List.getElem_cons_zero, List.getElem_cons_succ, Act.put, List.setIfInBounds_toArray, List.set_cons_zero, List.set_cons_succ]
 refine wpAnyH_take (i := 5) (v := ?_) rfl (by kernel_rfl) (by kernel_rfl) (by kernel_rfl) (fun _ _ _ h => h) (Or.inl ⟨by rfl, ?_⟩) (by assumption) ?_
 rotate_left
 ·(intro w hSw; (try dsimp only at hSw); simp only [List.getElem_toArray, List.getElem_cons_zero, List.getElem_cons_succ]; go_simp; first | done | with_reducible rfl)
 simp only [List.getElem_toArray, List.getElem_cons_zero, List.getElem_cons_succ, Act.put, List.setIfInBounds_toArray, List.set_cons_zero, List.set_cons_succ]
 refine wpAnyH_ready (rs := [6]) (by kernel_rfl) (by simp) ?_
 refine AllReadyH.cons rfl (fun K hK => ?_) (AllReadyH.nil)
 simp only [List.getElem_toArray, List.getElem_cons_zero, List.getElem_cons_succ]
 rw [if_pos (by rfl)]
 refine wp_fit _ _ 38 rfl base 23 _ 1 Tryz.underlying38 rfl rfl g i c (qV (xs.take i)) (by rfl) (HRA.out _ HBE.out) (if c = i + 1 then some ⟨g, 0, none⟩ else some ⟨g, i + 1, none⟩) (n - (i + 1)) (c - (i + 1)) (qV (xs.drop (i + 1))) (by rfl) HLB.out (HRB.out _ HBE.out) (qV_one _) HFT.out ?_
 intro w6 ho6 hg6
 refine hK.out _ _ ?_ (fun hHeld => ?_)
 ·exact HSS.out _ ((Mods.of_below HBE.out).trans (mods_grown hg6) (fun i hi => .inl hi))
 clear hK K
 try simp only [Act.put, List.setIfInBounds_toArray, List.set_cons_zero, List.set_cons_succ]
 have HO6 := Lib.hid ho6
 have HG6 := Lib.hid (mods_grown hg6)
 clear ho6 hg6
 refine wpAnyH_take (i := 7) (v := ?_) rfl (by kernel_rfl) (by kernel_rfl) (by kernel_rfl) (fun _ _ _ h => h) (Or.inl ⟨by rfl, ?_⟩) (by assumption) ?_
 rotate_left
 ·(intro w hSw; (try dsimp only at hSw); simp only [List.getElem_toArray, List.getElem_cons_zero, List.getElem_cons_succ]; go_simp; first | done | with_reducible rfl)
 simp only [List.getElem_toArray, List.getElem_cons_zero, List.getElem_cons_succ, Act.put, List.setIfInBounds_toArray, List.set_cons_zero, List.set_cons_succ]
 refine wpAnyH_done (by kernel_rfl) ?_ _
 have HEND := Lib.hid hHeld.2
 have HSE := Lib.hid hHeld.1
 clear hHeld
 clear HSS HSE HEND
 obtain ⟨m, hm⟩ : ∃ m, i + (n - (i + 1)) = m := ⟨_, rfl⟩
 rw [hm] at HO6 ⊢
 obtain rfl : n = m + 1 := by omega
 clear hm
 have ho := HO6.out
 rcases ho with ⟨hl6, ⟨h0, _⟩ | ⟨g6, c6, cur6, he6, hb6, hx6, hn6, hc6, hz6, ht6⟩⟩
 ·cases h0
 ·obtain ⟨ha6, _, rfl⟩ := Value.slice.inj he6
  obtain rfl : g = g6 := (Addr.mk.inj (Option.some.inj ha6)).1
  have hcl := fun ty => Lib.run_clear_slice (P := Tryz.prog) w6 38 23 ty (.int .u64 0) Tryz.underlying38 zeroU64 rfl rfl g m 1 (c - m) (by decide) (fun j hj => by
   obtain rfl : j = 0 := by omega
   obtain ⟨u, hu⟩ : ∃ u, cur6[m]? = some u := ⟨_, Array.getElem?_eq_getElem (by omega)⟩
   rw [Nat.add_zero, cellOf hx6 m hu]
   rfl) (fun j hj => frozenOf hx6 (m + j))
  have p1 : (m : Int) ≤ (m : Int) + 1 := by omega
  have p2 : (m : Int) + 1 ≤ (c : Int) := by omega
  have p3 : (0 : Int) ≤ (m : Int) := by omega
  have p4 : ¬ c = m := by omega
  have HX6 := Lib.hid hx6
  have HT6 := Lib.hid (And.intro ht6 (And.intro hz6 hl6))
  clear ht6 hl6 he6 hx6 hz6
  go_wp2_with (simp only [hcl])
  all_goals (
   go_ret
   obtain ⟨ht6, hz6, hl6⟩ := HT6.out
   refine ⟨_, rfl, ⟨by rw [qV_len, HEL.out, Nat.add_sub_cancel], .inr ⟨g, c, cur6.setIfInBounds m (.int .u64 0), (by first | rfl | (congr 1; omega) | simp_all), hb6, setOf HX6.out m (.int .u64 0), by omega, hc6, by rw [Array.size_setIfInBounds]; exact hz6, ?_⟩⟩, rfl, ?_⟩
   ·rw [Array.toList_setIfInBounds, Nat.mul_one, List.take_set_of_le (Nat.le_refl m)]
    rw [Nat.mul_one] at ht6
    rw [ht6, HEQ.out]
   ·exact ((Mods.of_below HBE.out).trans HG6.out (fun i hi => .inl hi)).setCell (p := ⟨g, m, none⟩) (List.mem_singleton.2 rfl) _)
end Go.Proofs.YtcdobdjemlaaaaaGreat
