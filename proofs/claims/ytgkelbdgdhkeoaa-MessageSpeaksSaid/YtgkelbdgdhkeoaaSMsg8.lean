/- An item's values, walked. -/
import Derived.Test.YtgkelbdgdhkeoaaSMsg3
import Derived.Test.YtgkelbdgdhkeoaaSMsg7
namespace Go.Proofs.Ytgkelbdgdhkeoaa
open Go.RowKit
set_option linter.unusedVariables false
set_option linter.unusedSimpArgs false
open Wire Cmd
/-- Values in a row that is new. -/
def RowV (B : Nat) (W : World) (v : Value) (l : List V) : Prop := ∃ xs, W.ownsRow B 20 1 v l.length xs ∧ ∀ (j : Nat) (x : V), l[j]? = some x → ∃ u, xs[j]? = some u ∧ AnyO 0 W u x
theorem RowV.below {B : Nat} {W W' : World} {v : Value} {l : List V} (h : RowV B W v l) (hb : Below W.heap.size W W') : RowV B W' v l := by
 obtain ⟨xs, ho, hx⟩ := h
 refine ⟨xs, ownsRow_below ho hb, fun j x hj => ?_⟩
 obtain ⟨u, h1, h2⟩ := hx j x hj
 exact ⟨u, h1, h2.below hb⟩
theorem lit_rows (W0 : World) (u0 : Value) (A : List Value) (n : Nat) (hA : A.length = n) (hn : n ≤ 10) :
  ((W0.alloc (.cells #[u0] 20)).alloc (.cells A.toArray 20)).ownsRow W0.heap.size 20 1 (.slice (some ⟨W0.heap.size, 0, none⟩) 1 1) 1 [u0] ∧
  Rd ((W0.alloc (.cells #[u0] 20)).alloc (.cells A.toArray 20)) 1 (.slice (some ⟨W0.heap.size + 1, 0, none⟩) n n) n A := by
 refine ⟨ownsRow_below (own_new W0 W0.heap.size (Nat.le_refl _) 20 [u0] 1 rfl) (balloc (Below.refl _ _) _), ?_⟩
 have h := own_newN (W0.alloc (.cells #[u0] 20)) 0 (Nat.zero_le _) 20 A 1 n (by rw [hA, Nat.mul_one]) hn
 rw [World.size_alloc] at h
 exact Rd.of_own h
theorem oany_blk (w : World) (l : List UInt8) (h : l.length = 256) : AnyO 0 w (.iface 77 (bA l)) (blk l) := .inr (.inr (.inr ⟨rfl, rfl, h⟩))
theorem rowV_of {B n : Nat} {W : World} {v : Value} {l : List V} {xs : List Value} (ho : W.ownsRow B 20 1 v n xs) (hn : l.length = n) (hx : ∀ (j : Nat) (x : V), l[j]? = some x → ∃ u, xs[j]? = some u ∧ AnyO 0 W u x) : RowV B W v l := ⟨xs, by rw [hn]; exact ho, hx⟩
/-- The makers of own values. -/
theorem oany_num (w : World) (n : Nat) (h : n < 18446744073709551616) : AnyO 0 w (.iface 23 (.int .u64 (n : Int))) (num n) := .inl ⟨rfl, rfl, h⟩
theorem oany_flag (w : World) (y : Bool) : AnyO 0 w (.iface 4 (.bool y)) (flag y) := .inr (.inl ⟨rfl, rfl⟩)
theorem oany_blob (w : World) (sl : Value) (l : List UInt8) (h : w.ownsRow 0 5 1 sl l.length (bV l)) : AnyO 0 w (.iface 24 sl) (blob l) := .inr (.inr (.inl ⟨rfl, sl, rfl, h⟩))
inductive AnyL (w : World) : List Value → List V → Prop
 | nil : AnyL w [] []
 | cons {u : Value} {us : List Value} {x : V} {xs : List V} : AnyO 0 w u x → AnyL w us xs → AnyL w (u :: us) (x :: xs)
theorem AnyL.get {w : World} {us : List Value} {xs : List V} (h : AnyL w us xs) : ∀ (j : Nat) (x : V), xs[j]? = some x → ∃ u, us[j]? = some u ∧ AnyO 0 w u x := by
 induction h with
 | nil => intro j x hj; simp at hj
 | cons hu _ ih =>
  intro j x hj
  cases j with
  | zero => simp at hj; subst hj; exact ⟨_, rfl, hu⟩
  | succ j => obtain ⟨u, h1, h2⟩ := ih j x (by simpa using hj); exact ⟨u, by simpa using h1, h2⟩
set_option maxRecDepth 100000 in
set_option maxHeartbeats 6400000 in
theorem valI_any (i : It0) (ok : i.Ok) (sl : Value) (w : World) (hd : Rd w 1 sl i.op.data.length (bV i.op.data)) (hl : i.op.data.length ≤ 1000000) :
  Calls Try.prog 147 #[.agg (itL i sl).toArray] w fun e w' => ∃ v, e = .returned v ∧ RowV w.heap.size w' v (valI i) ∧ Below w.heap.size w w' := by
 have HD := Lib.hid hd
 have HOK := Lib.hid ok
 obtain ⟨AL, hAL⟩ : ∃ L, itL i sl = L := ⟨_, rfl⟩
 have HAT : Hid (∀ u, ItAt ((w.alloc (.cells AL.toArray 79)).alloc (.cells #[u] 20)) w.heap.size 0 i sl) := Lib.hid (fun u => it_at (World.rangeAt_alloc (by rw [hAL]; exact range_new w _ AL) _) ok.data)
 have HA0 : Hid (ItAt (w.alloc (.cells AL.toArray 79)) w.heap.size 0 i sl) := Lib.hid (it_at (by rw [hAL]; exact range_new w _ AL) ok.data)
 have hwk := u64_wrap i.k
 have hwz := u64_wrap i.size
 have hwb := u64_wrap i.blk
 have hwn := u64_wrap i.blocks
 have HLT2 := Lib.hid (fun u0 u1 u2 => lit_rows (w.alloc (.cells AL.toArray 79)) u0 [u1, u2] 2 rfl (by omega))
 have HLT1 := Lib.hid (fun u0 u1 => lit_rows (w.alloc (.cells AL.toArray 79)) u0 [u1] 1 rfl (by omega))
 have HLT3 := Lib.hid (fun u0 u1 u2 u3 => lit_rows (w.alloc (.cells AL.toArray 79)) u0 [u1, u2, u3] 3 rfl (by omega))
 rw [hAL]
 have HAL := Lib.hid hAL
 clear hd ok hAL
 obtain ⟨k, vol, size, blk', data, op, blocks⟩ := i
 dsimp only at hwk hwz hwb hwn hl
 have c0 := HA0.out.c0
 have c1 := fun u => (HAT.out u).c1
 have c2 := fun u => (HAT.out u).c2
 have c3 := fun u => (HAT.out u).c3
 have c0' := fun u => (HAT.out u).c0
 dsimp only at c0 c1 c2 c3 c0'
 simp only [Nat.zero_add] at c1 c2 c3
 by_cases k2 : k = 2
 ·subst k2
  have HLT := Lib.hid (HLT2.out (.iface 23 (.int .u64 ((toU 2 : Nat) : Int))) (.iface 23 (.int .u64 (vol : Int))) (.iface 23 (.int .u64 ((toU size : Nat) : Int))))
  simp only [World.size_alloc] at HLT
  go_enter Try.func147, Try.ntmps147
  go_wp2_with (at_builtin; go_must (refine wpList_apps rfl _ _ 126 rfl (w.heap.size + 1) 20 _ 1 16 Try.underlying126 infoAny rfl (by decide) (by decide) (.slice (some ⟨w.heap.size + 1, 0, none⟩) 1 1) 1 _ rfl HLT.out.1 (.slice (some ⟨w.heap.size + 1 + 1, 0, none⟩) 2 2) 2 _ rfl HLT.out.2 (by simp [Value.oneCell']) (by omega) (by simp) ?_); intro v5 w5 ho5 hb5 hg5 hs5 hn5)
  have HB5 : Hid (Below w.heap.size w w5) := Lib.hid ((balloc (balloc (balloc (Below.refl _ _) _) _) _).trans (hb5.mono (Nat.le_succ _)))
  have HO5 := Lib.hid (ownsRow_base ho5 (Nat.le_succ _))
  obtain ⟨aov, capv, rfl, _⟩ := Rd.of_own ho5
  clear ho5 hb5 hg5 hs5 hn5
  go_wp2_with fail
  go_ret
  exact ⟨_, rfl, rowV_of HO5.out rfl (AnyL.cons (oany_num _ _ (u64_lt _)) (AnyL.cons (oany_num _ _ HOK.out.vol) (AnyL.cons (oany_num _ _ (u64_lt _)) AnyL.nil))).get, HB5.out⟩
 by_cases k3 : k = 3
 ·subst k3
  have HLT := Lib.hid (HLT2.out (.iface 23 (.int .u64 ((toU 3 : Nat) : Int))) (.iface 23 (.int .u64 (vol : Int))) (.iface 23 (.int .u64 ((toU blk' : Nat) : Int))))
  simp only [World.size_alloc] at HLT
  go_enter Try.func147, Try.ntmps147
  go_wp2_with (first
   | (at_builtin; go_must (refine wpList_apps rfl _ _ 126 rfl (w.heap.size + 1) 20 _ 1 16 Try.underlying126 infoAny rfl (by decide) (by decide) (.slice (some ⟨w.heap.size + 1, 0, none⟩) 1 1) 1 _ rfl HLT.out.1 (.slice (some ⟨w.heap.size + 1 + 1, 0, none⟩) 2 2) 2 _ rfl HLT.out.2 (by simp [Value.oneCell']) (by omega) (by simp) ?_); intro v5 w5 ho5 hb5 hg5 hs5 hn5))
  have HB5 : Hid (Below w.heap.size w w5) := Lib.hid ((balloc (balloc (balloc (Below.refl _ _) _) _) _).trans (hb5.mono (Nat.le_succ _)))
  have HO5 := Lib.hid (ownsRow_base ho5 (Nat.le_succ _))
  obtain ⟨aov, capv, rfl, _⟩ := Rd.of_own ho5
  clear ho5 hb5 hg5 hs5 hn5
  go_wp2_with fail
  go_ret
  exact ⟨_, rfl, rowV_of HO5.out rfl (AnyL.cons (oany_num _ _ (u64_lt _)) (AnyL.cons (oany_num _ _ HOK.out.vol) (AnyL.cons (oany_num _ _ (u64_lt _)) AnyL.nil))).get, HB5.out⟩
 by_cases k4 : k = 4
 ·subst k4
  have HLT := Lib.hid (HLT3.out (.iface 23 (.int .u64 ((toU 4 : Nat) : Int))) (.iface 23 (.int .u64 (vol : Int))) (.iface 23 (.int .u64 ((toU blk' : Nat) : Int))) (.iface 77 (bA data)))
  simp only [World.size_alloc] at HLT
  have HDL : Hid ((Try.prog.info? 77).map (·.size) = some (bV data).length) := Lib.hid (by rw [bV_len, HOK.out.data]; exact infoBk)
  have HR4 : Hid (∀ u, ((w.alloc (.cells AL.toArray 79)).alloc (.cells #[u] 20)).rangeAt w.heap.size 4 (bV data)) := Lib.hid (fun u => by
   have h := (HAT.out u).r4
   dsimp only at h
   rwa [Nat.zero_add] at h)
  unfold bA at HLT
  go_enter Try.func147, Try.ntmps147
  go_wp2_with (first
   | (refine wpList_load_mid rfl 77 _ rfl w.heap.size 4 rfl (bV data) _ (HR4.out _) Try.underlying77 rfl HDL.out ?_)
   | (at_builtin; go_must (refine wpList_apps rfl _ _ 126 rfl (w.heap.size + 1) 20 _ 1 16 Try.underlying126 infoAny rfl (by decide) (by decide) (.slice (some ⟨w.heap.size + 1, 0, none⟩) 1 1) 1 _ rfl HLT.out.1 (.slice (some ⟨w.heap.size + 1 + 1, 0, none⟩) 3 3) 3 _ rfl HLT.out.2 (by simp [Value.oneCell']) (by omega) (by simp) ?_); intro v5 w5 ho5 hb5 hg5 hs5 hn5))
  have HB5 : Hid (Below w.heap.size w w5) := Lib.hid ((balloc (balloc (balloc (Below.refl _ _) _) _) _).trans (hb5.mono (Nat.le_succ _)))
  have HO5 := Lib.hid (ownsRow_base ho5 (Nat.le_succ _))
  obtain ⟨aov, capv, rfl, _⟩ := Rd.of_own ho5
  clear ho5 hb5 hg5 hs5 hn5
  go_wp2_with fail
  go_ret
  exact ⟨_, rfl, rowV_of HO5.out rfl (AnyL.cons (oany_num _ _ (u64_lt _)) (AnyL.cons (oany_num _ _ HOK.out.vol) (AnyL.cons (oany_num _ _ (u64_lt _)) (AnyL.cons (oany_blk _ _ HOK.out.data) AnyL.nil)))).get, HB5.out⟩
 by_cases k5 : k = 5
 ·subst k5
  obtain ⟨W1, hW1⟩ : ∃ W, (w.alloc (.cells AL.toArray 79)).alloc (.cells #[.iface 23 (.int .u64 ((toU 5 : Nat) : Int))] 20) = W := ⟨_, rfl⟩
  have HB1 : Hid (Below w.heap.size w W1) := Lib.hid (by rw [← hW1]; exact balloc (balloc (Below.refl _ _) _) _)
  have HZ1 : Hid (W1.heap.size = w.heap.size + 1 + 1) := Lib.hid (by rw [← hW1]; simp)
  have HOW : Hid (W1.ownsRow (w.heap.size + 1) 20 1 (.slice (some ⟨w.heap.size + 1, 0, none⟩) 1 1) 1 [.iface 23 (.int .u64 ((toU 5 : Nat) : Int))]) := Lib.hid (by
   rw [← hW1]
   have h := own_new (w.alloc (.cells AL.toArray 79)) (w.heap.size + 1) (by simp) 20 [.iface 23 (.int .u64 ((toU 5 : Nat) : Int))] 1 rfl
   rw [World.size_alloc] at h
   exact h)
  have HS1 : Hid (W1.rangeAt w.heap.size 260 (opL op sl) ∧ W1.cell? ⟨w.heap.size, 267, none⟩ = some (.int .i64 blocks)) := Lib.hid (by
   have h := HAT.out (.iface 23 (.int .u64 ((toU 5 : Nat) : Int)))
   rw [hW1] at h
   have h1 := h.r260
   have h2 := h.c267
   dsimp only at h1 h2
   rw [Nat.zero_add] at h1 h2
   exact ⟨h1, h2⟩)
  have HSS : Hid (∀ X Y, Below (w.heap.size + 1) X Y → (X.rangeAt w.heap.size 260 (opL op sl) ∧ X.cell? ⟨w.heap.size, 267, none⟩ = some (.int .i64 blocks)) → (Y.rangeAt w.heap.size 260 (opL op sl) ∧ Y.cell? ⟨w.heap.size, 267, none⟩ = some (.int .i64 blocks))) := Lib.hid (fun X Y hb h => ⟨rangeLow h.1 (Nat.lt_succ_self _) hb, (hb.cell (p := ⟨w.heap.size, 267, none⟩) (Nat.lt_succ_self _)).trans h.2⟩)
  have CO : Hid (Calls Try.prog 146 #[.agg (opL op sl).toArray] W1.drew fun e w' => ∃ v, e = .returned v ∧ w'.ownsRow W1.drew.heap.size 5 1 v (opB op).length (bV (opB op)) ∧ Below W1.drew.heap.size W1.drew w') := Lib.hid (opB_any op HOK.out.op sl W1.drew (HD.out.below (HB1.out.drew)) hl)
  have HIO : Hid ((Try.prog.info? 26).map (·.size) = some (opL op sl).length) := Lib.hid infoOp
  have c0w : W1.cell? ⟨w.heap.size, 0, none⟩ = some (.int .i64 5) := by
   have h := (HAT.out (.iface 23 (.int .u64 ((toU 5 : Nat) : Int)))).c0
   rw [hW1] at h
   exact h
  clear k2 k3 k4 c1 c2 c3 c0'
  go_enter Try.func147, Try.ntmps147
  go_upto_region 4 with fail
  clear hW1 c0w
  refine wp_region_held_drew (S := fun X => X.rangeAt w.heap.size 260 (opL op sl) ∧ X.cell? ⟨w.heap.size, 267, none⟩ = some (.int .i64 blocks)) (by kernel_rfl) ?_ (fun hHeld => ?_)
  ·exact HS1.out
  refine wpAnyH_take (i := 0) (v := ?_) rfl (by kernel_rfl) (by kernel_rfl) (by kernel_rfl) (fun _ _ _ h => h) (Or.inl ⟨by rfl, ?_⟩) (by assumption) ?_
  rotate_left
  ·(intro w hSw; (try dsimp only at hSw); simp only [List.getElem_toArray, List.getElem_cons_zero, List.getElem_cons_succ]; go_simp; first | done | with_reducible rfl)
  simp only [List.getElem_toArray, List.getElem_cons_zero, List.getElem_cons_succ, Act.put, List.setIfInBounds_toArray, List.set_cons_zero, List.set_cons_succ]
  refine wpAnyH_take (i := 1) (v := ?_) rfl (by kernel_rfl) (by kernel_rfl) (by kernel_rfl) (fun _ _ _ h => h) (Or.inl ⟨by rfl, ?_⟩) (by assumption) ?_
  rotate_left
  ·(intro w hSw; (try dsimp only at hSw); simp only [List.getElem_toArray, List.getElem_cons_zero, List.getElem_cons_succ]; go_simp; first | done | with_reducible rfl)
  simp only [List.getElem_toArray, List.getElem_cons_zero, List.getElem_cons_succ, Act.put, List.setIfInBounds_toArray, List.set_cons_zero, List.set_cons_succ]
  refine wpAnyH_take (i := 2) (v := _) rfl (by kernel_rfl) (by kernel_rfl) (by kernel_rfl) (fun _ _ _ h => h) (yieldsIf_load_mid (by rfl) 26 _ rfl (w.heap.size) (260) rfl (opL op sl) _ (fun w hw => hw.1) (Try.underlying26) rfl (HIO.out)) (by assumption) ?_
  simp only [List.getElem_toArray, List.getElem_cons_zero, List.getElem_cons_succ, Act.put, List.setIfInBounds_toArray, List.set_cons_zero, List.set_cons_succ]
  refine wpAnyH_take (i := 5) (v := ?_) rfl (by kernel_rfl) (by kernel_rfl) (by kernel_rfl) (fun _ _ _ h => h) (Or.inl ⟨by rfl, ?_⟩) (by assumption) ?_
  rotate_left
  ·(intro w hSw; (try dsimp only at hSw); simp only [List.getElem_toArray, List.getElem_cons_zero, List.getElem_cons_succ]; go_simp; first | done | with_reducible rfl)
  simp only [List.getElem_toArray, List.getElem_cons_zero, List.getElem_cons_succ, Act.put, List.setIfInBounds_toArray, List.set_cons_zero, List.set_cons_succ]
  refine wpAnyH_take (i := 6) (v := ?_) rfl (by kernel_rfl) (by kernel_rfl) (by kernel_rfl) (fun _ _ _ h => h) (Or.inl ⟨by rfl, ?_⟩) (by assumption) ?_
  rotate_left
  ·(intro w hSw; (try dsimp only at hSw); simp only [List.getElem_toArray, List.getElem_cons_zero, List.getElem_cons_succ]; go_simp; first | done | with_reducible rfl)
  simp only [List.getElem_toArray, List.getElem_cons_zero, List.getElem_cons_succ, Act.put, List.setIfInBounds_toArray, List.set_cons_zero, List.set_cons_succ]
  refine wpAnyH_take (i := 7) (v := ?_) rfl (by kernel_rfl) (by kernel_rfl) (by kernel_rfl) (fun _ _ _ h => h) (Or.inl ⟨by rfl, ?_⟩) (by assumption) ?_
  rotate_left
  ·(intro w hSw; (try dsimp only at hSw); simp only [List.getElem_toArray, List.getElem_cons_zero, List.getElem_cons_succ]; go_simp; first | done | with_reducible rfl)
  simp only [List.getElem_toArray, List.getElem_cons_zero, List.getElem_cons_succ, Act.put, List.setIfInBounds_toArray, List.set_cons_zero, List.set_cons_succ]
  refine wpAnyH_take (i := 8) (v := ?_) rfl (by kernel_rfl) (by kernel_rfl) (by kernel_rfl) (fun _ _ _ h => h) (Or.inl ⟨by rfl, ?_⟩) (by assumption) ?_
  rotate_left
  ·(intro w hSw; (try dsimp only at hSw); simp only [List.getElem_toArray, List.getElem_cons_zero, List.getElem_cons_succ]; go_simp; first | done | with_reducible rfl)
  simp only [List.getElem_toArray, List.getElem_cons_zero, List.getElem_cons_succ, Act.put, List.setIfInBounds_toArray, List.set_cons_zero, List.set_cons_succ]
  refine wpAnyH_ready (rs := [3]) (by kernel_rfl) (by simp) ?_
  refine AllReadyH.cons rfl (fun K hK => ?_) AllReadyH.nil
  simp only [List.getElem_toArray, List.getElem_cons_zero, List.getElem_cons_succ]
  go_simp
  refine (CO.out).mono ?_
  rintro e w3 ⟨v3, rfl, ho3, hb3⟩
  dsimp only
  refine hK.out _ _ ?_ (fun hHeld => ?_)
  ·exact HSS.out _ _ (hb3.mono (by show w.heap.size + 1 ≤ W1.heap.size; rw [HZ1.out]; omega)) hHeld
  clear hK K
  try simp only [Act.put, List.setIfInBounds_toArray, List.set_cons_zero, List.set_cons_succ]
  have HB3 : Hid (Below W1.heap.size W1 w3) := Lib.hid (bthen (Below.refl _ W1).drew hb3)
  have HO3 := Lib.hid ho3
  clear ho3 hb3
  refine wpAnyH_take (i := 4) (v := ?_) rfl (by kernel_rfl) (by kernel_rfl) (by kernel_rfl) (fun _ _ _ h => h) (Or.inl ⟨by rfl, ?_⟩) (by assumption) ?_
  rotate_left
  ·(intro w hSw; (try dsimp only at hSw); simp only [List.getElem_toArray, List.getElem_cons_zero, List.getElem_cons_succ]; go_simp; first | done | with_reducible rfl)
  simp only [List.getElem_toArray, List.getElem_cons_zero, List.getElem_cons_succ, Act.put, List.setIfInBounds_toArray, List.set_cons_zero, List.set_cons_succ]
  refine wpAnyH_ready (rs := [9]) (by kernel_rfl) (by simp) ?_
  refine AllReadyH.cons rfl (fun K hK => ?_) AllReadyH.nil
  simp only [List.getElem_toArray, List.getElem_cons_zero, List.getElem_cons_succ]
  go_simp
  refine hK.out _ _ ?_ (fun hHeld => ?_)
  ·exact HSS.out _ _ ((balloc (Below.refl _ w3) _).mono (by have h1 := HB3.out.size; rw [HZ1.out] at h1; omega)) hHeld
  clear hK K
  try simp only [Act.put, List.setIfInBounds_toArray, List.set_cons_zero, List.set_cons_succ]
  have HOW3 := Lib.hid (ownsRow_below (ownsRow_below HOW.out HB3.out) (balloc (Below.refl _ w3) (.cells #[.iface 24 v3, .iface 23 (.int .u64 ((toU blocks : Nat) : Int))] 20)))
  have HSR := Lib.hid (Rd.of_own (own_newN w3 0 (Nat.zero_le _) 20 [.iface 24 v3, .iface 23 (.int .u64 ((toU blocks : Nat) : Int))] 1 2 rfl (by omega)))
  refine wpAnyH_ready (rs := [10]) (by kernel_rfl) (by simp) ?_
  refine AllReadyH.cons rfl (fun K hK => ?_) AllReadyH.nil
  simp only [List.getElem_toArray, List.getElem_cons_zero, List.getElem_cons_succ]
  rw [if_pos (by rfl)]
  refine wp_apps _ _ 126 rfl (w.heap.size + 1) 20 _ 1 16 Try.underlying126 infoAny rfl (by decide) (by decide) _ 1 _ (by rfl) HOW3.out _ 2 _ (by rfl) HSR.out (by simp [Value.oneCell']) (by omega) (by have h1 := HB3.out.size; rw [HZ1.out] at h1; simp; omega) ?_
  intro v5 w5 ho5 hb5 hg5 hs5 hn5
  refine hK.out _ _ ?_ (fun hHeld => ?_)
  ·exact HSS.out _ _ hb5 hHeld
  clear hK K
  try simp only [Act.put, List.setIfInBounds_toArray, List.set_cons_zero, List.set_cons_succ]
  have HB5 : Hid (Below w.heap.size w w5) := Lib.hid ((bthen HB1.out (bthen HB3.out (balloc (Below.refl _ w3) _))).trans (hb5.mono (Nat.le_succ _)))
  have HO5 := Lib.hid (ownsRow_base ho5 (Nat.le_succ _))
  have HV5 : Hid (w5.ownsRow 0 5 1 v3 (opB op).length (bV (opB op))) := Lib.hid (by
   have ho := ownsRow_below HO3.out (balloc (Below.refl _ w3) (.cells #[.iface 24 v3, .iface 23 (.int .u64 ((toU blocks : Nat) : Int))] 20))
   refine ownsRow_base (ownsRow_at ho (fun j hj => ?_)) (Nat.zero_le _)
   have h1 := ownsRow_ge ho j hj
   have h2 := ownsRow_lt ho j hj
   have h3 : W1.drew.heap.size = w.heap.size + 1 + 1 := HZ1.out
   rw [h3] at h1
   exact hg5.block j h2 (fun e => by
    have e2 : (some (w.heap.size + 1) : Option Nat) = some j := e.symm
    have := Option.some.inj e2
    omega))
  clear ho5 hb5 hg5 hs5 hn5
  refine wpAnyH_take (i := 11) (v := ?_) rfl (by kernel_rfl) (by kernel_rfl) (by kernel_rfl) (fun _ _ _ h => h) (Or.inl ⟨by rfl, ?_⟩) (by assumption) ?_
  rotate_left
  ·(intro w hSw; (try dsimp only at hSw); simp only [List.getElem_toArray, List.getElem_cons_zero, List.getElem_cons_succ]; go_simp; first | done | with_reducible rfl)
  simp only [List.getElem_toArray, List.getElem_cons_zero, List.getElem_cons_succ, Act.put, List.setIfInBounds_toArray, List.set_cons_zero, List.set_cons_succ]
  refine wpAnyH_done (by kernel_rfl) ?_ _
  go_wp2_with fail
  go_ret
  exact ⟨_, rfl, rowV_of HO5.out rfl (AnyL.cons (oany_num _ _ (u64_lt _)) (AnyL.cons (oany_blob _ _ _ HV5.out) (AnyL.cons (oany_num _ _ (u64_lt _)) AnyL.nil))).get, HB5.out⟩
 ·have HLT := Lib.hid (HLT1.out (.iface 23 (.int .u64 ((toU k : Nat) : Int))) (.iface 23 (.int .u64 (vol : Int))))
  simp only [World.size_alloc] at HLT
  have HE : Hid (valI ⟨k, vol, size, blk', data, op, blocks⟩ = [num (toU k), num vol]) := Lib.hid (by unfold valI; dsimp only; rw [if_neg k5, if_neg k2, if_neg k3, if_neg k4])
  have g2 := bneI k2
  have g3 := bneI k3
  have g4 := bneI k4
  have g5 := bneI k5
  clear k2 k3 k4 k5
  go_enter Try.func147, Try.ntmps147
  go_wp2_with (at_builtin; go_must (refine wpList_apps rfl _ _ 126 rfl (w.heap.size + 1) 20 _ 1 16 Try.underlying126 infoAny rfl (by decide) (by decide) (.slice (some ⟨w.heap.size + 1, 0, none⟩) 1 1) 1 _ rfl HLT.out.1 (.slice (some ⟨w.heap.size + 1 + 1, 0, none⟩) 1 1) 1 _ rfl HLT.out.2 (by simp [Value.oneCell']) (by omega) (by simp) ?_); intro v5 w5 ho5 hb5 hg5 hs5 hn5)
  have HB5 : Hid (Below w.heap.size w w5) := Lib.hid ((balloc (balloc (balloc (Below.refl _ _) _) _) _).trans (hb5.mono (Nat.le_succ _)))
  have HO5 := Lib.hid (ownsRow_base ho5 (Nat.le_succ _))
  obtain ⟨aov, capv, rfl, _⟩ := Rd.of_own ho5
  clear ho5 hb5 hg5 hs5 hn5
  go_wp2_with fail
  go_ret
  exact ⟨_, rfl, by rw [HE.out]; exact rowV_of HO5.out rfl (AnyL.cons (oany_num _ _ (u64_lt _)) (AnyL.cons (oany_num _ _ HOK.out.vol) AnyL.nil)).get, HB5.out⟩
end Go.Proofs.Ytgkelbdgdhkeoaa
