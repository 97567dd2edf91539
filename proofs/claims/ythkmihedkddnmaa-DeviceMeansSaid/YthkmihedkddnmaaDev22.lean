/- Devices: Copy, walked. -/
import Derived.Test.YthkmihedkddnmaaDev21
namespace Go.Proofs.Ythkmihedkddnmaa
open Go.RowKit Go.Maps Wire Cmd
set_option linter.unusedVariables false
set_option linter.unusedSimpArgs false

/-- Rising lists with the same entries are one. -/
theorem ris_ext {α : Type} : ∀ {l m : List (Nat × α)}, Ris l → Ris m → (∀ p, p ∈ l ↔ p ∈ m) → l = m
  | [], [], _, _, _ => rfl
  | [], y :: m, _, _, h => absurd ((h y).2 (List.mem_cons_self ..)) (by simp)
  | x :: l, [], _, _, h => absurd ((h x).1 (List.mem_cons_self ..)) (by simp)
  | x :: l, y :: m, hl, hm, h => by
    obtain ⟨h1, h2⟩ := List.pairwise_cons.1 hl
    obtain ⟨k1, k2⟩ := List.pairwise_cons.1 hm
    have hxy : x = y := by
      rcases List.mem_cons.1 ((h x).1 (List.mem_cons_self ..)) with e | hx
      · exact e
      rcases List.mem_cons.1 ((h y).2 (List.mem_cons_self ..)) with e | hy
      · exact e.symm
      have := k1 x hx
      have := h1 y hy
      omega
    subst hxy
    rw [ris_ext h2 k2 (fun p => ⟨fun hp => by
      rcases List.mem_cons.1 ((h p).1 (List.mem_cons_of_mem _ hp)) with e | hq
      · have := h1 p hp
        rw [e] at this
        omega
      · exact hq, fun hp => by
      rcases List.mem_cons.1 ((h p).2 (List.mem_cons_of_mem _ hp)) with e | hq
      · have := k1 p hp
        rw [e] at this
        omega
      · exact hq⟩)]
theorem ris_uniq {α : Type} {l : List (Nat × α)} (h : Ris l) {p q : Nat × α} (hp : p ∈ l) (hq : q ∈ l) (e : p.1 = q.1) : p = q := by
  obtain ⟨i, hi⟩ := List.getElem?_of_mem hp
  obtain ⟨j, hj⟩ := List.getElem?_of_mem hq
  have h1 := getA_at h hi
  have h2 := getA_at h hj
  rw [e, h2] at h1
  exact Prod.ext e (Option.some.inj h1).symm
/-- One entry more of those that are gone over. -/
theorem put_filter {α : Type} {L : List (Nat × α)} (h : Ris L) {n : Nat} {a : α} (ha : (n, a) ∈ L) (p : Nat × α → Bool) : putA n a (L.filter p) = L.filter fun q => p q || q.1 == n := by
  refine ris_ext (ris_putA (ris_filter h _) _ _) (ris_filter h _) (fun q => ⟨fun hq => ?_, fun hq => ?_⟩)
  · rcases mem_putA hq with rfl | hq
    · exact List.mem_filter.2 ⟨ha, by simp⟩
    · obtain ⟨h1, h2⟩ := List.mem_filter.1 hq
      exact List.mem_filter.2 ⟨h1, by simp [h2]⟩
  · obtain ⟨h1, h2⟩ := List.mem_filter.1 hq
    by_cases e : q.1 = n
    · have := ris_uniq h h1 ha e
      subst this
      exact mem_insA.2 (.inl rfl)
    · refine mem_insA.2 (.inr (List.mem_filter.2 ⟨List.mem_filter.2 ⟨h1, ?_⟩, by simpa using e⟩))
      have e2 : (q.1 == n) = false := by rw [beq_eq_false_iff_ne]; exact e
      simpa [e2] using h2
/-- What is found at a key that is there. -/
theorem at_found {α : Type} {q : IntKind} {f : α → DataW Unit} {l : List (Nat × α)} {x : Int} {d : DataW Unit} (h : ∀ zd, (encM q f l).atKey (.int q x) zd = d) : ∃ kn a, x = ((kn : Nat) : Int) ∧ getA kn l = some a ∧ d = f a := by
  by_cases hx : x < 0
  · have h1 := h (.lit (.bool true))
    have h2 := h (.lit (.bool false))
    rw [at_enc_neg q f x hx l] at h1 h2
    rw [← h2] at h1
    cases h1
  · obtain ⟨kn, rfl⟩ : ∃ kn : Nat, x = (kn : Int) := ⟨x.toNat, by omega⟩
    cases hg : getA kn l with
    | some a =>
      have h1 := h (.lit (.bool true))
      rw [at_enc, hg] at h1
      exact ⟨kn, a, rfl, hg, h1.symm⟩
    | none =>
      have h1 := h (.lit (.bool true))
      have h2 := h (.lit (.bool false))
      rw [at_enc, hg] at h1 h2
      have h3 : (DataW.lit (.bool true) : DataW Unit) = d := h1
      have h4 : (DataW.lit (.bool false) : DataW Unit) = d := h2
      rw [← h4] at h3
      cases h3
theorem RVol_shape {v : Value} {y : DataW Unit × List MemPlace} (h : RVol v = some y) : ∃ c : Int × Option Nat, v = .agg #[.int .i64 c.1, .map c.2] := by
  unfold RVol at h
  split at h
  · exact ⟨(_, _), rfl⟩
  · cases h
theorem keyU_inv {key : Value} {kl : Lit} (h : keyOf Try.prog 24 key = some kl) : ∃ x : Int, key = .int .u64 x := by
  obtain ⟨x, rfl, _⟩ := Maps.keyOf_int_inv undU64 h
  exact ⟨x, rfl⟩
theorem strip_in {l : List (Nat × (Vl × Nat))} {p : Nat × Vl} (h : p ∈ strip l) : ∃ b, (p.1, (p.2, b)) ∈ l := by
  unfold strip mapA at h
  obtain ⟨x, hx, rfl⟩ := List.mem_map.1 h
  exact ⟨x.2.2, hx⟩
theorem left_start (l : List (Nat × (Vl × Nat))) : (strip l).filter (fun p => !(Maps.has (encM .u64 volF l) (.int .u64 (p.1 : Int)))) = [] := by
  rw [List.filter_eq_nil_iff]
  intro p hp
  rw [has_enc]
  obtain ⟨b, hb⟩ := strip_in hp
  cases hg : getA p.1 l with
  | some x => simp
  | none => exact absurd rfl (getA_none hg _ hb)
set_option maxRecDepth 100000 in
set_option maxHeartbeats 6400000 in
theorem dcopy_at (n0 : Nat) (w : World) (B Ba : Nat) (l : List (Nat × (Vl × Nat))) (h : DevAt n0 w B Ba l) :
    Calls Try.prog 9 #[.pointer (some ⟨B, 0, none⟩)] w fun e w' => ∃ B' Ba' l', e = .returned (.pointer (some ⟨B', 0, none⟩)) ∧ DevAt w.heap.size w' B' Ba' l' ∧ strip l' = strip l ∧ Below w.heap.size w w' := by
  have CT := dthere_any w _ true h.dv
  have CN := dnew_any w.heap.size w (Nat.le_refl _)
  have HH := Lib.hid h
  have K : Keyed Try.prog 24 := int_keyed undU64
  clear h
  go_enter Try.func9, Try.ntmps9
  go_wp2_with fail
  refine CT.mono ?_
  rintro e w1 ⟨rfl, rfl⟩
  go_wp2_with fail
  refine CN.mono ?_
  rintro e w2 ⟨B', Ba', rfl, hd2, hb2, hB', hBa'⟩
  dsimp only
  have HB2 := Lib.hid hb2
  have HD2 := Lib.hid hd2
  have HH2 := Lib.hid (HH.out.below hb2)
  have c0 := HH2.out.cell
  have hown : w2.ownsMap Try.prog 24 RVol Ba l.length (encM .u64 volF l) := HH2.out.all
  have HNAA : Hid (Ba ≠ Ba') := Lib.hid (by have := HH.out.all.lt; omega)
  have HNB : Hid (w.heap.size ≤ B' ∧ w.heap.size ≤ Ba') := Lib.hid ⟨hB', hBa'⟩
  clear CT CN hd2 hb2 hB' hBa'
  go_wp2_with (at_range; refine wpList_range_own _ rfl _ 47 rfl 24 53 K undAll RVol Ba _ _ rfl hown ?_; intro w0 hrg0 hg0 hs0)
  have HR0 := Lib.hid hrg0
  have HG0 := Lib.hid hg0
  obtain ⟨r, hr⟩ : ∃ r, w2.heap.size = r := ⟨_, rfl⟩
  have HRS := Lib.hid hr
  rw [hr] at HR0 ⊢
  clear c0 hown hrg0 hg0 hs0 hr
  go_frame
  go_loopw [16] (fun _ wr => ∃ (left : Lit → Bool) (cnt : Nat) (lo : List (Nat × (Vl × Nat))), wr.ranges Try.prog 24 RVol Ba r l.length (encM .u64 volF l) left cnt ∧ DevAt w.heap.size wr B' Ba' lo ∧ strip lo = (strip l).filter (fun p => !(left (.int .u64 (p.1 : Int)))) ∧ Below w.heap.size w wr ∧ (∀ k ∈ dF Ba' lo, k ≠ r)) (fun _ wr => wr.rangeLeft Ba r)
  case atStart =>
    have hb0 : Below w2.heap.size w2 w0 := ⟨HG0.out.os, HG0.out.tape, HG0.out.output, HG0.out.size, fun k hk => HG0.out.block k hk (by simp)⟩
    exact ⟨_, _, [], HR0.out, HD2.out.below hb0, by rw [left_start]; rfl, bthen HB2.out hb0, fun k hk => by
      have e : k = Ba' := by simpa [dF] using hk
      have := HD2.out.all.lt
      have := HRS.out
      omega⟩
  case round =>
    obtain ⟨left, cnt, lo, hrg, hdo, hst, hbw, hnr⟩ := hrel
    have HNR := Lib.hid hnr
    clear hnr
    have HDO := Lib.hid hdo
    have HBW := Lib.hid hbw
    have HSTO := Lib.hid hst
    clear hdo hbw hst
    go_wp2_with (at_next; refine wpList_next_ranges _ rfl _ rfl 24 K RVol (Value.int .u64) (fun c : Int × Option Nat => .agg #[.int .i64 c.1, .map c.2]) (fun key kl hkey => keyU_inv hkey) (fun v y hv => RVol_shape hv) Ba r _ _ _ _ rfl hrg ?_ ?_)
    · intro _ hl0
      go_wp2_with fail
      go_ret
      refine ⟨B', Ba', lo, rfl, HDO.out, ?_, HBW.out⟩
      rw [HSTO.out, List.filter_eq_self]
      intro p _
      simp [hl0]
    · intro x c1 c2 kl yd yp w1 cnt1 hkey hlx hv hat hrg1 hlt hg1 hs1 hen
      obtain ⟨x', ex, rfl, hwx⟩ := Maps.keyOf_int_inv undU64 hkey
      cases ex
      obtain ⟨kn, y, rfl, hgy, hyd⟩ := at_found hat
      obtain ⟨hval, _⟩ := RVol_inv (x := ((y.1.size : Int), some y.2)) (by rw [hv, hyd]; rfl)
      obtain ⟨rfl, rfl⟩ : c1 = (y.1.size : Int) ∧ c2 = some y.2 := by simpa using hval
      have HGY := Lib.hid hgy
      have HLX := Lib.hid hlx
      have HCN := Lib.hid hlt
      have HLE := Lib.hid hrg.left_eq
      have HRG1 := Lib.hid hrg1
      have hrw : w.heap.size ≤ r := by rw [← HRS.out]; exact HB2.out.size
      have HBW1 := Lib.hid (HBW.out.grown hg1 HBW.out.size (fun k e => by cases e; exact hrw))
      have hm1 : Mods [r] wr w1 := ⟨hg1.os, hg1.tape, hg1.output, hg1.size, fun k hk hn => hg1.block k hk (fun e => hn (by simp [Option.some.inj e]))⟩
      have HD1 := Lib.hid (HDO.out.kept hm1 (fun hh => by
        have e : B' = r := by simpa using hh
        have := HD2.out.lt
        have := HRS.out
        omega) (fun k hk hh => HNR.out k hk (by simpa using hh)))
      have HKN : Hid (1 ≤ kn ∧ kn < 4294967296) := Lib.hid (HH.out.ok.nat (kn, y.1) (by unfold strip mapA; exact List.mem_map.2 ⟨_, getA_some hgy, rfl⟩))
      have HYOK := Lib.hid (HH.out.ok.vol (kn, y.1) (by unfold strip mapA; exact List.mem_map.2 ⟨_, getA_some hgy, rfl⟩))
      have HYM : Hid (∀ X, Below w.heap.size w X → MapL X Try.prog 3 RBlk .i64 blkD y.2 y.1.m) := Lib.hid (fun X hX => (HH.out.vol _ (getA_some HGY.out)).below hX)
      clear hkey hlx hv hat hrg1 hlt hs1 hgy hyd hval hwx hg1 hm1 hrg
      obtain ⟨w5, hw5⟩ : ∃ W, w1.alloc (.cells #[.int .i64 (y.1.size : Int), .map (some y.2)] 53) = W := ⟨_, rfl⟩
      have HB5 : Hid (Below w1.heap.size w1 w5) := Lib.hid (by rw [← hw5]; exact balloc (Below.refl _ _) _)
      have HX5 : Hid (w5.heap[w1.heap.size]? = some (.cells #[.int .i64 (y.1.size : Int), .map (some y.2)] 53 (0, 0))) := Lib.hid (by rw [← hw5]; exact heap_alloc_new w1 _)
      have HDF := Lib.hid (HD1.out.below HB5.out)
      have HLT5 := Lib.hid (Array.getElem?_eq_some_iff.1 HX5.out).1
      have HNA : Hid (w1.heap.size ∉ [Ba']) := Lib.hid (fun hh => by
        have e : w1.heap.size = Ba' := by simpa using hh
        have := HD1.out.all.lt
        omega)
      go_wp2_with fail
      (try rw [hw5])
      clear hw5 hen
      have HSS : Hid (∀ X, Mods [Ba'] w5 X → (X.cell? ⟨B', 0, none⟩ = some (.map (some Ba')) ∧ X.cell? ⟨w1.heap.size, 0, none⟩ = some (.int .i64 (y.1.size : Int)) ∧ X.cell? ⟨w1.heap.size, 1, none⟩ = some (.map (some y.2))) ∧ Mods [Ba'] w5 X) := Lib.hid (fun X hb => ⟨⟨(World.cell?_of_block (hb.block _ (HDF.out.lt) (by simpa using HDF.out.B_ne))).trans (HDF.out.cell), (World.cell?_of_block (hb.block _ (HLT5.out) (HNA.out))).trans (cellOf HX5.out 0 rfl), (World.cell?_of_block (hb.block _ (HLT5.out) (HNA.out))).trans (cellOf HX5.out 1 rfl)⟩, hb⟩)
      refine wp_region_held_drew (S := fun X => (X.cell? ⟨B', 0, none⟩ = some (.map (some Ba')) ∧ X.cell? ⟨w1.heap.size, 0, none⟩ = some (.int .i64 (y.1.size : Int)) ∧ X.cell? ⟨w1.heap.size, 1, none⟩ = some (.map (some y.2))) ∧ Mods [Ba'] w5 X) (by kernel_rfl) (HSS.out _ (Mods.of_below (Below.refl _ _).drew)) (fun hHeld => ?_)
      have hbe : Below w5.heap.size w5 w5.drew := (Below.refl _ _).drew
      obtain ⟨wd, hwd⟩ : ∃ y, w5.drew = y := ⟨_, rfl⟩
      rw [hwd] at hHeld hbe ⊢
      have HBE := Lib.hid hbe
      have HS0 : Hid (w5.heap.size ≤ wd.heap.size) := Lib.hid HBE.out.size
      clear hwd hbe
      refine wpAnyH_take (i := 0) (v := ?_) rfl (by kernel_rfl) (by kernel_rfl) (by kernel_rfl) (fun _ _ _ h => h) (Or.inl ⟨by rfl, ?_⟩) (by assumption) ?_
      rotate_left
      · (intro w hSw; (try dsimp only at hSw); simp only [List.getElem_toArray, List.getElem_cons_zero, List.getElem_cons_succ]; go_simp; first | done | with_reducible rfl)
      simp only [List.getElem_toArray, List.getElem_cons_zero, List.getElem_cons_succ, Act.put, List.setIfInBounds_toArray, List.set_cons_zero, List.set_cons_succ]
      refine wpAnyH_take (i := 4) (v := ?_) rfl (by kernel_rfl) (by kernel_rfl) (by kernel_rfl) (fun _ _ _ h => h) (Or.inl ⟨by rfl, ?_⟩) (by assumption) ?_
      rotate_left
      · (intro w hSw; (try dsimp only at hSw); simp only [List.getElem_toArray, List.getElem_cons_zero, List.getElem_cons_succ]; go_simp; first | done | with_reducible rfl)
      simp only [List.getElem_toArray, List.getElem_cons_zero, List.getElem_cons_succ, Act.put, List.setIfInBounds_toArray, List.set_cons_zero, List.set_cons_succ]
      refine wpAnyH_take (i := 5) (v := ?_) rfl (by kernel_rfl) (by kernel_rfl) (by kernel_rfl) (fun _ _ _ h => h) (Or.inl ⟨by rfl, ?_⟩) (by assumption) ?_
      rotate_left
      · (intro w hSw; (try dsimp only at hSw); simp only [List.getElem_toArray, List.getElem_cons_zero, List.getElem_cons_succ]; go_simp; first | done | with_reducible rfl)
      simp only [List.getElem_toArray, List.getElem_cons_zero, List.getElem_cons_succ, Act.put, List.setIfInBounds_toArray, List.set_cons_zero, List.set_cons_succ]
      refine wpAnyH_take (i := 7) (v := ?_) rfl (by kernel_rfl) (by kernel_rfl) (by kernel_rfl) (fun _ _ _ h => h) (Or.inl ⟨by rfl, ?_⟩) (by assumption) ?_
      rotate_left
      · (intro w hSw; (try dsimp only at hSw); simp only [List.getElem_toArray, List.getElem_cons_zero, List.getElem_cons_succ]; go_simp; first | done | with_reducible rfl)
      simp only [List.getElem_toArray, List.getElem_cons_zero, List.getElem_cons_succ, Act.put, List.setIfInBounds_toArray, List.set_cons_zero, List.set_cons_succ]
      refine wpAnyH_take (i := 1) (v := ?_) rfl (by kernel_rfl) (by kernel_rfl) (by kernel_rfl) (fun _ _ _ h => h) (Or.inl ⟨by rfl, ?_⟩) (by assumption) ?_
      rotate_left
      · (intro w hSw; (try dsimp only at hSw); simp only [List.getElem_toArray, List.getElem_cons_zero, List.getElem_cons_succ]; go_simp; first | done | with_reducible rfl)
      simp only [List.getElem_toArray, List.getElem_cons_zero, List.getElem_cons_succ, Act.put, List.setIfInBounds_toArray, List.set_cons_zero, List.set_cons_succ]
      refine wpAnyH_take (i := 6) (v := ?_) rfl (by kernel_rfl) (by kernel_rfl) (by kernel_rfl) (fun _ _ _ h => h) (Or.inl ⟨by rfl, ?_⟩) (by assumption) ?_
      rotate_left
      · (intro w hSw; (try dsimp only at hSw); simp only [List.getElem_toArray, List.getElem_cons_zero, List.getElem_cons_succ]; go_simp; first | done | with_reducible rfl)
      simp only [List.getElem_toArray, List.getElem_cons_zero, List.getElem_cons_succ, Act.put, List.setIfInBounds_toArray, List.set_cons_zero, List.set_cons_succ]
      refine wpAnyH_take (i := 8) (v := ?_) rfl (by kernel_rfl) (by kernel_rfl) (by kernel_rfl) (fun _ _ _ h => h) (Or.inl ⟨by rfl, ?_⟩) (by assumption) ?_
      rotate_left
      · (intro w hSw; (try dsimp only at hSw); simp only [List.getElem_toArray, List.getElem_cons_zero, List.getElem_cons_succ]; go_simp; first | done | with_reducible rfl)
      simp only [List.getElem_toArray, List.getElem_cons_zero, List.getElem_cons_succ, Act.put, List.setIfInBounds_toArray, List.set_cons_zero, List.set_cons_succ]
      refine wpAnyH_take (i := 2) (v := ?_) rfl (by kernel_rfl) (by kernel_rfl) (by kernel_rfl) (fun _ _ _ h => h) (Or.inl ⟨by rfl, ?_⟩) (by assumption) ?_
      rotate_left
      · (intro w hSw; (try dsimp only at hSw); simp only [List.getElem_toArray, List.getElem_cons_zero, List.getElem_cons_succ]; go_simp; first | done | with_reducible rfl)
      simp only [List.getElem_toArray, List.getElem_cons_zero, List.getElem_cons_succ, Act.put, List.setIfInBounds_toArray, List.set_cons_zero, List.set_cons_succ]
      refine wpAnyH_take (i := 3) (v := ?_) rfl (by kernel_rfl) (by kernel_rfl) (by kernel_rfl) (fun _ _ _ h => h) (Or.inl ⟨by rfl, ?_⟩) (by assumption) ?_
      rotate_left
      · (intro w hSw; (try dsimp only at hSw); simp only [List.getElem_toArray, List.getElem_cons_zero, List.getElem_cons_succ]; go_simp; first | done | with_reducible rfl)
      simp only [List.getElem_toArray, List.getElem_cons_zero, List.getElem_cons_succ, Act.put, List.setIfInBounds_toArray, List.set_cons_zero, List.set_cons_succ]
      refine wpAnyH_ready (rs := [9]) (by kernel_rfl) (by simp) ?_
      refine AllReadyH.cons rfl (fun K hK => ?_) (AllReadyH.nil)
      simp only [List.getElem_toArray, List.getElem_cons_zero, List.getElem_cons_succ]
      go_simp
      refine (clone_blk _ y.2 y.1.m (HYM.out _ (HBW1.out.trans ((HB5.out.trans (HBE.out.mono HB5.out.size)).mono HBW1.out.size)))).mono ?_
      rintro e w6 ⟨rfl, hm6, hb6⟩
      dsimp only
      have HBE := Lib.hid (bthen HBE.out hb6)
      have hSp := HSS.out _ (Mods.of_below HBE.out)
      clear hHeld
      refine hK.out _ _ hSp (fun hHeld => ?_)
      clear hSp hK K
      try simp only [Act.put, List.setIfInBounds_toArray, List.set_cons_zero, List.set_cons_succ]
      have HC9 := Lib.hid hb6
      clear hb6
      refine wpAnyH_take (i := 10) (v := ?_) rfl (by kernel_rfl) (by kernel_rfl) (by kernel_rfl) (fun _ _ _ h => h) (Or.inl ⟨by rfl, ?_⟩) (by assumption) ?_
      rotate_left
      · (intro w hSw; (try dsimp only at hSw); simp only [List.getElem_toArray, List.getElem_cons_zero, List.getElem_cons_succ]; go_simp; first | done | with_reducible rfl)
      simp only [List.getElem_toArray, List.getElem_cons_zero, List.getElem_cons_succ, Act.put, List.setIfInBounds_toArray, List.set_cons_zero, List.set_cons_succ]
      refine wpAnyH_ready (rs := [11]) (by kernel_rfl) (by simp) ?_
      refine AllReadyH.cons rfl (fun K hK => ?_) (AllReadyH.nil)
      obtain ⟨w7, hup, hml, hmod⟩ := (HDF.out.below HBE.out).all.put undU64 undAll (HDF.out.short) (wfU (n := kn) (Nat.lt_trans HKN.out.2 (by decide))) (a := (y.1, wd.heap.size)) (RVol_mk (y.1.size : Int) (some wd.heap.size))
      simp only [List.getElem_toArray, List.getElem_cons_zero, List.getElem_cons_succ]
      go_simp
      refine hK.out _ _ ?_ (fun hHeld => ?_)
      · exact HSS.out _ ((Mods.of_below HBE.out).trans hmod (fun i hi => .inl hi))
      clear hK K
      try simp only [Act.put, List.setIfInBounds_toArray, List.set_cons_zero, List.set_cons_succ]
      refine wpAnyH_done (by kernel_rfl) ?_ _
      have HEND := Lib.hid hHeld.2
      have HSE := Lib.hid hHeld.1
      clear hHeld
      have HWD : Hid (w1.heap.size + 1 ≤ wd.heap.size) := Lib.hid (by have := HS0.out; have := HLT5.out; omega)
      have HD5 : Hid (DevAt w.heap.size w7 B' Ba' (putA kn (y.1, wd.heap.size) lo)) := Lib.hid ((HDF.out.below HBE.out).putAt hml (hm6.mods hmod (by have := HWD.out; have := HD1.out.all.lt; simp; omega)) hmod HKN.out HYOK.out (by have := HWD.out; have := HBW1.out.size; omega) (by have := HWD.out; have := HD1.out.all.lt; omega) (fun p hp e => absurd e (by have := HWD.out; have := (HD1.out.vol p hp).lt; omega)))
      have hb16 := bthen HB5.out HBE.out
      have hg6 : w1.grownBy w6 none := ⟨hb16.os, hb16.tape, hb16.output, hb16.size, fun k hk _ => hb16.block k hk⟩
      have hg7 : w6.grownBy w7 (some Ba') := ⟨hmod.os, hmod.tape, hmod.output, hmod.size, fun k hk hn => hmod.block k hk (fun hh => hn (by
        have e : k = Ba' := by simpa using hh
        rw [e]))⟩
      have HRG5 := Lib.hid ((HRG1.out.kept hg6 (by simp) (by simp)).kept hg7 (fun e => HNAA.out (Option.some.inj e)) (fun e => HNR.out Ba' (List.mem_cons_self ..) (Option.some.inj e).symm))
      have HBW5 : Hid (Below w.heap.size w w7) := Lib.hid ((HBW1.out.grown hg6 HBW1.out.size (fun k e => by cases e)).grown hg7 (Nat.le_trans HBW1.out.size hg6.size) (fun k e => by cases e; exact HNB.out.2))
      have HST : Hid (strip (putA kn (y.1, wd.heap.size) lo) = (strip l).filter (fun p => !(left (.int .u64 (p.1 : Int)) && !(Lit.int .u64 (p.1 : Int)).sameKey (.int .u64 (kn : Int))))) := Lib.hid (by
        rw [strip_put, HSTO.out, put_filter HH.out.ok.ris (by unfold strip mapA; exact List.mem_map.2 ⟨_, getA_some HGY.out, rfl⟩)]
        refine List.filter_congr fun p _ => ?_
        rw [same_enc]
        cases left (.int .u64 (p.1 : Int)) <;> cases (p.1 == kn) <;> rfl)
      have HNR5 : Hid (∀ k ∈ dF Ba' (putA kn (y.1, wd.heap.size) lo), k ≠ r) := Lib.hid (fun k hk => by
        rcases dF_put k hk with h | rfl
        · exact HNR.out k h
        · have := HWD.out
          have := HRG1.out.lt
          omega)
      clear hml hmod hup hg6 hg7 hm6 hb16
      clear HEND HSE HSS HBE
      go_wp2_with fail
      go_roundw
      case rel => exact ⟨_, cnt1, _, HRG5.out, HD5.out, HST.out, HBW5.out, HNR5.out⟩
      case measure => rw [HRG5.out.left_eq, HLE.out]; exact HCN.out
end Go.Proofs.Ythkmihedkddnmaa
