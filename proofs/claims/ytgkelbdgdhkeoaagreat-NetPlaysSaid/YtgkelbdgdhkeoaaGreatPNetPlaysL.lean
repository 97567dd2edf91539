/- The law NetPlays, walked. -/
import Derived.Deep.RegionHeld3
import Derived.Test.YtgkelbdgdhkeoaaGreatPND
import Derived.Test.YtgkelbdgdhkeoaaGreatPNet21
import Derived.Test.YtgkelbdgdhkeoaaGreatPNet22
namespace Go.Proofs.YtgkelbdgdhkeoaaGreat
open Go.RowKit
set_option linter.unusedVariables false
set_option linter.unusedSimpArgs false
theorem Duo.kept {w0 w w' : World} {D Q : Nat} {su sw : Value} {L M : List Lt} {c : Nat} {F : List Nat} (e : Duo w0 w D su L Q sw M c) (hm : Mods F w w') (hb : Below w0.heap.size w0 w') (h1 : D ∉ F) (h2 : ∀ k ∈ ob su, k ∉ F) (h3 : ∀ x ∈ L, ∀ k ∈ ob x.v, k ∉ F) (h4 : Q ∉ F) (h5 : ∀ k ∈ ob sw, k ∉ F) : Duo w0 w' D su L Q sw M c :=
 ⟨e.n.kept hm h1 h2 h3, e.r.mods hm h4 h5, e.same, e.small, hb⟩
/-- What do to a pair leaves of a copied pair. -/
theorem Duo.apart {w0 w w' : World} {B C D Q s : Nat} {sv su sw : Value} {L M : List Lt} {c : Nat} (d : Duo w0 w B sv L C sw M c) (e : Duo w0 w D su L Q sw M c) (hm : Mods (C :: nF B sv) w w') (hb : Below w0.heap.size w0 w')
  (hs : ∀ k ∈ C :: nF B sv, k < s) (h1 : s ≤ D) (h2 : ∀ k ∈ ob su, s ≤ k) (h4 : s ≤ Q) : Duo w0 w' D su L Q sw M c := by
 have htag : ∀ (j : Nat) (cs : Array Value) (t : TypeId) (f : Nat × Nat), w.heap[j]? = some (.cells cs t f) → t ≠ 30 → t ≠ 50 → t ≠ 61 → j ∉ C :: nF B sv := fun j cs t f hj t1 t2 t3 hf => by
  rcases List.mem_cons.1 hf with h | h
  ·exact tag_neq hj d.r.box t1 h
  ·rcases List.mem_cons.1 h with h | h
   ·exact tag_neq hj d.n.box t2 h
   ·obtain ⟨cs', f', h3⟩ := own_tagS d.n.row j h
    exact tag_neq hj h3 t3 rfl
 refine e.kept hm hb (fun h => by have := hs _ h; omega) (fun k hk h => by have := hs _ h; have := h2 k hk; omega) (fun x hx k hk => ?_) (fun h => by have := hs _ h; omega) (fun k hk => ?_)
 ·obtain ⟨cs, f, h⟩ := own_tagS (d.n.byt x hx) k hk
  exact htag _ _ _ _ h (by decide) (by decide) (by decide)
 ·obtain ⟨cs, f, h⟩ := own_tagS d.r.row k hk
  exact htag _ _ _ _ h (by decide) (by decide) (by decide)
theorem Duo.fl {w0 w : World} {B C : Nat} {sv sw : Value} {L M : List Lt} {c : Nat} (d : Duo w0 w B sv L C sw M c) : ∀ k ∈ C :: nF B sv, k < w.heap.size := by
 intro k hk
 rcases List.mem_cons.1 hk with rfl | hk
 ·exact d.r.lt
 ·rcases List.mem_cons.1 hk with rfl | hk
  ·exact d.n.lt
  ·exact ownsRow_lt d.n.row k hk
theorem Duo.copied {w0 w : World} {B C D Q : Nat} {sv su sw : Value} {L M : List Lt} {c : Nat} (d : Duo w0 w B sv L C sw M c) (hn : NetAt w0.heap.size w D su L) (hq : w.heap[Q]? = some (.cells #[sw] 30 (0, 0))) (hg : w0.heap.size ≤ Q) : Duo w0 w D su L Q sw M c :=
 ⟨hn, ⟨hq, d.r.row, d.r.byt, hg⟩, d.same, d.small, d.below⟩
set_option maxRecDepth 100000 in
set_option maxHeartbeats 6400000 in
theorem netPlays_walk (ao : Option Addr) (n cap : Nat) (l : List St) (leave : Int) (w : World) (hv : Steps w ao n cap l) :
  Calls Tryz.prog 3 #[.slice ao n cap, .int .i64 leave] w fun e w' => e = .returned (.bool true) ∧ Below w.heap.size w w' := by
 have CK := Lib.hid (fun W => known20_any W)
 have CMU := much20_any ao n cap l w hv
 have HV := Lib.hid hv
 obtain ⟨y, hy⟩ : ∃ y, muchN l = y := ⟨_, rfl⟩
 rw [hy] at CMU
 have HY := Lib.hid hy
 clear hv hy
 cases y with
 | true =>
  go_enter Tryz.func3, Tryz.ntmps3
  go_wp2_with fail
  refine CMU.mono ?_
  rintro e w1 ⟨rfl, rfl⟩
  go_wp2_with fail
  refine (CK.out _).mono ?_
  rintro e w2 ⟨rfl, hb⟩
  have HB := Lib.hid hb
  clear hb
  go_wp2_with fail
  go_ret
  exact ⟨rfl, HB.out⟩
 | false =>
 have HS := Lib.hid (muchN_no HY.out)
 have HNL : Hid (n ≤ 60 ∧ n ≤ cap ∧ cap ≤ 9223372036854775807) := Lib.hid (by
  obtain ⟨a, b, c, _⟩ := HV.out
  unfold maxLen at c
  have := HS.out.1
  omega)
 have hnl := HNL.out
 have CN := new_any w.heap.size w (Nat.le_refl _)
 go_enter Tryz.func3, Tryz.ntmps3
 go_wp2_with fail
 refine CMU.mono ?_
 rintro e w0 ⟨rfl, rfl⟩
 clear CMU
 go_wp2_with fail
 refine CN.mono ?_
 rintro e w1 ⟨rfl, hn1, hb1⟩
 have HN1 := Lib.hid hn1
 have HB1 := Lib.hid hb1
 clear hn1 hb1 CN
 obtain ⟨w2, hw2⟩ : ∃ W, w1.alloc (.cells #[.slice none 0 0] 30) = W := ⟨_, rfl⟩
 have HD0 : Hid (Duo w w2 w.heap.size (.slice none 0 0) [] w1.heap.size (.slice none 0 0) [] 0) := Lib.hid (by
  rw [← hw2]
  exact ⟨HN1.out.below (balloc (Below.refl _ _) _), ⟨heap_alloc_new w1 _, World.ownsRow_nil _ _ _ _, fun x hx => (by cases hx), HB1.out.size⟩, rfl, ⟨Nat.le_refl _, fun x hx => by cases hx⟩, balloc HB1.out _⟩)
 obtain ⟨C, hC⟩ : ∃ C, w1.heap.size = C := ⟨_, rfl⟩
 obtain ⟨B, hB⟩ : ∃ B, w.heap.size = B := ⟨_, rfl⟩
 go_upto_region 4 with fail
 rw [hC, hB] at HD0
 try rw [hw2]
 clear hw2
 clear hC hB
 go_wp2_with fail
 refine (looks20_any w w2 B _ _ C _ _ 0 HD0.out (by omega) leave).mono ?_
 rintro e w3 ⟨rfl, hb3⟩
 have HD1 := Lib.hid (HD0.out.mono hb3)
 clear hb3
 go_wp2_with fail
 go_loopw [7, 8, 9] (fun iv _ _ wr => ∃ k : Nat, k ≤ n ∧ iv = .int .i64 (k : Int) ∧ ∃ sv L sw M, Duo w wr B sv L C sw M k) (fun iv _ _ _ => n - (intOf iv).toNat)
 case atStart => exact ⟨0, by omega, rfl, _, _, _, _, HD1.out⟩
 case round =>
  obtain ⟨k, hk, rfl, sv, L, sw, M, hd⟩ := hrel
  have HD := Lib.hid hd
  clear hd
  by_cases hlt : k < n
  ·obtain ⟨x, hx⟩ : ∃ x, l[k]? = some x := ⟨_, List.getElem?_eq_getElem (by rw [HV.out.1]; exact hlt)⟩
   have hr : Rd w 1 x.v x.b.length (bV x.b) := by
    obtain ⟨_, _, _, _, _, _, _, h⟩ := HV.out.2.2.2.2 k x hx
    exact h
   have HX := Lib.hid hx
   have HRX := Lib.hid hr
   obtain ⟨ax, cx, ex, _⟩ := hr
   have HEX := Lib.hid ex
   have hll := HD.out.small.1
   have HCP : Hid (∀ W, Below wr.heap.size wr W → Calls Tryz.prog 8 #[.pointer (some ⟨B, 0, none⟩)] W (CopyP w.heap.size W L)) := Lib.hid (fun W hW => copy_at w.heap.size W B sv L (HD.out.mono hW).below.size (HD.out.mono hW).n (by omega))
   obtain ⟨asw, csw, hsw, _⟩ := Rd.of_own HD.out.r.row
   obtain ⟨msw, hmsw⟩ : ∃ m, M.length = m := ⟨_, rfl⟩
   rw [hmsw] at hsw
   subst hsw
   have r0 := HD.out.r.cell
   have hlC : C < wr.heap.size := HD.out.r.lt
   have HG : Hid (∀ X, Below wr.heap.size wr X → X.cell? ⟨C, 0, none⟩ = some (.slice asw msw csw) ∧ Below wr.heap.size wr X) := Lib.hid (fun X hX => ⟨(World.cell?_of_block (hX.block C hlC)).trans r0, hX⟩)
   obtain ⟨s, hs⟩ : ∃ s, wr.heap.size = s := ⟨_, rfl⟩
   have HFL : Hid (∀ k ∈ C :: nF B sv, k < s) := Lib.hid (by rw [← hs]; exact HD.out.fl)
   have HSS := Lib.hid hs
   clear hx ex hll hs r0 hmsw
   go_wp2_with fail
   refine wp_region_held_drew (S := fun X => X.cell? ⟨C, 0, none⟩ = some (.slice asw msw csw) ∧ Below wr.heap.size wr X) (by kernel_rfl) (HG.out _ (Below.refl _ _).drew) (fun hHeld => ?_)
   refine wpAnyH_take (i := 0) (v := ?_) rfl (by kernel_rfl) (by kernel_rfl) (by kernel_rfl) (fun _ _ _ h => h) (Or.inl ⟨by rfl, ?_⟩) (by assumption) ?_
   rotate_left
   ·(intro w hSw; (try dsimp only at hSw); simp only [List.getElem_toArray, List.getElem_cons_zero, List.getElem_cons_succ]; go_simp; first | done | with_reducible rfl)
   simp only [List.getElem_toArray, List.getElem_cons_zero, List.getElem_cons_succ, Act.put, List.setIfInBounds_toArray, List.set_cons_zero, List.set_cons_succ]
   refine wpAnyH_take (i := 2) (v := ?_) rfl (by kernel_rfl) (by kernel_rfl) (by kernel_rfl) (fun _ _ _ h => h) (Or.inl ⟨by rfl, ?_⟩) (by assumption) ?_
   rotate_left
   ·(intro w hSw; (try dsimp only at hSw); simp only [List.getElem_toArray, List.getElem_cons_zero, List.getElem_cons_succ]; go_simp; first | done | with_reducible rfl)
   simp only [List.getElem_toArray, List.getElem_cons_zero, List.getElem_cons_succ, Act.put, List.setIfInBounds_toArray, List.set_cons_zero, List.set_cons_succ]
   refine wpAnyH_take (i := 3) (v := ?_) rfl (by kernel_rfl) (by kernel_rfl) (by kernel_rfl) (fun _ _ _ h => h) (Or.inl ⟨by rfl, ?_⟩) (by assumption) ?_
   rotate_left
   ·(intro w hSw; (try dsimp only at hSw); simp only [List.getElem_toArray, List.getElem_cons_zero, List.getElem_cons_succ]; go_simp; first | done | with_reducible rfl)
   simp only [List.getElem_toArray, List.getElem_cons_zero, List.getElem_cons_succ, Act.put, List.setIfInBounds_toArray, List.set_cons_zero, List.set_cons_succ]
   refine wpAnyH_take (i := 4) (v := ?_) rfl (by kernel_rfl) (by kernel_rfl) (by kernel_rfl) (fun _ _ _ h => h) (Or.inl ⟨by rfl, ?_⟩) (by assumption) ?_
   rotate_left
   ·(intro w hSw; (try dsimp only at hSw); simp only [List.getElem_toArray, List.getElem_cons_zero, List.getElem_cons_succ]; go_simp; first | done | with_reducible rfl)
   simp only [List.getElem_toArray, List.getElem_cons_zero, List.getElem_cons_succ, Act.put, List.setIfInBounds_toArray, List.set_cons_zero, List.set_cons_succ]
   have hb0 := Lib.hid hHeld.2
   refine wpAnyH_ready (rs := [1, 5]) (by kernel_rfl) (by simp) ?_
   refine AllReadyH.cons rfl (fun K hK => ?_) (AllReadyH.cons rfl (fun K hK => ?_) (AllReadyH.nil))
   ·simp only [List.getElem_toArray, List.getElem_cons_zero, List.getElem_cons_succ]
    go_simp
    refine (HCP.out _ hHeld.2).mono ?_
    rintro e z1 ⟨D, su, rfl, hn, hb, hD, hsu⟩
    dsimp only
    refine hK.out _ _ ?_ (fun hHeld => ?_)
    ·exact HG.out _ (bthen hHeld.2 hb)
    clear hK K
    try simp only [Act.put, List.setIfInBounds_toArray, List.set_cons_zero, List.set_cons_succ]
    have HB1 := Lib.hid (bthen hb0.out hb)
    have HN1 := Lib.hid hn
    have HDQ : Hid (s ≤ D ∧ (∀ k ∈ ob su, s ≤ k) ∧ s ≤ z1.heap.size) := Lib.hid (by
     have h1 := hb0.out.size
     have h2 := HB1.out.size
     rw [HSS.out] at h1 h2
     exact ⟨Nat.le_trans h1 hD, fun k hk => Nat.le_trans h1 (hsu k hk), h2⟩)
    clear hn hb hsu hD
    refine wpAnyH_ready (rs := [5]) (by kernel_rfl) (by simp) ?_
    refine AllReadyH.cons rfl (fun K hK => ?_) AllReadyH.nil
    simp only [List.getElem_toArray, List.getElem_cons_zero, List.getElem_cons_succ]
    go_simp
    refine hK.out _ _ ?_ (fun hHeld => ?_)
    ·exact HG.out _ (balloc HB1.out _)
    clear hK K
    try simp only [Act.put, List.setIfInBounds_toArray, List.set_cons_zero, List.set_cons_succ]
    refine wpAnyH_take (i := 6) (v := ?_) rfl (by kernel_rfl) (by kernel_rfl) (by kernel_rfl) (fun _ _ _ h => h) (Or.inl ⟨by rfl, ?_⟩) (by assumption) ?_
    rotate_left
    ·(intro w hSw; (try dsimp only at hSw); simp only [List.getElem_toArray, List.getElem_cons_zero, List.getElem_cons_succ]; go_simp; first | done | with_reducible rfl)
    simp only [List.getElem_toArray, List.getElem_cons_zero, List.getElem_cons_succ, Act.put, List.setIfInBounds_toArray, List.set_cons_zero, List.set_cons_succ]
    refine wpAnyH_ready (rs := [7]) (by kernel_rfl) (by simp) ?_
    refine AllReadyH.cons rfl (fun K hK => ?_) AllReadyH.nil
    simp only [List.getElem_toArray, List.getElem_cons_zero, List.getElem_cons_succ]
    go_simp
    refine hK.out _ _ ?_ (fun hHeld => ?_)
    ·exact HG.out _ (balloc HB1.out _)
    clear hK K
    try simp only [Act.put, List.setIfInBounds_toArray, List.set_cons_zero, List.set_cons_succ]
    refine wpAnyH_done (by kernel_rfl) ?_ _
    have hq0 := heap_alloc_new z1 (.cells #[.slice asw msw csw] 30)
    have hby : Below z1.heap.size z1 (z1.alloc (.cells #[.slice asw msw csw] 30)) := balloc (Below.refl _ _) _
    obtain ⟨y, hy⟩ : ∃ y, z1.alloc (.cells #[.slice asw msw csw] 30) = y := ⟨_, rfl⟩
    rw [hy] at hq0 hby
    try rw [hy]
    obtain ⟨Q, hQ⟩ : ∃ Q, z1.heap.size = Q := ⟨_, rfl⟩
    have HDY := Lib.hid (HD.out.mono (bthen HB1.out hby))
    have HNY := Lib.hid (HN1.out.below hby)
    rw [hQ] at hq0 HDQ
    try rw [hQ]
    have HE : Hid (Duo w y D su L Q (.slice asw msw csw) M k) := Lib.hid (HDY.out.copied HNY.out hq0 (Nat.le_trans HD.out.below.size (by rw [HSS.out]; exact HDQ.out.2.2)))
    have HQ := HDQ
    clear hq0 hby hy hQ hHeld
    go_wp2_with fail
    refine (same_at2 _ _ _ _ _ _ _ _ HE.out.n HDY.out.n).mono ?_
    rintro e y1 ⟨rfl, hy1⟩
    rw [decide_eq_true (rfl : L.map key = L.map key)]
    have HD1 := Lib.hid (HDY.out.mono hy1)
    have HE1 := Lib.hid (HE.out.mono hy1)
    have HSL := Lib.hid hy1.size
    obtain ⟨b, off, rfl, _, c0, c1, c2, _⟩ := (HV.out.below HD1.out.below).2.2.2.2 k x HX.out
    have CD := do_any w y1 _ sv L C _ M k HD1.out (by omega) x HRX.out (HS.out.2 x (List.mem_of_getElem? HX.out))
    rw [HEX.out] at c2 CD
    unfold DoP at CD
    clear hy1
    go_wp2_with fail
    refine CD.mono ?_
    rintro e y2 ⟨rfl, ⟨sv3, L3, sw3, M3, hd3⟩, hm3⟩
    have HD3 := Lib.hid hd3
    have HE3 := Lib.hid (HD1.out.apart HE1.out hm3 hd3.below (s := s) HFL.out HQ.out.1 HQ.out.2.1 HQ.out.2.2)
    clear hd3 hm3 CD c0 c1 c2
    go_wp2_with fail
    refine (looks20_any w y2 B sv3 L3 C sw3 M3 (k + 1) HD3.out (by omega) leave).mono ?_
    rintro e y3 ⟨rfl, hb3⟩
    have HD4 := Lib.hid (HD3.out.mono hb3)
    have HE4 := Lib.hid (HE3.out.mono hb3)
    clear hb3
    go_wp2_with fail
    refine (looks20_any w y3 D su L Q (.slice asw msw csw) M k HE4.out (by omega) leave).mono ?_
    rintro e y4 ⟨rfl, hb4⟩
    have HD5 := Lib.hid (HD4.out.mono hb4)
    have HE5 := Lib.hid (HE4.out.mono hb4)
    clear hb4
    go_wp2_with fail
    refine (same_at2 _ _ _ _ _ _ _ _ HE5.out.n HD5.out.n).mono ?_
    rintro e y5 ⟨rfl, hy5⟩
    have HD6 := Lib.hid (HD5.out.mono hy5)
    have HE6 := Lib.hid (HE5.out.mono hy5)
    clear hy5
    go_wp2_with fail
    refine (rsame20_any _ _ _ _ _ _ _ _ _ _ _ HE6.out.r HD6.out.r HE6.out.below HD6.out.below).mono ?_
    rintro e y6 ⟨rfl, hy6⟩
    have HD7 := Lib.hid (HD6.out.mono hy6)
    rw [HE6.out.same, HD6.out.same]
    clear hy6
    obtain ⟨q, hq⟩ : ∃ q, decide (M.map key = M3.map key) = q := ⟨_, rfl⟩
    rw [hq]
    clear hq
    go_wp2_with fail
    go_roundw
    case rel => exact ⟨k + 1, by omega, by go_num, _, _, _, _, HD7.out⟩
    case measure => simp [intOf]; omega
   ·simp only [List.getElem_toArray, List.getElem_cons_zero, List.getElem_cons_succ]
    go_simp
    refine hK.out _ _ ?_ (fun hHeld => ?_)
    ·exact HG.out _ (balloc hHeld.2 _)
    clear hK K
    try simp only [Act.put, List.setIfInBounds_toArray, List.set_cons_zero, List.set_cons_succ]
    have hx1 : ((wr.alloc (.cells #[.slice none 0 0] 30)).drew).heap[wr.heap.size]? = some (.cells #[.slice none 0 0] 30 (0, 0)) := heap_alloc_new wr _
    have hx2 : ((wr.alloc (.cells #[.slice none 0 0] 30)).drew).heap.size = wr.heap.size + 1 := by
     show (wr.alloc _).heap.size = _
     simp
    have HX1 := Lib.hid hx1
    have HX2 := Lib.hid hx2
    have HBX := Lib.hid hHeld.2
    clear hx1 hx2
    refine wpAnyH_ready (rs := [1]) (by kernel_rfl) (by simp) ?_
    refine AllReadyH.cons rfl (fun K hK => ?_) AllReadyH.nil
    simp only [List.getElem_toArray, List.getElem_cons_zero, List.getElem_cons_succ]
    go_simp
    refine (HCP.out _ hHeld.2).mono ?_
    rintro e z1 ⟨D, su, rfl, hn, hb, hD, hsu⟩
    dsimp only
    refine hK.out _ _ ?_ (fun hHeld => ?_)
    ·exact HG.out _ (bthen hHeld.2 hb)
    clear hK K
    try simp only [Act.put, List.setIfInBounds_toArray, List.set_cons_zero, List.set_cons_succ]
    have HB1 := Lib.hid (bthen HBX.out hb)
    have HN1 := Lib.hid hn
    rw [HX2.out] at hD hsu
    have hqz : z1.heap[wr.heap.size]? = some (.cells #[.slice none 0 0] 30 (0, 0)) := (hb.block _ (by rw [HX2.out]; omega)).trans HX1.out
    have HQZ := Lib.hid hqz
    have ht : z1.cell? ⟨wr.heap.size, 0, none⟩ = some (.slice none 0 0) := cellOf hqz 0 rfl
    have hfz : z1.frozen? ⟨wr.heap.size, 0, none⟩ = false := frozenOf hqz 0
    have HDQ : Hid (s ≤ D ∧ (∀ k ∈ ob su, s ≤ k) ∧ s ≤ wr.heap.size ∧ D ≠ wr.heap.size ∧ wr.heap.size ∉ ob su) := Lib.hid (by
     rw [← HSS.out]
     exact ⟨by omega, fun k hk => by have := hsu k hk; omega, Nat.le_refl _, by omega, fun h => by have := hsu _ h; omega⟩)
    clear hn hb hsu hD hqz
    refine wpAnyH_take (i := 6) (v := ?_) rfl (by kernel_rfl) (by kernel_rfl) (by kernel_rfl) (fun _ _ _ h => h) (Or.inl ⟨by rfl, ?_⟩) (by assumption) ?_
    rotate_left
    ·(intro w hSw; (try dsimp only at hSw); simp only [List.getElem_toArray, List.getElem_cons_zero, List.getElem_cons_succ]; go_simp; first | done | with_reducible rfl)
    simp only [List.getElem_toArray, List.getElem_cons_zero, List.getElem_cons_succ, Act.put, List.setIfInBounds_toArray, List.set_cons_zero, List.set_cons_succ]
    refine wpAnyH_ready (rs := [7]) (by kernel_rfl) (by simp) ?_
    refine AllReadyH.cons rfl (fun K hK => ?_) AllReadyH.nil
    simp only [List.getElem_toArray, List.getElem_cons_zero, List.getElem_cons_succ]
    go_simp
    refine hK.out _ _ ?_ (fun hHeld => ?_)
    ·exact HG.out _ (HB1.out.setCell (p := ⟨wr.heap.size, 0, none⟩) (Nat.le_refl _) _)
    clear hK K
    try simp only [Act.put, List.setIfInBounds_toArray, List.set_cons_zero, List.set_cons_succ]
    refine wpAnyH_done (by kernel_rfl) ?_ _
    have hq0 := setOf HQZ.out 0 (.slice asw msw csw)
    have hmy : Mods [wr.heap.size] z1 (z1.setCell ⟨wr.heap.size, 0, none⟩ (.slice asw msw csw)) := (Mods.refl _ z1).setCell (p := ⟨wr.heap.size, 0, none⟩) (by simp) _
    have hby : Below wr.heap.size wr (z1.setCell ⟨wr.heap.size, 0, none⟩ (.slice asw msw csw)) := HB1.out.setCell (p := ⟨wr.heap.size, 0, none⟩) (Nat.le_refl _) _
    obtain ⟨y, hy⟩ : ∃ y, z1.setCell ⟨wr.heap.size, 0, none⟩ (.slice asw msw csw) = y := ⟨_, rfl⟩
    rw [hy] at hq0 hby hmy
    try rw [hy]
    have HNY : Hid (NetAt w.heap.size y D su L) := Lib.hid (HN1.out.kept hmy (fun h => HDQ.out.2.2.2.1 (by simpa using h)) (fun k hk h => HDQ.out.2.2.2.2 (by
     have e : k = wr.heap.size := by simpa using h
     exact e ▸ hk)) (fun x hx k hk h => by
     have e : k = wr.heap.size := by simpa using h
     subst e
     obtain ⟨cs, f, h3⟩ := own_tagS (HN1.out.byt x hx) _ hk
     exact tag_neq h3 HQZ.out (by decide) rfl))
    obtain ⟨Q, hQ⟩ : ∃ Q, wr.heap.size = Q := ⟨_, rfl⟩
    have HDY := Lib.hid (HD.out.mono hby)
    rw [hQ] at hq0 HDQ
    try rw [hQ]
    have HE : Hid (Duo w y D su L Q (.slice asw msw csw) M k) := Lib.hid (HDY.out.copied HNY.out hq0 (Nat.le_trans HD.out.below.size (by rw [HSS.out]; exact HDQ.out.2.2.1)))
    have HQ : Hid (s ≤ D ∧ (∀ k ∈ ob su, s ≤ k) ∧ s ≤ Q) := Lib.hid ⟨HDQ.out.1, HDQ.out.2.1, HDQ.out.2.2.1⟩
    clear hq0 hby hmy hy hQ ht hfz hHeld
    go_wp2_with fail
    refine (same_at2 _ _ _ _ _ _ _ _ HE.out.n HDY.out.n).mono ?_
    rintro e y1 ⟨rfl, hy1⟩
    rw [decide_eq_true (rfl : L.map key = L.map key)]
    have HD1 := Lib.hid (HDY.out.mono hy1)
    have HE1 := Lib.hid (HE.out.mono hy1)
    have HSL := Lib.hid hy1.size
    obtain ⟨b, off, rfl, _, c0, c1, c2, _⟩ := (HV.out.below HD1.out.below).2.2.2.2 k x HX.out
    have CD := do_any w y1 _ sv L C _ M k HD1.out (by omega) x HRX.out (HS.out.2 x (List.mem_of_getElem? HX.out))
    rw [HEX.out] at c2 CD
    unfold DoP at CD
    clear hy1
    go_wp2_with fail
    refine CD.mono ?_
    rintro e y2 ⟨rfl, ⟨sv3, L3, sw3, M3, hd3⟩, hm3⟩
    have HD3 := Lib.hid hd3
    have HE3 := Lib.hid (HD1.out.apart HE1.out hm3 hd3.below (s := s) HFL.out HQ.out.1 HQ.out.2.1 HQ.out.2.2)
    clear hd3 hm3 CD c0 c1 c2
    go_wp2_with fail
    refine (looks20_any w y2 B sv3 L3 C sw3 M3 (k + 1) HD3.out (by omega) leave).mono ?_
    rintro e y3 ⟨rfl, hb3⟩
    have HD4 := Lib.hid (HD3.out.mono hb3)
    have HE4 := Lib.hid (HE3.out.mono hb3)
    clear hb3
    go_wp2_with fail
    refine (looks20_any w y3 D su L Q (.slice asw msw csw) M k HE4.out (by omega) leave).mono ?_
    rintro e y4 ⟨rfl, hb4⟩
    have HD5 := Lib.hid (HD4.out.mono hb4)
    have HE5 := Lib.hid (HE4.out.mono hb4)
    clear hb4
    go_wp2_with fail
    refine (same_at2 _ _ _ _ _ _ _ _ HE5.out.n HD5.out.n).mono ?_
    rintro e y5 ⟨rfl, hy5⟩
    have HD6 := Lib.hid (HD5.out.mono hy5)
    have HE6 := Lib.hid (HE5.out.mono hy5)
    clear hy5
    go_wp2_with fail
    refine (rsame20_any _ _ _ _ _ _ _ _ _ _ _ HE6.out.r HD6.out.r HE6.out.below HD6.out.below).mono ?_
    rintro e y6 ⟨rfl, hy6⟩
    have HD7 := Lib.hid (HD6.out.mono hy6)
    rw [HE6.out.same, HD6.out.same]
    clear hy6
    obtain ⟨q, hq⟩ : ∃ q, decide (M.map key = M3.map key) = q := ⟨_, rfl⟩
    rw [hq]
    clear hq
    go_wp2_with fail
    go_roundw
    case rel => exact ⟨k + 1, by omega, by go_num, _, _, _, _, HD7.out⟩
    case measure => simp [intOf]; omega
  ·obtain rfl : k = n := by omega
   have HB := Lib.hid HD.out.below
   go_wp2_with fail
   refine (CK.out _).mono ?_
   rintro e y1 ⟨rfl, hy1⟩
   have HB1 := Lib.hid (bthen HB.out hy1)
   clear hy1
   go_wp2_with fail
   go_ret
   exact ⟨rfl, HB1.out⟩
end Go.Proofs.YtgkelbdgdhkeoaaGreat
