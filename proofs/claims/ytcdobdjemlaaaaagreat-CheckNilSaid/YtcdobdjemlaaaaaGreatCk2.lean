/- check: Names, none, Room, and what Store calls where there are no trees, walked. -/
import Derived.Test.YtcdobdjemlaaaaaGreatCk1
namespace Go.Proofs.YtcdobdjemlaaaaaGreat
open Go.RowKit Wire
set_option linter.unusedVariables false
set_option linter.unusedSimpArgs false

set_option maxRecDepth 100000 in
set_option maxHeartbeats 3200000 in
theorem scount_in {w : World} {S B pm pd mf md : Nat} {s : Su} {A D : M} {Fm Fd : List Nat} {bk : Bool} (h : StB w S B pm pd mf md s A D Fm Fd bk) (i : Nat) (hi : i < A.now.length) : Calls Tryz.prog 23 #[.pointer (some ⟨S, 0, none⟩), .int .u32 (i : Int)] w fun e w' => e = .returned (.int .u16 (ctN A.now i : Int)) ∧ w = w' := by
  have CC := (count_in h.ma h.mok i hi).mono (R' := fun e w' => e = .returned (.int .u16 (ctN A.now i : Int)) ∧ w = w') (fun e w' hp => ⟨hp.1, hp.2.symm⟩)
  have c0 := cellOf h.box 2 (v := .int .i64 s.mt) rfl
  have c1 := cellOf h.box 20 (v := pt pm) rfl
  have hm := h.ml
  have hmx := h.mok.max
  obtain ⟨c, hc⟩ : ∃ c, ctN A.now i = c := ⟨_, rfl⟩
  rw [hc] at CC ⊢
  obtain ⟨n, hn⟩ : ∃ n, A.now.length = n := ⟨_, rfl⟩
  rw [hn] at hm hi hmx
  rw [← hm] at c0
  have hw : IntKind.i64.wrap (i : Int) = (i : Int) := IntWalk.i64_in _ ⟨by omega, by omega⟩
  have hz : decide ((n : Int) ≤ (i : Int)) = false := decide_eq_false (by omega)
  have hz2 : decide (n ≤ i) = false := decide_eq_false (by omega)
  unfold pt at CC c1
  clear h hc hn hm
  go_enter Tryz.func23, Tryz.ntmps23
  go_wp2_with fail
  refine CC.mono ?_
  rintro e w2 ⟨rfl, rfl⟩
  clear CC
  go_wp2_with fail
  go_ret
  exact ⟨rfl, rfl⟩
set_option maxRecDepth 100000 in
set_option maxHeartbeats 3200000 in
theorem sdcount_in {w : World} {S B pm pd mf md : Nat} {s : Su} {A D : M} {Fm Fd : List Nat} {bk : Bool} (h : StB w S B pm pd mf md s A D Fm Fd bk) (i : Nat) (hi : i < D.now.length) : Calls Tryz.prog 24 #[.pointer (some ⟨S, 0, none⟩), .int .u32 (i : Int)] w fun e w' => e = .returned (.int .u16 (ctN D.now i : Int)) ∧ w = w' := by
  have CC := (count_in h.da h.dok i hi).mono (R' := fun e w' => e = .returned (.int .u16 (ctN D.now i : Int)) ∧ w = w') (fun e w' hp => ⟨hp.1, hp.2.symm⟩)
  have c0 := cellOf h.box 3 (v := .int .i64 s.data) rfl
  have c1 := cellOf h.box 21 (v := pt pd) rfl
  have hm := h.dl
  have hmx := h.dok.max
  obtain ⟨c, hc⟩ : ∃ c, ctN D.now i = c := ⟨_, rfl⟩
  rw [hc] at CC ⊢
  obtain ⟨n, hn⟩ : ∃ n, D.now.length = n := ⟨_, rfl⟩
  rw [hn] at hm hi hmx
  rw [← hm] at c0
  have hw : IntKind.i64.wrap (i : Int) = (i : Int) := IntWalk.i64_in _ ⟨by omega, by omega⟩
  have hz : decide ((n : Int) ≤ (i : Int)) = false := decide_eq_false (by omega)
  have hz2 : decide (n ≤ i) = false := decide_eq_false (by omega)
  unfold pt at CC c1
  clear h hc hn hm
  go_enter Tryz.func24, Tryz.ntmps24
  go_wp2_with fail
  refine CC.mono ?_
  rintro e w2 ⟨rfl, rfl⟩
  clear CC
  go_wp2_with fail
  go_ret
  exact ⟨rfl, rfl⟩
/-- How many of the first are noughts. -/
def zcN (l : List Nat) (i : Nat) : Nat := ((l.take i).filter (· == 0)).length
theorem zcN_succ {l : List Nat} {i c : Nat} (h : l[i]? = some c) : zcN l (i + 1) = zcN l i + (if c = 0 then 1 else 0) := by
  unfold zcN
  rw [List.take_add_one, h, List.filter_append, List.length_append]
  by_cases hc : c = 0 <;> simp [hc]
theorem zcN_le (l : List Nat) (i : Nat) : zcN l i ≤ i := by
  unfold zcN
  exact Nat.le_trans (List.length_filter_le _ _) (by rw [List.length_take]; omega)
set_option maxRecDepth 100000 in
set_option maxHeartbeats 3200000 in
theorem none_at (w : World) (g n : Nat) (l : List Nat) (h : BoxI w g l) (hl : l.length = n) (hn : n ≤ 1000) : Calls Tryz.prog 104 #[.slice (some ⟨g, 0, none⟩) n n] w fun e w' => e = .returned (.int .i64 (zcN l n : Int)) ∧ w = w' := by
  have HX := Lib.hid h
  have HL := Lib.hid hl
  clear h hl
  go_enter Tryz.func104, Tryz.ntmps104
  go_wp2_with fail
  go_loopw [3, 8] (fun c v wr => ∃ i : Nat, i ≤ n ∧ v = .int .i64 (i : Int) ∧ c = .int .i64 (zcN l i : Int) ∧ w = wr) (fun _ v _ => n - (Go.RowKit.intOf v).toNat)
  case atStart => exact ⟨0, by omega, rfl, rfl, rfl⟩
  case round =>
    obtain ⟨i, hi, rfl, rfl, rfl⟩ := hrel
    by_cases hlt : i < n
    · obtain ⟨x, hx⟩ : ∃ x, l[i]? = some x := ⟨_, List.getElem?_eq_getElem (by rw [HL.out]; exact hlt)⟩
      obtain ⟨hc, _⟩ := HX.out.cell hx
      have HS := Lib.hid (zcN_succ hx)
      have hzl := zcN_le l i
      obtain ⟨z, hz⟩ : ∃ z, zcN l i = z := ⟨_, rfl⟩
      rw [hz] at HS hzl
      rw [hz]
      clear hx hz
      by_cases hx0 : x = 0
      · subst hx0
        go_wp2_with fail
        go_roundw
        case rel => exact ⟨i + 1, by omega, by go_num, by rw [HS.out, if_pos rfl]; go_num, trivial⟩
        case measure => simp [Go.RowKit.intOf]; omega
      · have hxz : ((x : Int) == 0) = false := by simp; omega
        go_wp2_with fail
        go_roundw
        case rel => exact ⟨i + 1, by omega, by go_num, by rw [HS.out, if_neg hx0]; rfl, trivial⟩
        case measure => simp [Go.RowKit.intOf]; omega
    · obtain rfl : i = n := by omega
      go_wp2_with fail
      go_ret
      exact ⟨rfl, rfl⟩
/-- A store without trees. -/
structure Bare (s : Su) (m k P : Nat) : Prop where
  sm : s.mt = (m : Int)
  sk : s.data = (k : Int)
  rt : s.top = 0 ∧ s.base = 0 ∧ s.stage = 0
  pP : pagesN m + pagesN k = P
  p6 : P ≤ 6
  pg : ∀ i, i < P → s.pages.getD i 0 = i + 1
  m1 : 16 ≤ m ∧ m ≤ 1000
  k1 : 1 ≤ k ∧ k ≤ 1000
set_option maxRecDepth 100000 in
set_option maxHeartbeats 6400000 in
theorem names_at {w : World} {S B pm pd mf md : Nat} {s : Su} {A D : M} {Fm Fd : List Nat} (h : StB w S B pm pd mf md s A D Fm Fd false) (m k P : Nat) (hb : Bare s m k P) :
    Calls Tryz.prog 43 #[.pointer (some ⟨S, 0, none⟩)] w fun e w' => ∃ gm gd q mp, e = .returned (.tuple #[.slice (some ⟨gm, 0, none⟩) m m, .slice (some ⟨gd, 0, none⟩) k k, .int .i64 0]) ∧ NmAt w' q gm gd mp m k (ctK m P) (List.replicate k 0) ∧ Below w.heap.size w w' := by
  have CT := there_at h (by rw [hb.sm]; have := hb.m1; omega)
  have CW : Hid (∀ X, Below w.heap.size w X → Calls Tryz.prog 98 #[.pointer (some ⟨S, 0, none⟩)] X fun e w' => ∃ q gm gd mp, e = .returned (pt q) ∧ NmAt w' q gm gd mp m k (ctK m P) (List.replicate k 0) ∧ Below X.heap.size X w') := Lib.hid (fun X hX => cwalk_at (h.below hX) m k P hb.sm hb.sk hb.rt hb.pP hb.p6 hb.pg hb.m1 hb.k1)
  clear h hb
  go_enter Tryz.func43, Tryz.ntmps43
  go_wp2_with fail
  refine CT.mono ?_
  rintro e w2 ⟨rfl, hb2⟩
  have C := CW.out w2 hb2
  have HB2 := Lib.hid hb2
  unfold pt at C
  clear CT hb2
  go_wp2_with fail
  refine C.mono ?_
  rintro e w3 ⟨q, gm, gd, mp, rfl, hnm, hb3⟩
  have HNM := Lib.hid hnm
  have HBX := Lib.hid (bthn HB2.out hb3)
  have HQL : Hid (q < w3.heap.size) := Lib.hid (Array.getElem?_eq_some_iff.1 hnm.1).1
  clear C hnm hb3
  go_wp2_with fail
  have HSS : Hid (∀ X, Below w3.heap.size w3 X → (X.cell? ⟨q, 0, none⟩ = some (.slice (some ⟨gm, 0, none⟩) m m) ∧ X.cell? ⟨q, 1, none⟩ = some (.slice (some ⟨gd, 0, none⟩) k k)) ∧ Below w3.heap.size w3 X) := Lib.hid (fun X hb => ⟨⟨(World.cell?_of_block (hb.block _ (HQL.out))).trans (cellOf HNM.out.1 0 rfl), (World.cell?_of_block (hb.block _ (HQL.out))).trans (cellOf HNM.out.1 1 rfl)⟩, hb⟩)
  refine wp_region_held_drew (S := fun X => (X.cell? ⟨q, 0, none⟩ = some (.slice (some ⟨gm, 0, none⟩) m m) ∧ X.cell? ⟨q, 1, none⟩ = some (.slice (some ⟨gd, 0, none⟩) k k)) ∧ Below w3.heap.size w3 X) (by kernel_rfl) (HSS.out _ (Below.refl _ _).drew) (fun hHeld => ?_)
  have hbe : Below w3.heap.size w3 w3.drew := (Below.refl _ _).drew
  obtain ⟨wd, hwd⟩ : ∃ y, w3.drew = y := ⟨_, rfl⟩
  rw [hwd] at hHeld hbe ⊢
  have HBE := Lib.hid hbe
  have HS0 : Hid (w3.heap.size ≤ wd.heap.size) := Lib.hid HBE.out.size
  clear hwd hbe
  refine wpAnyH_take (i := 0) (v := ?_) rfl (by kernel_rfl) (by kernel_rfl) (by kernel_rfl) (fun _ _ _ h => h) (Or.inl ⟨by rfl, ?_⟩) (by assumption) ?_
  rotate_left
  · (intro w hSw; (try dsimp only at hSw); simp only [List.getElem_toArray, List.getElem_cons_zero, List.getElem_cons_succ]; go_simp; first | done | with_reducible rfl)
  simp only [List.getElem_toArray, List.getElem_cons_zero, List.getElem_cons_succ, Act.put, List.setIfInBounds_toArray, List.set_cons_zero, List.set_cons_succ]
  refine wpAnyH_take (i := 4) (v := ?_) rfl (by kernel_rfl) (by kernel_rfl) (by kernel_rfl) (fun _ _ _ h => h) (Or.inl ⟨by rfl, ?_⟩) (by assumption) ?_
  rotate_left
  · (intro w hSw; (try dsimp only at hSw); simp only [List.getElem_toArray, List.getElem_cons_zero, List.getElem_cons_succ]; go_simp; first | done | with_reducible rfl)
  simp only [List.getElem_toArray, List.getElem_cons_zero, List.getElem_cons_succ, Act.put, List.setIfInBounds_toArray, List.set_cons_zero, List.set_cons_succ]
  refine wpAnyH_take (i := 1) (v := ?_) rfl (by kernel_rfl) (by kernel_rfl) (by kernel_rfl) (fun _ _ _ h => h) (Or.inl ⟨by rfl, ?_⟩) (by assumption) ?_
  rotate_left
  · (intro w hSw; (try dsimp only at hSw); simp only [List.getElem_toArray, List.getElem_cons_zero, List.getElem_cons_succ]; go_simp; first | done | with_reducible rfl)
  simp only [List.getElem_toArray, List.getElem_cons_zero, List.getElem_cons_succ, Act.put, List.setIfInBounds_toArray, List.set_cons_zero, List.set_cons_succ]
  refine wpAnyH_take (i := 5) (v := ?_) rfl (by kernel_rfl) (by kernel_rfl) (by kernel_rfl) (fun _ _ _ h => h) (Or.inl ⟨by rfl, ?_⟩) (by assumption) ?_
  rotate_left
  · (intro w hSw; (try dsimp only at hSw); simp only [List.getElem_toArray, List.getElem_cons_zero, List.getElem_cons_succ]; go_simp; first | done | with_reducible rfl)
  simp only [List.getElem_toArray, List.getElem_cons_zero, List.getElem_cons_succ, Act.put, List.setIfInBounds_toArray, List.set_cons_zero, List.set_cons_succ]
  refine wpAnyH_take (i := 2) (v := ?_) rfl (by kernel_rfl) (by kernel_rfl) (by kernel_rfl) (fun _ _ _ h => h) (Or.inl ⟨by rfl, ?_⟩) (by assumption) ?_
  rotate_left
  · (intro w hSw; (try dsimp only at hSw); simp only [List.getElem_toArray, List.getElem_cons_zero, List.getElem_cons_succ]; go_simp; first | done | with_reducible rfl)
  simp only [List.getElem_toArray, List.getElem_cons_zero, List.getElem_cons_succ, Act.put, List.setIfInBounds_toArray, List.set_cons_zero, List.set_cons_succ]
  refine wpAnyH_take (i := 6) (v := ?_) rfl (by kernel_rfl) (by kernel_rfl) (by kernel_rfl) (fun _ _ _ h => h) (Or.inl ⟨by rfl, ?_⟩) (by assumption) ?_
  rotate_left
  · (intro w hSw; (try dsimp only at hSw); simp only [List.getElem_toArray, List.getElem_cons_zero, List.getElem_cons_succ]; go_simp; first | done | with_reducible rfl)
  simp only [List.getElem_toArray, List.getElem_cons_zero, List.getElem_cons_succ, Act.put, List.setIfInBounds_toArray, List.set_cons_zero, List.set_cons_succ]
  refine wpAnyH_take (i := 3) (v := ?_) rfl (by kernel_rfl) (by kernel_rfl) (by kernel_rfl) (fun _ _ _ h => h) (Or.inl ⟨by rfl, ?_⟩) (by assumption) ?_
  rotate_left
  · (intro w hSw; (try dsimp only at hSw); simp only [List.getElem_toArray, List.getElem_cons_zero, List.getElem_cons_succ]; go_simp; first | done | with_reducible rfl)
  simp only [List.getElem_toArray, List.getElem_cons_zero, List.getElem_cons_succ, Act.put, List.setIfInBounds_toArray, List.set_cons_zero, List.set_cons_succ]
  refine wpAnyH_take (i := 7) (v := ?_) rfl (by kernel_rfl) (by kernel_rfl) (by kernel_rfl) (fun _ _ _ h => h) (Or.inl ⟨by rfl, ?_⟩) (by assumption) ?_
  rotate_left
  · (intro w hSw; (try dsimp only at hSw); simp only [List.getElem_toArray, List.getElem_cons_zero, List.getElem_cons_succ]; go_simp; first | done | with_reducible rfl)
  simp only [List.getElem_toArray, List.getElem_cons_zero, List.getElem_cons_succ, Act.put, List.setIfInBounds_toArray, List.set_cons_zero, List.set_cons_succ]
  refine wpAnyH_take (i := 8) (v := ?_) rfl (by kernel_rfl) (by kernel_rfl) (by kernel_rfl) (fun _ _ _ h => h) (Or.inl ⟨by rfl, ?_⟩) (by assumption) ?_
  rotate_left
  · (intro w hSw; (try dsimp only at hSw); simp only [List.getElem_toArray, List.getElem_cons_zero, List.getElem_cons_succ]; go_simp; first | done | with_reducible rfl)
  simp only [List.getElem_toArray, List.getElem_cons_zero, List.getElem_cons_succ, Act.put, List.setIfInBounds_toArray, List.set_cons_zero, List.set_cons_succ]
  refine wpAnyH_take (i := 9) (v := ?_) rfl (by kernel_rfl) (by kernel_rfl) (by kernel_rfl) (fun _ _ _ h => h) (Or.inl ⟨by rfl, ?_⟩) (by assumption) ?_
  rotate_left
  · (intro w hSw; (try dsimp only at hSw); simp only [List.getElem_toArray, List.getElem_cons_zero, List.getElem_cons_succ]; go_simp; first | done | with_reducible rfl)
  simp only [List.getElem_toArray, List.getElem_cons_zero, List.getElem_cons_succ, Act.put, List.setIfInBounds_toArray, List.set_cons_zero, List.set_cons_succ]
  refine wpAnyH_take (i := 10) (v := ?_) rfl (by kernel_rfl) (by kernel_rfl) (by kernel_rfl) (fun _ _ _ h => h) (Or.inl ⟨by rfl, ?_⟩) (by assumption) ?_
  rotate_left
  · (intro w hSw; (try dsimp only at hSw); simp only [List.getElem_toArray, List.getElem_cons_zero, List.getElem_cons_succ]; go_simp; first | done | with_reducible rfl)
  simp only [List.getElem_toArray, List.getElem_cons_zero, List.getElem_cons_succ, Act.put, List.setIfInBounds_toArray, List.set_cons_zero, List.set_cons_succ]
  refine wpAnyH_done (by kernel_rfl) ?_ _
  have HEND := Lib.hid hHeld.2
  have HSE := Lib.hid hHeld.1
  clear hHeld
  clear HSS HSE HEND
  go_wp2_with fail
  go_ret3
  exact ⟨gm, gd, q, mp, rfl, HNM.out.below HBE.out, bthn HBX.out HBE.out⟩
theorem zc_ctK {m P : Nat} (h : P < m) : zcN (ctK m P) m = m - P - 1 := by
  unfold zcN
  rw [List.take_of_length_le (by rw [ctK_len h]; exact Nat.le_refl _)]
  unfold ctK
  rw [List.filter_append, List.length_append]
  simp
theorem zc_rep (k : Nat) : zcN (List.replicate k 0) k = k := by
  unfold zcN
  rw [List.take_of_length_le (by simp)]
  simp
set_option maxRecDepth 100000 in
set_option maxHeartbeats 6400000 in
theorem croom_at {w : World} {S B pm pd mf md : Nat} {s : Su} {A D : M} {Fm Fd : List Nat} (h : StB w S B pm pd mf md s A D Fm Fd false) (m k P : Nat) (hb : Bare s m k P) :
    Calls Tryz.prog 44 #[.pointer (some ⟨S, 0, none⟩)] w fun e w' => e = .returned (.tuple #[.int .i64 ((m - P - 1 : Nat) : Int), .int .i64 (k : Int), .int .i64 0]) ∧ Below w.heap.size w w' := by
  have CN := names_at h m k P hb
  have HBR := Lib.hid hb
  clear h hb
  go_enter Tryz.func44, Tryz.ntmps44
  go_wp2_with fail
  refine CN.mono ?_
  rintro e w2 ⟨gm, gd, q, mp, rfl, hnm, hb2⟩
  dsimp only
  have C1 := none_at w2 gm m _ hnm.2.1 (ctK_len (by have := HBR.out.p6; have := HBR.out.m1; omega)) HBR.out.m1.2
  have C2 := none_at w2 gd k _ hnm.2.2.1 List.length_replicate HBR.out.k1.2
  rw [zc_ctK (by have := HBR.out.p6; have := HBR.out.m1; omega)] at C1
  rw [zc_rep] at C2
  obtain ⟨r, hr⟩ : ∃ r, m - P - 1 = r := ⟨_, rfl⟩
  rw [hr] at C1
  have HR := Lib.hid hr
  have HB2 := Lib.hid hb2
  clear CN hnm hb2 hr
  go_wp2_with fail
  refine C1.mono ?_
  rintro e w3 ⟨rfl, rfl⟩
  clear C1
  go_wp2_with fail
  refine C2.mono ?_
  rintro e w3 ⟨rfl, rfl⟩
  clear C2
  go_wp2_with fail
  go_ret3
  rw [HR.out]
  exact ⟨rfl, HB2.out⟩
set_option maxRecDepth 100000 in
set_option maxHeartbeats 3200000 in
theorem trees_zero (w : World) (v : Value) : Calls Tryz.prog 99 #[v, .int .u32 0] w fun e w' => e = .returned (.slice none 0 0) ∧ w = w' := by
  go_enter Tryz.func99, Tryz.ntmps99
  go_wp2_with fail
  go_ret
  exact ⟨rfl, rfl⟩
set_option maxRecDepth 100000 in
set_option maxHeartbeats 3200000 in
theorem len64_zero (w : World) : Calls Tryz.prog 177 #[.int .u64 0] w fun e w' => e = .returned (.int .i64 0) ∧ w = w' := by
  go_enter Tryz.func177, Tryz.ntmps177
  go_wp2_with fail
  go_ret
  exact ⟨by kernel_rfl, rfl⟩
set_option maxRecDepth 100000 in
set_option maxHeartbeats 3200000 in
theorem blen_zero (w : World) : Calls Tryz.prog 144 #[.int .u64 0] w fun e w' => e = .returned (.int .i64 0) ∧ w = w' := by
  have C := len64_zero w
  go_enter Tryz.func144, Tryz.ntmps144
  go_wp2_with fail
  refine C.mono ?_
  rintro e w3 ⟨rfl, rfl⟩
  clear C
  go_wp2_with fail
  go_ret
  exact ⟨rfl, rfl⟩
set_option maxRecDepth 100000 in
set_option maxHeartbeats 3200000 in
theorem isort_zero (w : World) (f : Value) : Calls Tryz.prog 168 #[.slice none 0 0, .int .i64 0, .int .i64 0, f] w fun e w' => e = .returned (.tuple #[]) ∧ w = w' := by
  go_enter Tryz.func168, Tryz.ntmps168
  go_wp2_with fail
  go_loopw [8] (fun v wr => v = .int .i64 1 ∧ w = wr) (fun _ _ => 0)
  case atStart => exact ⟨rfl, rfl⟩
  case round =>
    obtain ⟨rfl, rfl⟩ := hrel
    go_wp2_with fail
    go_end0
    exact ⟨rfl, rfl⟩
set_option maxRecDepth 100000 in
set_option maxHeartbeats 3200000 in
theorem pdq_zero (w : World) (f : Value) : Calls Tryz.prog 143 #[.slice none 0 0, .int .i64 0, .int .i64 0, .int .i64 0, f] w fun e w' => e = .returned (.tuple #[]) ∧ w = w' := by
  have C := isort_zero w f
  go_enter Tryz.func143, Tryz.ntmps143
  go_wp2_with fail
  go_loopw [1, 2] (fun a b wr => a = .int .i64 0 ∧ b = .int .i64 0 ∧ w = wr) (fun _ _ _ => 0)
  case atStart => exact ⟨rfl, rfl, rfl⟩
  case round =>
    obtain ⟨rfl, rfl, rfl⟩ := hrel
    go_wp2_with fail
    refine C.mono ?_
    rintro e w3 ⟨rfl, rfl⟩
    clear C
    go_wp2_with fail
    exact bodyPost_ret (v := .tuple #[]) (by kernel_rfl) rfl ⟨rfl, rfl⟩
set_option maxRecDepth 100000 in
set_option maxHeartbeats 3200000 in
theorem sortf_zero (w : World) (f : Value) : Calls Tryz.prog 101 #[.slice none 0 0, f] w fun e w' => e = .returned (.tuple #[]) ∧ w = w' := by
  have CB := blen_zero w
  have C := pdq_zero w f
  go_enter Tryz.func101, Tryz.ntmps101
  go_wp2_with fail
  refine CB.mono ?_
  rintro e w3 ⟨rfl, rfl⟩
  clear CB
  go_wp2_with fail
  refine C.mono ?_
  rintro e w3 ⟨rfl, rfl⟩
  clear C
  go_wp2_with fail
  go_end0
  exact ⟨rfl, rfl⟩
set_option maxRecDepth 100000 in
set_option maxHeartbeats 3200000 in
theorem compact_zero (w : World) : Calls Tryz.prog 102 #[.slice none 0 0] w fun e w' => e = .returned (.slice none 0 0) ∧ w = w' := by
  go_enter Tryz.func102, Tryz.ntmps102
  go_wp2_with fail
  go_ret
  exact ⟨rfl, rfl⟩
end Go.Proofs.YtcdobdjemlaaaaaGreat
