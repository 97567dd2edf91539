import Derived.Test.YtgmahhdnjikdjaaGreatVG31
import Derived.Laws.Bits64b
import Derived.Test.YtgmahhdnjikdjaaGreatVG9
import Derived.Test.YtgmahhdnjikdjaaGreatVG19
import Derived.Test.YtgmahhdnjikdjaaGreatVG8
import Derived.Test.YtgmahhdnjikdjaaGreatVG10
import Derived.Test.YtgmahhdnjikdjaaGreatVG11
import Derived.Test.YtgmahhdnjikdjaaGreatVG24
import Derived.Test.YtgmahhdnjikdjaaGreatVG16
import Derived.Test.YtgmahhdnjikdjaaGreatVG21
import Derived.Test.YtgmahhdnjikdjaaGreatVG22
set_option linter.unusedVariables false
set_option linter.unusedSimpArgs false
/- The steps of the law's known of layer 11, from their contracts. -/
namespace Go.Proofs.YtgmahhdnjikdjaaGreat
open Go.RowKit Go.Maps Wire
set_option linter.unusedVariables false
set_option linter.unusedSimpArgs false
section
variable {w0 w : World} {S B pm pd mf md : Nat} {s : Su} {A D : M} {Fm Fd : List Nat} {q j : Nat} {g : List (Nat × Nd)}
theorem vt_hold0 (h : VT w0 w S B pm pd mf md s Fm Fd A D q g j) : Calls Tryz.prog 42 #[.pointer (some ⟨S, 0, none⟩), .int .u32 0] w fun e w' => e = .returned (.int .i64 0) ∧ w = w' := by
 obtain ⟨l, ld, iv, jv, d, hV, _⟩ := h
 exact shold_0 hV.st
theorem vt_drop0 (h : VT w0 w S B pm pd mf md s Fm Fd A D q g j) : Calls Tryz.prog 37 #[.pointer (some ⟨S, 0, none⟩), .int .u32 0] w fun e w' => e = .returned (.int .i64 0) ∧ Below w.heap.size w w' := by
 obtain ⟨l, ld, iv, jv, d, hV, _⟩ := h
 exact sdrop_0 hV.st
theorem fm_sub {mf : Nat} {Fm Fd : List Nat} : ∀ k ∈ Fm, k ∈ mf :: (Fm ++ Fd) := fun k hk => by simp [hk]
theorem fd_sub {mf : Nat} {Fm Fd : List Nat} : ∀ k ∈ Fd, k ∈ mf :: (Fm ++ Fd) := fun k hk => by simp [hk]
theorem vt_hold (h : VT w0 w S B pm pd mf md s Fm Fd A D q g j) (hl : A.now.length = 200) (n : Nat) (hn0 : n ≠ 0) (hn : n < 200) (c : Nat) (hc : ctN A.now n = c) (hc1 : 1 ≤ c ∧ c < 1000) :
  Calls Tryz.prog 42 #[.pointer (some ⟨S, 0, none⟩), .int .u32 (n : Int)] w fun e w' => e = .returned (.int .i64 0) ∧ VT w0 w' S B pm pd mf md s Fm Fd (A.put n (c + 1)) D q g j ∧ Mods (mf :: (Fm ++ Fd)) w w' := by
 obtain ⟨l, ld, iv, jv, d, hV, hL, h2⟩ := h
 refine (shold_in hV.st n hn0 (by rw [hl]; exact hn) (by omega) (by omega)).mono ?_
 rintro e w' ⟨he, hst, hm⟩
 have hm2 := hm.mono (fm_sub (mf := mf) (Fd := Fd))
 rw [hc] at hst
 exact ⟨he, ⟨l, ld, iv, jv, d, hV.step hst hm2 (fun p hp => .inl hp), hL, h2⟩, hm2⟩
theorem vt_drop (h : VT w0 w S B pm pd mf md s Fm Fd A D q g j) (hl : A.now.length = 200) (n : Nat) (hn0 : n ≠ 0) (hn : n < 200) (c : Nat) (hc : ctN A.now n = c) (hc1 : 2 ≤ c) :
  Calls Tryz.prog 37 #[.pointer (some ⟨S, 0, none⟩), .int .u32 (n : Int)] w fun e w' => e = .returned (.int .i64 0) ∧ VT w0 w' S B pm pd mf md s Fm Fd (A.put n (c - 1)) D q g j ∧ Mods (mf :: (Fm ++ Fd)) w w' := by
 obtain ⟨l, ld, iv, jv, d, hV, hL, h2⟩ := h
 refine (sdrop_more hV.st n hn0 (by rw [hl]; exact hn) (by omega)).mono ?_
 rintro e w' ⟨he, hst, hm⟩
 have hm2 := hm.mono (fm_sub (mf := mf) (Fd := Fd))
 rw [hc] at hst
 exact ⟨he, ⟨l, ld, iv, jv, d, hV.step hst hm2 (fun p hp => .inl hp), hL, h2⟩, hm2⟩
theorem vt_dropd (h : VT w0 w S B pm pd mf md s Fm Fd A D q g j) (n : Nat) (hn : n < D.now.length) (c : Nat) (hc : ctN D.now n = c) (hc1 : 2 ≤ c) :
  Calls Tryz.prog 41 #[.pointer (some ⟨S, 0, none⟩), .int .u32 (n : Int)] w fun e w' => e = .returned (.int .i64 0) ∧ VT w0 w' S B pm pd mf md s Fm Fd A (D.put n (c - 1)) q g j ∧ Mods (mf :: (Fm ++ Fd)) w w' := by
 obtain ⟨l, ld, iv, jv, d, hV, hL, h2⟩ := h
 refine (sdropd_in hV.st n hn (by omega)).mono ?_
 rintro e w' ⟨he, hst, hm⟩
 have hm2 := hm.mono (fd_sub (mf := mf) (Fm := Fm))
 rw [hc] at hst
 exact ⟨he, ⟨l, ld, iv, jv, d, hV.step hst hm2 (fun p hp => .inl hp), hL, h2⟩, hm2⟩
theorem vt_data (h : VT w0 w S B pm pd mf md s Fm Fd A D q g j) (hmt : s.mt = ((200 : Nat) : Int)) (b : List UInt8) (hb : b.length = 256) (i : Nat) (hf : find D 0 = some i) (hi : i < 60) (hj : j ≤ 100) :
  Calls Tryz.prog 49 #[.pointer (some ⟨S, 0, none⟩), .agg (bV b).toArray] w fun e w' => e = .returned (.tuple #[.int .u32 (i : Int), .int .i64 0]) ∧ VT w0 w' S B pm pd mf md s Fm Fd A (allocM D i) q g (j + 1) := by
 obtain ⟨l, ld, iv, jv, d, hV, hL, hld, hd1, hd2, hd3, hd4⟩ := h
 refine (snewdata_at hV.st hV.dk hV.bel.size hd1 hd2 (by rw [hd3]; omega) (by omega) hV.im (by omega) b hb i hf 200 hmt (by rw [hd3]; omega)).mono ?_
 rintro e w' ⟨he, hst, him, jv', hdk, hm⟩
 have hw := Dk.wrN_at d (2 + 200 + i) b 4
 refine ⟨he, l, _, iv, jv', _, ⟨hst, hdk, him, hV.bel.trans (hm.below (fun k hk => ?_) hV.bel.size), hV.ge⟩, hL, ?_, ?_, ?_, ?_, ?_⟩
 ·rcases List.mem_cons.1 hk with rfl | hk
  ·exact hV.ge _ (by simp [stF])
  ·rcases List.mem_append.1 hk with hk | hk
   ·exact hV.ge k (by simp [stF, hk])
   ·exact (hV.dk.at_.inF k hk).1
 ·have h1 := putA_len i true ld
  omega
 ·show (d.wrN _ b 4).left < 0
  rw [hw.2.1]; exact hd1
 ·show (d.wrN _ b 4).dead = false
  rw [hw.2.2.1]; exact hd2
 ·rw [Dk.wrK_img, wrB_len]; exact hd3
 ·show (d.wrN _ b 4).jr.length ≤ _
  rw [hw.2.2.2]; omega
theorem y5_b (s : Su) : ({ y5a s with b := s.tx + 1 } : Nd) = y5a s := rfl
/-- A leaf that is named three times. -/
theorem vt_shad (h : VT w0 w S B pm pd mf md s Fm Fd A4 D2 q [(4, y4c s), (5, y5a s)] j) (htx : s.tx + 1 < 18446744073709551616) (hq : q ≤ 9000) :
  Calls Tryz.prog 33 #[.pointer (some ⟨S, 0, none⟩), .int .u32 ((5 : Nat) : Int), .int .i64 2, .int .u64 ((3 : Nat) : Int), .int .u64 ((1 : Nat) : Int)] w fun e w' => e = .returned (.tuple #[.int .u32 ((6 : Nat) : Int), .int .u64 ((0 : Nat) : Int), .bool true, .int .i64 0]) ∧ VT w0 w' S B pm pd mf md s Fm Fd A5 D3 (q + 1) [(4, y4c s), (5, y5a s), (6, y6a s)] j ∧ Mods (mf :: (Fm ++ Fd)) w w' := by
 obtain ⟨l, ld, iv, jv, d, hV, hL, h2⟩ := h
 obtain ⟨x, hx⟩ := hL.2 (5, y5a s) (by simp)
 have l4 : A4.now.length = 200 := lA.2.2.2.2.1
 have l5 : A5.now.length = 200 := lA.2.2.2.2.2.1
 have e3 : D2.put 0 (ctN D2.now 0 + 1) = D3 := by rw [cD.1]; rfl
 refine (tPutS_by hV.st 5 6 (by omega) (by rw [l4]; omega) 2 (.inl rfl) 3 1 (y6a s) 0 true (A2 := A5) (D2 := D3) (fun X hX => ?_)).mono ?_
 ·refine tput_leafS (hV.st.below hX) 5 6 (y5a s) (y5a_ok s) (by show (2 : Int) ≠ 1; decide) ⟨by omega, by rw [l5]; omega, fun xx => ?_⟩ (fun Z hZ => ?_) 3 1 ⟨by decide, by decide⟩ 0 rfl rfl 0 rfl (y6a s) rfl true rfl
  ·have h1 := putA_len 6 ((xx, y5a s) : NdV × Nd) l
   have h3 := hL.1
   omega
  ·refine (sshad_more ((hV.st.below hX).below hZ) 5 (by omega) (by rw [l4]; omega) 3 c5.2.2.1 (by omega) x (y5a s) hx (y5a_ok s) rfl 0 rfl (by rw [lD.2.2.1]; omega) (by rw [cD.1]; omega) (by rw [cD.1]; omega) 6 fA4 c5.2.2.2.1 lA6 htx (by have h3 := hL.1; omega)).mono ?_
   rintro e w' ⟨x1, xx, bs, he, hnd, hst, hm, h3, h4, h5⟩
   rw [y5_b] at hnd hst h4
   rw [e3] at hst
   exact ⟨x1, xx, bs, he, hnd, hst, hm, h3, h4, h5⟩
 ·rintro e w' ⟨x2, he, hst, hm, hge⟩
  refine ⟨he, ⟨_, ld, iv, jv, d, hV.step hst hm (fun p hp => ?_), hL.put 6 x2 _ (fun p hp => ?_), h2⟩, hm⟩
  ·rcases mem_putA hp with rfl | hp
   ·exact .inr hge
   ·exact .inl hp
  ·simp at hp
   rcases hp with rfl | rfl | rfl
   ·exact .inr ⟨by simp, by show (4 : Nat) ≠ 6; omega⟩
   ·exact .inr ⟨by simp, by show (5 : Nat) ≠ 6; omega⟩
   ·exact .inl rfl
/-- The boxes of Map's closure. -/
def Bx3 (S b5 b8 b9 v : Nat) (X : World) : Prop := X.cell? ⟨b5, 0, none⟩ = some (.pointer (some ⟨S, 0, none⟩)) ∧ X.cell? ⟨b8, 0, none⟩ = some (.int .i64 3) ∧ X.cell? ⟨b9, 0, none⟩ = some (.int .u32 (v : Int))
theorem cell_mods {X Y : World} {F : List Nat} {b : Nat} {u : Value} (hm : Mods F X Y) (hb : b ∉ F) (h : X.cell? ⟨b, 0, none⟩ = some u) : Y.cell? ⟨b, 0, none⟩ = some u :=
 (World.cell?_of_block (a := ⟨b, 0, none⟩) (hm.block b (World.block_lt_of_cell? X _ h) hb)).trans h
theorem Bx3.mods {S b5 b8 b9 v : Nat} {X Y : World} {F : List Nat} (h : Bx3 S b5 b8 b9 v X) (hm : Mods F X Y) (h5 : b5 ∉ F) (h8 : b8 ∉ F) (h9 : b9 ∉ F) : Bx3 S b5 b8 b9 v Y :=
 ⟨cell_mods hm h5 h.1, cell_mods hm h8 h.2.1, cell_mods hm h9 h.2.2⟩
theorem Bx3.below {S b5 b8 b9 v : Nat} {X Y : World} (h : Bx3 S b5 b8 b9 v X) (hb : Below X.heap.size X Y) : Bx3 S b5 b8 b9 v Y := h.mods (Mods.of_below (F := []) hb) (by simp) (by simp) (by simp)
theorem vk_create (h : VT w0 w S B pm pd mf md s Fm Fd A0 D0 0 [] 0) (htx : s.tx + 1 < 18446744073709551616) :
  Calls Tryz.prog 7 #[.pointer (some ⟨S, 0, none⟩), .int .u32 0, .int .u64 1, .int .i64 8] w fun e w' => e = .returned (.tuple #[.int .u32 4, .int .i64 0]) ∧ VT w0 w' S B pm pd mf md s Fm Fd A1 D0 1 [(4, y4a s)] 0 :=
 vcreate_by h.stB _ 4 0 false (fun X hX => vget_none (h.below hX).stB 0 (by rw [lA.1]; omega) 1 (by omega) (by omega) (fun Y hY => tget_0 ((h.below hX).below hY).stB 1))
  (fun X hX => (vt_new (h.below hX) htx 3 1 8 (.inr rfl) (by omega) (by omega) 4 fA0 (by omega) [(4, y4a s)] (fun p hp => .inl (List.mem_singleton.1 hp))).mono fun e w' hp => ⟨hp.1, hp.2.1⟩)
theorem vk_map1 (h : VT w0 w S B pm pd mf md s Fm Fd A1 D1 1 [(4, y4a s)] 1) (htx : s.tx + 1 < 18446744073709551616) :
  Calls Tryz.prog 12 #[.pointer (some ⟨S, 0, none⟩), .int .u32 ((4 : Nat) : Int), .int .u64 1, .int .i64 3, .int .u32 ((0 : Nat) : Int)] w fun e w' => e = .returned (.tuple #[.int .u32 ((4 : Nat) : Int), .int .i64 0]) ∧ VT w0 w' S B pm pd mf md s Fm Fd A2 D1 3 [(4, y4b s), (5, y5a s)] 1 := by
 have l1 := lA.2.1
 have l2 := lA.2.2.1
 have hg : ∀ X, Below w.heap.size w X → Calls Tryz.prog 6 #[.pointer (some ⟨S, 0, none⟩), .int .u32 ((4 : Nat) : Int), .int .u64 1] X fun e w' => e = .returned (.tuple #[.int .u32 0, .int .i64 8, .bool true, .int .i64 0]) ∧ Below X.heap.size X w' := fun X hX =>
  vget_by (h.below hX).stB 4 (by rw [l1]; omega) 1 (by omega) (by omega) 0 (.inl rfl) (fun Y hY => vt_get ((h.below hX).below hY) l1 4 (by omega) (by omega) (by rw [c4.1]; omega) (y4a s) (y4a_ok s) (by show (3 : Int) ≠ 1; decide) (by simp) 1 8 rfl rfl)
 refine vmap_by h.stB 4 (by rw [l1]; omega) 0 (by rw [lD.2.1]; omega) (by omega) 0 _ hg (fun X b5 b8 b9 hX hge k5 k8 k9 => ?_)
 refine vchange_by X S b5 b8 b9 ((4 : Nat) : Int) 0 5 8 21474836488 (.inl ⟨rfl, rfl, rfl, rfl⟩) (fun Y => VT w0 Y S B pm pd mf md s Fm Fd A1 D1 1 [(4, y4a s)] 1 ∧ Bx3 S b5 b8 b9 0 Y) (fun Y => VT w0 Y S B pm pd mf md s Fm Fd A2 D1 2 [(4, y4a s), (5, y5a s)] 1) (fun Y => VT w0 Y S B pm pd mf md s Fm Fd A2 D1 3 [(4, y4b s), (5, y5a s)] 1) _ true (hg X hX) (fun Y hY => ?_) (fun Y hY => ?_) (fun Y hY => ?_) (fun Y hY => ?_)
 ·refine (vt_hold0 ((h.below hX).below hY)).mono ?_
  rintro e w' ⟨he, rfl⟩
  exact ⟨he, (h.below hX).below hY, Bx3.below ⟨k5, k8, k9⟩ hY⟩
 ·exact vmap1_no Y S b5 b8 b9 0 (by omega) hY.2.1 hY.2.2.1 hY.2.2.2 _ 0 5 0 ((vt_new hY.1 htx 2 3 0 (.inl rfl) (by omega) (by omega) 5 fA1 (by omega) [(4, y4a s), (5, y5a s)] (fun p hp => by
   simp at hp
   rcases hp with rfl | rfl
   ·exact .inr ⟨by simp, by show (4 : Nat) ≠ 5; omega⟩
   ·exact .inl rfl)).mono fun e w' hp => ⟨hp.1, hp.2.1⟩)
 ·exact (vt_setv hY l2 4 (by omega) (by omega) c4.2.1 (y4a s) (y4a_ok s) 3 (.inr rfl) rfl (by simp) (by omega) 1 21474836488 0 8 ⟨by omega, by omega⟩ rfl rfl rfl (y4b s) rfl [(4, y4b s), (5, y5a s)] (fun p hp => by
   simp at hp
   rcases hp with rfl | rfl
   ·exact .inl rfl
   ·exact .inr ⟨by simp, by show (5 : Nat) ≠ 4; omega⟩)).mono fun e w' hp => ⟨hp.1, hp.2.1⟩
 ·exact (vt_drop0 hY).mono fun e w' hp => ⟨hp.1, hY.below hp.2⟩
theorem vk_snap (h : VT w0 w S B pm pd mf md s Fm Fd A2 D1 3 [(4, y4b s), (5, y5a s)] 1) (htx : s.tx + 1 < 18446744073709551616) :
  Calls Tryz.prog 10 #[.pointer (some ⟨S, 0, none⟩), .int .u32 ((4 : Nat) : Int), .int .u64 1, .int .u64 2] w fun e w' => e = .returned (.tuple #[.int .u32 4, .int .i64 0]) ∧ VT w0 w' S B pm pd mf md s Fm Fd A3 D1 4 [(4, y4c s), (5, y5a s)] 1 := by
 have l2 := lA.2.2.1
 have l3 := lA.2.2.2.1
 refine vsnap_by h.stB 4 (by rw [l2]; omega) (fun Y => VT w0 Y S B pm pd mf md s Fm Fd A3 D1 3 [(4, y4b s), (5, y5a s)] 1) _ 4 0 false (fun X hX => ?_) (fun X hX => ?_) (fun X hX => ?_) (fun X hX => ?_)
 ·exact vget_by (h.below hX).stB 4 (by rw [l2]; omega) 1 (by omega) (by omega) 5 (.inr (.inl rfl)) (fun Y hY => vt_get ((h.below hX).below hY) l2 4 (by omega) (by omega) (by rw [c4.2.1]; omega) (y4b s) (y4b_ok s) (by show (3 : Int) ≠ 1; decide) (by simp) 1 21474836488 rfl rfl)
 ·exact vget_none (h.below hX).stB 4 (by rw [l2]; omega) 2 (by omega) (by omega) (fun Y hY => vt_getNo ((h.below hX).below hY) l2 4 (by omega) (by omega) (by rw [c4.2.1]; omega) (y4b s) (y4b_ok s) (by show (3 : Int) ≠ 1; decide) (by simp) 2 (by show ¬ (none : Option Nat) = some 2; simp))
 ·exact (vt_hold (h.below hX) l2 5 (by omega) (by omega) 1 c5.1 (by omega)).mono fun e w' hp => ⟨hp.1, hp.2.1⟩
 ·exact (vt_add hX l3 4 (by omega) (by omega) c4.2.2.1 (y4b s) (y4b_ok s) 3 (.inr rfl) rfl (by simp) (by omega) 2 21474836488 ⟨by omega, by omega⟩ (fun a ha => by have h1 : a = 1 := (by simpa [y4b] using ha); omega) (by show 1 ≤ 1 ∧ 1 ≤ 5; omega) (y4c s) rfl [(4, y4c s), (5, y5a s)] (fun p hp => by
   simp at hp
   rcases hp with rfl | rfl
   ·exact .inl rfl
   ·exact .inr ⟨by simp, by show (5 : Nat) ≠ 4; omega⟩)).mono fun e w' hp => ⟨hp.1, hp.2.1⟩
theorem vk_map2 (h : VT w0 w S B pm pd mf md s Fm Fd A3 D2 4 [(4, y4c s), (5, y5a s)] 2) (htx : s.tx + 1 < 18446744073709551616) :
  Calls Tryz.prog 12 #[.pointer (some ⟨S, 0, none⟩), .int .u32 ((4 : Nat) : Int), .int .u64 1, .int .i64 3, .int .u32 ((1 : Nat) : Int)] w fun e w' => e = .returned (.tuple #[.int .u32 ((4 : Nat) : Int), .int .i64 0]) ∧ VT w0 w' S B pm pd mf md s Fm Fd A6 D4 6 [(4, y4d s), (5, y5a s)] 2 := by
 have l3 := lA.2.2.2.1
 have l4 := lA.2.2.2.2.1
 have l5 := lA.2.2.2.2.2.1
 have hg : ∀ X, Below w.heap.size w X → Calls Tryz.prog 6 #[.pointer (some ⟨S, 0, none⟩), .int .u32 ((4 : Nat) : Int), .int .u64 1] X fun e w' => e = .returned (.tuple #[.int .u32 5, .int .i64 8, .bool true, .int .i64 0]) ∧ Below X.heap.size X w' := fun X hX =>
  vget_by (h.below hX).stB 4 (by rw [l3]; omega) 1 (by omega) (by omega) 5 (.inr (.inl rfl)) (fun Y hY => vt_get ((h.below hX).below hY) l3 4 (by omega) (by omega) (by rw [c4.2.2.1]; omega) (y4c s) (y4c_ok s) (by show (3 : Int) ≠ 1; decide) (by simp) 1 21474836488 rfl rfl)
 have hlt := h.lt
 refine vmap_by h.stB 4 (by rw [l3]; omega) 1 (by rw [lD.2.2.1]; omega) (by omega) 5 _ hg (fun X b5 b8 b9 hX hge k5 k8 k9 => ?_)
 have hn5 : b5 ∉ mf :: (Fm ++ Fd) := fun hh => by have h1 := hlt b5 hh; omega
 have hn8 : b8 ∉ mf :: (Fm ++ Fd) := fun hh => by have h1 := hlt b8 hh; omega
 have hn9 : b9 ∉ mf :: (Fm ++ Fd) := fun hh => by have h1 := hlt b9 hh; omega
 refine vchange_by X S b5 b8 b9 ((4 : Nat) : Int) 5 6 21474836488 25769803784 (.inr ⟨rfl, rfl, rfl, rfl⟩) (fun Y => VT w0 Y S B pm pd mf md s Fm Fd A4 D2 4 [(4, y4c s), (5, y5a s)] 2 ∧ Bx3 S b5 b8 b9 1 Y) (fun Y => VT w0 Y S B pm pd mf md s Fm Fd A5 D4 5 [(4, y4c s), (5, y5a s), (6, y6a s)] 2) (fun Y => VT w0 Y S B pm pd mf md s Fm Fd A5 D4 6 [(4, y4d s), (5, y5a s)] 2) _ true (hg X hX) (fun Y hY => ?_) (fun Y hY => ?_) (fun Y hY => ?_) (fun Y hY => ?_)
 ·refine (vt_hold ((h.below hX).below hY) l3 5 (by omega) (by omega) 2 c5.2.1 (by omega)).mono ?_
  rintro e w' ⟨he, hv, hm⟩
  exact ⟨he, hv, (Bx3.below ⟨k5, k8, k9⟩ hY).mods hm hn5 hn8 hn9⟩
 ·refine vmap1_had Y S b5 b8 b9 1 (by omega) hY.2.1 hY.2.2.1 hY.2.2.2 (fun Z => VT w0 Z S B pm pd mf md s Fm Fd A5 D3 5 [(4, y4c s), (5, y5a s), (6, y6a s)] 2) _ 5 6 ((vt_shad hY.1 htx (by omega)).mono ?_) (fun Z hZ => ?_)
  ·rintro e w' ⟨he, hv, hm⟩
   exact ⟨he, hv, (hY.2.mods hm hn5 hn8 hn9).1⟩
  ·exact (vt_dropd hZ 0 (by rw [lD.2.2.2.1]; omega) 2 cD.2 (by omega)).mono fun e w' hp => ⟨hp.1, hp.2.1⟩
 ·exact (vt_setv hY l5 4 (by omega) (by omega) c4.2.2.2.2.1 (y4c s) (y4c_ok s) 3 (.inr rfl) rfl (by simp) (by omega) 1 25769803784 0 21474836488 ⟨by omega, by omega⟩ rfl rfl rfl (y4d s) rfl [(4, y4d s), (5, y5a s)] (fun p hp => by
   simp at hp
   rcases hp with rfl | rfl
   ·exact .inl rfl
   ·exact .inr ⟨by simp, by show (5 : Nat) ≠ 4; omega⟩)).mono fun e w' hp => ⟨hp.1, hp.2.1⟩
 ·exact (vt_drop hY l5 5 (by omega) (by omega) 2 c5.2.2.2.2.1 (by omega)).mono fun e w' hp => ⟨hp.1, hp.2.1⟩
theorem vk_find (h : VT w0 w S B pm pd mf md s Fm Fd A6 D4 6 [(4, y4d s), (5, y5a s)] 2) :
  Calls Tryz.prog 11 #[.pointer (some ⟨S, 0, none⟩), .int .u32 ((4 : Nat) : Int), .int .u64 2, .int .i64 3] w fun e w' => e = .returned (.tuple #[.int .u32 0, .bool true, .int .i64 0]) ∧ Below w.heap.size w w' := by
 have l6 := lA.2.2.2.2.2.2
 refine vfind_by w S ((4 : Nat) : Int) 2 5 ?_ (fun X hX => ?_)
 ·exact vget_by h.stB 4 (by rw [l6]; omega) 2 (by omega) (by omega) 5 (.inr (.inl rfl)) (fun Y hY => vt_get (h.below hY) l6 4 (by omega) (by omega) (by rw [c4.2.2.2.2.2]; omega) (y4d s) (y4d_ok s) (by show (3 : Int) ≠ 1; decide) (by simp) 2 21474836488 rfl rfl)
 ·exact vt_get (h.below hX) l6 5 (by omega) (by omega) (by rw [c5.2.2.2.2.2]; omega) (y5a s) (y5a_ok s) (by show (2 : Int) ≠ 1; decide) (by simp) 3 0 rfl rfl
end
end Go.Proofs.YtgmahhdnjikdjaaGreat
/- block: what is no node's (its kind is none's), walked: May, Block, Of. -/
namespace Go.Proofs.YtgmahhdnjikdjaaGreat
open Go.RowKit Wire
set_option linter.unusedVariables false
set_option linter.unusedSimpArgs false
end Go.Proofs.YtgmahhdnjikdjaaGreat
/- block: Of, of what is no node's, walked. (Printed by mkrn1.py.) -/
namespace Go.Proofs.YtgmahhdnjikdjaaGreat
open Go.RowKit Wire
set_option linter.unusedVariables false
set_option linter.unusedSimpArgs false
theorem GetS.below {w w' : World} {qb qa a : Nat} {R : List UInt8} (h : GetS w qb qa a R) (hb : Below w.heap.size w w') : GetS w' qb qa a R :=
 ⟨(hb.block _ (Array.getElem?_eq_some_iff.1 h.1).1).trans h.1, (hb.block _ (Array.getElem?_eq_some_iff.1 h.2).1).trans h.2⟩
/-- What stands behind so many keys and values. -/
def BfS (w0 : Nat) (W : World) (qb qa g a : Nat) (R : List UInt8) (kd bb : Int) (n1 n2 : Nat) : Prop := ∃ v1 v2 L1 L2, GetS W qb qa a R ∧ W.heap[g]? = some (.cells #[.int .i64 kd, .int .u64 bb, v1, v2] 159 (0, 0)) ∧ W.ownsRow w0 26 1 v1 n1 L1 ∧ W.ownsRow w0 26 1 v2 n2 L2 ∧ ∀ k ∈ ob v1, k ∉ ob v2
/-- Behind an append. -/
def BfM (w0 : Nat) (W Z : World) (qb qa a : Nat) (R : List UInt8) (v v' : Value) (n : Nat) : Prop := GetS Z qb qa a R ∧ Mods (qa :: ob v) W Z ∧ (∃ L, Z.ownsRow w0 26 1 v' n L) ∧ ∀ k ∈ ob v', k ∈ ob v ∨ W.heap.size ≤ k
/-- What no node is answers. -/
def ndZL : List Value := [.int .i64 0, .int .u64 0, .slice none 0 0, .slice none 0 0]
end Go.Proofs.YtgmahhdnjikdjaaGreat
/- A page that is none's: page.Of, readPages, store.Open, walked. (Printed by mkrn2.py.) -/
namespace Go.Proofs.YtgmahhdnjikdjaaGreat
open Go.RowKit Wire
set_option linter.unusedVariables false
set_option linter.unusedSimpArgs false
end Go.Proofs.YtgmahhdnjikdjaaGreat
/- check: walk (of a store without trees), walked. -/
namespace Go.Proofs.YtgmahhdnjikdjaaGreat
open Go.RowKit Wire
set_option linter.unusedVariables false
set_option linter.unusedSimpArgs false
theorem tag_ne {w : World} {j k : Nat} {cs ds : Array Value} {e f : TypeId} {a b : Nat × Nat} (h1 : w.heap[j]? = some (.cells cs e a)) (h2 : w.heap[k]? = some (.cells ds f b)) (hne : e ≠ f) : j ≠ k := by
 rintro rfl
 rw [h1] at h2
 exact hne (Obj.cells.inj (Option.some.inj h2)).2.1
end Go.Proofs.YtgmahhdnjikdjaaGreat
/- check: Names, none, Room, and what Store calls where there are no trees, walked. -/
namespace Go.Proofs.YtgmahhdnjikdjaaGreat
open Go.RowKit Wire
set_option linter.unusedVariables false
set_option linter.unusedSimpArgs false
/-- How many of the first are noughts. -/
def zcN (l : List Nat) (i : Nat) : Nat := ((l.take i).filter (· == 0)).length
/-- A store without trees. -/
structure Bare (s : Su) (m k P : Nat) : Prop where
 sm : s.mt = (m : Int)
 sk : s.data = (k : Int)
 rt : s.top = 0 ∧ s.base = 0 ∧ s.stage = 0
 pP : pagesN m + pagesN k = P
 p6 : P ≤ 6
 pg : ∀ i, i < P → s.pages.getD i 0 = i + 1
 m1 : 16 ≤ m ∧ m ≤ 1000
 k1 : 1 ≤ k ∧ k ≤ 1000
end Go.Proofs.YtgmahhdnjikdjaaGreat
/- check: Store (of a store without trees); the law's known of layer 16, walked. -/
namespace Go.Proofs.YtgmahhdnjikdjaaGreat
open Go.RowKit Wire
set_option linter.unusedVariables false
set_option linter.unusedSimpArgs false
theorem StB.mods {w w' : World} {S B pm pd mf md : Nat} {s : Su} {A D : M} {Fm Fd F : List Nat} {bk : Bool} (h : StB w S B pm pd mf md s A D Fm Fd bk) (hm : Mods F w w') (h1 : S ∉ F) (h2 : ∀ k ∈ Fm, k ∉ F) (h3 : ∀ k ∈ Fd, k ∉ F) : StB w' S B pm pd mf md s A D Fm Fd bk :=
 ⟨(hm.block _ (Array.getElem?_eq_some_iff.1 h.box).1 h1).trans h.box, h.ma.same (fun j hj => hm.block j (h.ma.lt j hj) (h2 j hj)), h.da.same (fun j hj => hm.block j (h.da.lt j hj) (h3 j hj)), h.mok, h.dok, h.ml, h.dl, h.wf⟩
theorem NmAt.mods {w w' : World} {q gm gd mp m k o : Nat} {lm ld : List Nat} {cs : Array Value} {t : TypeId} {f : Nat × Nat} (h : NmAt w q gm gd mp m k lm ld) (hm : Mods [o] w w') (ho : w.heap[o]? = some (.cells cs t f)) (h1 : t ≠ 327) (h2 : t ≠ 3) : NmAt w' q gm gd mp m k lm ld := by
 have e : ∀ j ds t2 f2, w.heap[j]? = some (.cells ds t2 f2) → t ≠ t2 → j ∉ [o] := fun j ds t2 f2 hj hne hmem => tag_ne ho hj hne (List.mem_singleton.1 hmem).symm
 exact ⟨(hm.block _ (Array.getElem?_eq_some_iff.1 h.1).1 (e _ _ _ _ h.1 h1)).trans h.1, (hm.block _ (Array.getElem?_eq_some_iff.1 h.2.1).1 (e _ _ _ _ h.2.1 h2)).trans h.2.1, (hm.block _ (Array.getElem?_eq_some_iff.1 h.2.2.1).1 (e _ _ _ _ h.2.2.1 h2)).trans h.2.2.1, h.2.2.2⟩
end Go.Proofs.YtgmahhdnjikdjaaGreat
/- The law's known of layer 16, walked. -/
namespace Go.Proofs.YtgmahhdnjikdjaaGreat
open Go.RowKit Wire
set_option linter.unusedVariables false
set_option linter.unusedSimpArgs false
end Go.Proofs.YtgmahhdnjikdjaaGreat
/- A disk's copy; Load and Open where there is no superblock; what check answers of what is not there; CheckNil, walked. (Printed by mkck6.py.) -/
namespace Go.Proofs.YtgmahhdnjikdjaaGreat
open Go.RowKit Wire
set_option linter.unusedVariables false
set_option linter.unusedSimpArgs false
end Go.Proofs.YtgmahhdnjikdjaaGreat
/- A disk's copy, with a journal, walked. (Printed by mkrn3.py.) -/
namespace Go.Proofs.YtgmahhdnjikdjaaGreat
open Go.RowKit Wire
set_option linter.unusedVariables false
set_option linter.unusedSimpArgs false
end Go.Proofs.YtgmahhdnjikdjaaGreat
/- RepairNil's disks, plainly. -/
namespace Go.Proofs.YtgmahhdnjikdjaaGreat
open Go.RowKit Wire
set_option linter.unusedVariables false
set_option linter.unusedSimpArgs false
/-- A block that is no node's. -/
def NoNd (R : List UInt8) : Prop := R.length = 256 ∧ ∃ k4 k5 : Nat, (∃ c, R[4]? = some c ∧ c.toNat = k4) ∧ (∃ c, R[5]? = some c ∧ c.toNat = k5) ∧ (k4 < 1 ∨ 3 < k4)
def dA : Dk := (dk0 400).fmt 60 8
def sA : Su := suF 60 8 (pagesN 60 + pagesN 8)
def sX : Su := { sA with tx := 4611686018427387904 }
def dX : Dk := dA.saved sX
def dY : Dk := dX.wrK 3 (zeros 256)
theorem p2 : pagesN 60 + pagesN 8 = 2 := by decide
def slX (i : Nat) : Su := if i = 0 then sX else sA
end Go.Proofs.YtgmahhdnjikdjaaGreat
/- repair: lies (a disk as it lies), walked. -/
namespace Go.Proofs.YtgmahhdnjikdjaaGreat
open Go.RowKit Wire
set_option linter.unusedVariables false
set_option linter.unusedSimpArgs false
end Go.Proofs.YtgmahhdnjikdjaaGreat
/- repair: lies of a pool without nodes, walked. -/
namespace Go.Proofs.YtgmahhdnjikdjaaGreat
open Go.RowKit Wire
set_option linter.unusedVariables false
set_option linter.unusedSimpArgs false
/-- A view's cells. -/
def vwC (s : Su) (mp : Nat) : Array Value := (suL s ++ [Value.map (some mp)]).toArray
/-- A view in memory. -/
def VwAt (W : World) (V mp : Nat) (s : Su) : Prop := W.heap[V]? = some (.cells (vwC s mp) 142 (0, 0)) ∧ W.heap[mp]? = some (.map #[] 0)
theorem VwAt.below {W W' : World} {V mp : Nat} {s : Su} (h : VwAt W V mp s) (hb : Below W.heap.size W W') : VwAt W' V mp s :=
 ⟨(hb.block _ (Array.getElem?_eq_some_iff.1 h.1).1).trans h.1, (hb.block _ (Array.getElem?_eq_some_iff.1 h.2).1).trans h.2⟩
/-- What lies answers. -/
def LiesP (w : World) (s : Su) (e : Ending) (w' : World) : Prop := ∃ V mp, e = .returned (.tuple #[.pointer (some ⟨V, 0, none⟩), .int .i64 0]) ∧ VwAt w' V mp s ∧ w.heap.size ≤ V ∧ w.heap.size ≤ mp ∧ V ≠ mp ∧ Below w.heap.size w w'
end Go.Proofs.YtgmahhdnjikdjaaGreat
/- repair: the keys of no tree, the roots, find; volume.All of no tree; walked. -/
namespace Go.Proofs.YtgmahhdnjikdjaaGreat
open Go.RowKit Wire
set_option linter.unusedVariables false
set_option linter.unusedSimpArgs false
set_option maxRecDepth 100000 in
set_option maxHeartbeats 6400000 in
theorem vall_nil (w : World) (v : Value) (hv : ∃ a, v = .pointer a) (n er : Int) (hc : Calls Tryz.prog 40 #[v, .int .u32 n, .int .u64 0] w fun e w' => e = .returned (.tuple #[.slice none 0 0, .int .i64 er]) ∧ Below w.heap.size w w') :
  Calls Tryz.prog 14 #[v, .int .u32 n] w fun e w' => e = .returned (.tuple #[.slice none 0 0, .int .i64 er]) ∧ Below w.heap.size w w' := by
 obtain ⟨a, rfl⟩ := hv
 go_enter Tryz.func14, Tryz.ntmps14
 go_wp2_with fail
 refine hc.mono ?_
 rintro e w2 ⟨rfl, hb2⟩
 dsimp only
 have HB2 := Lib.hid hb2
 clear hc hb2
 go_wp2_with fail
 go_loopw [4, 17] (fun o v wr => o = .slice none 0 0 ∧ v = .int .i64 0 ∧ w2 = wr) (fun _ _ _ => 0)
 case atStart => exact ⟨rfl, rfl, rfl⟩
 case round =>
  obtain ⟨rfl, rfl, rfl⟩ := hrel
  go_wp2_with fail
  go_ret2
  exact ⟨rfl, HB2.out⟩
end Go.Proofs.YtgmahhdnjikdjaaGreat
/- The law's store with its disk; known of layer 11; VolumeNil; walked. -/
namespace Go.Proofs.YtgmahhdnjikdjaaGreat
open Go.RowKit Go.Maps Wire
set_option linter.unusedVariables false
set_option linter.unusedSimpArgs false
/-- A store just made, with its disk. -/
def Made11 (w : World) (e : Ending) (w' : World) : Prop := ∃ S B pm pd mf md Fm Fd, e = .returned (.pointer (some ⟨S, 0, none⟩)) ∧ VT w w' S B pm pd mf md su9 Fm Fd A0 D0 0 [] 0
set_option maxRecDepth 100000 in
set_option maxHeartbeats 3200000 in
theorem made11_at (w : World) : Calls Tryz.prog 15 #[] w (Made11 w) := by
 have CN := dknew_at w 1048 (by decide) (by decide)
 have CF : Hid (∀ w1 B iv, DkAt w.heap.size w1 B iv (.slice none 0 0) (dk0 1048) → Below w.heap.size w w1 → Calls Tryz.prog 47 #[.pointer (some ⟨B, 0, none⟩), .int .i64 200, .int .i64 60] w1 fun e w' => e = .returned (.int .i64 0) ∧ MadeP w 1048 200 60 B w') := Lib.hid (fun w1 B iv h1 h2 => fmt_call w w1 1048 200 60 B iv mk9 (by decide) h1 h2)
 have CO : Hid (∀ X B, MadeP w 1048 200 60 B X → Calls Tryz.prog 48 #[.pointer (some ⟨B, 0, none⟩)] X (OpenP w X B 200 60)) := Lib.hid (fun X B hX => open_call w X _ 200 60 B mk9 (by decide) hX)
 go_enter Tryz.func15, Tryz.ntmps15
 go_wp2_with fail
 refine CN.mono ?_
 rintro e w1 ⟨B, iv, rfl, hd, hb⟩
 dsimp only
 have C := CF.out w1 B iv hd hb
 clear CN hd hb
 go_wp2_with fail
 refine C.mono ?_
 rintro e w2 ⟨rfl, hm⟩
 have HM := Lib.hid hm
 clear C hm
 have C := CO.out w2 B HM.out
 go_wp2_with fail
 refine C.mono ?_
 rintro e w3 ⟨S, pm, pd, mf, md, Fm, Fd, rfl, h1, h2, h3, h4, h5, h6, h7, h8, h9, h10, h11⟩
 have HX : Hid (Made11 w (.returned (pt S)) w3) := Lib.hid (by
  obtain ⟨⟨iv2, hd⟩, hb2⟩ := HM.out
  have hge : ∀ k ∈ stF S mf md Fm Fd, w2.heap.size ≤ k := fun k hk => by
   rcases List.mem_cons.1 hk with rfl | hk
   ·exact h6
   rcases List.mem_cons.1 hk with rfl | hk
   ·exact h7
   rcases List.mem_cons.1 hk with rfl | hk
   ·exact h8
   rcases List.mem_append.1 hk with hk | hk
   ·exact h9 k hk
   ·exact h10 k hk
  refine ⟨S, B, pm, pd, mf, md, Fm, Fd, rfl, [], [], iv2, .slice none 0 0, (dk0 1048).fmt 200 60, ⟨stF_new h1 h2 h3 h4 h11, ⟨hd.below h5, fun k hk hh => ?_, fun p hp => by cases hp⟩, mapL_at0 (F := []) h3 (Mods.refl [] w3) (by simp), bthn hb2 h5, fun k hk => Nat.le_trans hb2.size (hge k hk)⟩, ⟨Nat.le_refl _, fun p hp => by cases hp⟩, Nat.le_refl _, ?_, rfl, ?_, ?_⟩
  ·have e1 := hge k hk
   have e2 := (hd.inF k hh).2
   omega
  ·show (-1 : Int) < 0
   decide
  ·rw [fmt_len, dk0_len]
  ·show (0 : Nat) ≤ _
   omega)
 clear C h1 h2 h3 h4 h5 h6 h7 h8 h9 h10 h11
 unfold pt at HX ⊢
 dsimp only
 go_wp2_with fail
 go_ret
 exact HX.out
theorem blk_built (k : UInt8) : Tryz.prog.built 78 [(0, .int .u8 (k.toNat : Int))] = some (bV (k :: zeros 255)).toArray := by kernel_rfl
set_option maxRecDepth 100000 in
set_option maxHeartbeats 12800000 in
theorem known11_at (w : World) : Calls Tryz.prog 16 #[] w fun e w' => e = .returned (.bool true) ∧ Below w.heap.size w w' := by
 have CM := made11_at w
 unfold Made11 at CM
 have htx : su9.tx + 1 < 18446744073709551616 := by decide +kernel
 have hmt : su9.mt = ((200 : Nat) : Int) := by decide +kernel
 have HTX := Lib.hid (And.intro htx hmt)
 clear htx hmt
 obtain ⟨s9, hs9⟩ : ∃ x, su9 = x := ⟨_, rfl⟩
 rw [hs9] at CM HTX
 clear hs9
 go_enter Tryz.func16, Tryz.ntmps16
 go_wp2_with fail
 refine CM.mono ?_
 rintro e w1 ⟨S, B, pm, pd, mf, md, Fm, Fd, rfl, hv⟩
 have C := vk_create hv HTX.out.1
 clear CM hv
 go_wp2_with fail
 refine C.mono ?_
 rintro e w2 ⟨rfl, hv⟩
 dsimp only
 have C : Calls Tryz.prog 49 #[.pointer (some ⟨S, 0, none⟩), .agg (bV (1 :: zeros 255)).toArray] w2 fun e w' => e = .returned (.tuple #[.int .u32 0, .int .i64 0]) ∧ VT w w' S B pm pd mf md s9 Fm Fd A1 D1 1 [(4, y4a s9)] 1 := vt_data hv HTX.out.2 (1 :: zeros 255) (by rw [List.length_cons, zeros_len]) 0 fD0 (by omega) (by omega)
 have HBU := Lib.hid (blk_built 1)
 obtain ⟨ZB, hZB⟩ : ∃ L, (bV (1 :: zeros 255)).toArray = L := ⟨_, rfl⟩
 rw [hZB] at C HBU
 clear hv hZB
 go_upto_region 3 with fail
 apply wp_region_lit
 repeat (first
  | (refine wpL_build (by kernel_rfl) 78 _ rfl #[(0, .int .u8 1)] (by simp only [List.map_toArray, List.map_cons, List.map_nil]; rfl) ZB HBU.out ?_; refine Hid.out ?_)
  | go_step)
 refine Lib.hid ?_
 repeat go_step
 refine C.mono ?_
 rintro e w3 ⟨rfl, hv⟩
 dsimp only
 have C : Calls Tryz.prog 12 #[.pointer (some ⟨S, 0, none⟩), .int .u32 4, .int .u64 1, .int .i64 3, .int .u32 0] w3 fun e w' => e = .returned (.tuple #[.int .u32 4, .int .i64 0]) ∧ VT w w' S B pm pd mf md s9 Fm Fd A2 D1 3 [(4, y4b s9), (5, y5a s9)] 1 := vk_map1 hv HTX.out.1
 clear hv HBU
 go_wp2_with fail
 refine C.mono ?_
 rintro e w4 ⟨rfl, hv⟩
 dsimp only
 have C : Calls Tryz.prog 10 #[.pointer (some ⟨S, 0, none⟩), .int .u32 4, .int .u64 1, .int .u64 2] w4 fun e w' => e = .returned (.tuple #[.int .u32 4, .int .i64 0]) ∧ VT w w' S B pm pd mf md s9 Fm Fd A3 D1 4 [(4, y4c s9), (5, y5a s9)] 1 := vk_snap hv HTX.out.1
 clear hv
 go_wp2_with fail
 refine C.mono ?_
 rintro e w5 ⟨rfl, hv⟩
 dsimp only
 have C : Calls Tryz.prog 49 #[.pointer (some ⟨S, 0, none⟩), .agg (bV (2 :: zeros 255)).toArray] w5 fun e w' => e = .returned (.tuple #[.int .u32 1, .int .i64 0]) ∧ VT w w' S B pm pd mf md s9 Fm Fd A3 D2 4 [(4, y4c s9), (5, y5a s9)] 2 := vt_data hv HTX.out.2 (2 :: zeros 255) (by rw [List.length_cons, zeros_len]) 1 fD1 (by omega) (by omega)
 have HBU := Lib.hid (blk_built 2)
 obtain ⟨ZC, hZC⟩ : ∃ L, (bV (2 :: zeros 255)).toArray = L := ⟨_, rfl⟩
 rw [hZC] at C HBU
 clear hv hZC
 go_upto_region 6 with fail
 apply wp_region_lit
 repeat (first
  | (refine wpL_build (by kernel_rfl) 78 _ rfl #[(0, .int .u8 2)] (by simp only [List.map_toArray, List.map_cons, List.map_nil]; rfl) ZC HBU.out ?_; refine Hid.out ?_)
  | go_step)
 refine Lib.hid ?_
 repeat go_step
 refine C.mono ?_
 rintro e w6 ⟨rfl, hv⟩
 dsimp only
 have C : Calls Tryz.prog 12 #[.pointer (some ⟨S, 0, none⟩), .int .u32 4, .int .u64 1, .int .i64 3, .int .u32 1] w6 fun e w' => e = .returned (.tuple #[.int .u32 4, .int .i64 0]) ∧ VT w w' S B pm pd mf md s9 Fm Fd A6 D4 6 [(4, y4d s9), (5, y5a s9)] 2 := vk_map2 hv HTX.out.1
 clear hv HBU
 go_wp2_with fail
 refine C.mono ?_
 rintro e w7 ⟨rfl, hv⟩
 dsimp only
 have C : Calls Tryz.prog 11 #[.pointer (some ⟨S, 0, none⟩), .int .u32 4, .int .u64 2, .int .i64 3] w7 fun e w' => e = .returned (.tuple #[.int .u32 0, .bool true, .int .i64 0]) ∧ Below w7.heap.size w7 w' := vk_find hv
 have HB7 := Lib.hid hv.bel
 clear hv
 go_wp2_with fail
 refine C.mono ?_
 rintro e w8 ⟨rfl, hb⟩
 dsimp only
 have HB8 := Lib.hid (bthn HB7.out hb)
 clear C hb
 go_wp2_with fail
 go_ret
 exact ⟨rfl, HB8.out⟩
set_option maxRecDepth 100000 in
set_option maxHeartbeats 12800000 in
theorem volumeNil_walk (w : World) : Calls Tryz.prog 3 #[] w fun e w' => e = .returned (.bool true) ∧ Below w.heap.size w w' := by
 have HB : Hid (Below w.heap.size w w) := Lib.hid (Below.refl _ _)
 go_enter Tryz.func3, Tryz.ntmps3
 have C := vget_no w (.pointer none) (.inl rfl) 0 1
 go_wp2_with fail
 refine C.mono ?_
 rintro e w1 ⟨rfl, hb⟩
 have HB := Lib.hid (bthn HB.out hb)
 clear C hb
 dsimp only
 have C := vcreate_no w1 (.pointer none) (.inl rfl) 0 1 1
 go_wp2_with fail
 refine C.mono ?_
 rintro e w2 ⟨rfl, hb⟩
 have HB := Lib.hid (bthn HB.out hb)
 clear C hb
 dsimp only
 have C := vdelete_no w2 (.pointer none) (.inl rfl) 0 1
 go_wp2_with fail
 refine C.mono ?_
 rintro e w3 ⟨rfl, hb⟩
 have HB := Lib.hid (bthn HB.out hb)
 clear C hb
 dsimp only
 have C := vresize_no w3 (.pointer none) (.inl rfl) 0 1 1
 go_wp2_with fail
 refine C.mono ?_
 rintro e w4 ⟨rfl, hb⟩
 have HB := Lib.hid (bthn HB.out hb)
 clear C hb
 dsimp only
 have C := vsnap_no w4 (.pointer none) (.inl rfl) 0 1 2
 go_wp2_with fail
 refine C.mono ?_
 rintro e w5 ⟨rfl, hb⟩
 have HB := Lib.hid (bthn HB.out hb)
 clear C hb
 dsimp only
 have C := vfind_no w5 (.pointer none) (.inl rfl) 0 1 0
 go_wp2_with fail
 refine C.mono ?_
 rintro e w6 ⟨rfl, hb⟩
 have HB := Lib.hid (bthn HB.out hb)
 clear C hb
 dsimp only
 have C := vmap_no w6 (.pointer none) (.inl rfl) 0 1 0 0
 go_wp2_with fail
 refine C.mono ?_
 rintro e w7 ⟨rfl, hb⟩
 have HB := Lib.hid (bthn HB.out hb)
 clear C hb
 dsimp only
 have C := vunmap_no w7 (.pointer none) (.inl rfl) 0 1 0
 go_wp2_with fail
 refine C.mono ?_
 rintro e w8 ⟨rfl, hb⟩
 have HB := Lib.hid (bthn HB.out hb)
 clear C hb
 dsimp only
 have C := vall_nil w8 (.pointer none) ⟨none, rfl⟩ 0 1 (tall_no w8 (.pointer none) (.inl rfl) 0 0)
 go_wp2_with fail
 refine C.mono ?_
 rintro e w9 ⟨rfl, hb⟩
 have HB := Lib.hid (bthn HB.out hb)
 clear C hb
 dsimp only
 have C := made11_at w9
 unfold Made11 at C
 obtain ⟨s9, hs9⟩ : ∃ x, su9 = x := ⟨_, rfl⟩
 rw [hs9] at C
 clear hs9
 go_wp2_with fail
 refine C.mono ?_
 rintro e w10 ⟨S, B, pm, pd, mf, md, Fm, Fd, rfl, hv⟩
 have HS := Lib.hid hv.stB
 have HB := Lib.hid (bthn HB.out hv.bel)
 clear C hv
 have C : Calls Tryz.prog 12 #[.pointer (some ⟨S, 0, none⟩), .int .u32 0, .int .u64 1, .int .i64 0, .int .u32 60] w10 fun e w' => e = .returned (.tuple #[.int .u32 0, .int .i64 2]) ∧ Below w10.heap.size w10 w' := vmap_arg HS.out 0 (by rw [lA.1]; omega) 60 (by rw [lD.1]; omega) (by omega)
 go_wp2_with fail
 refine C.mono ?_
 rintro e w11 ⟨rfl, hb⟩
 dsimp only
 have HB := Lib.hid (bthn HB.out hb)
 have C : Calls Tryz.prog 7 #[.pointer (some ⟨S, 0, none⟩), .int .u32 200, .int .u64 1, .int .i64 1] w11 fun e w' => e = .returned (.tuple #[.int .u32 0, .int .i64 2]) ∧ Below w11.heap.size w11 w' := vcreate_big (HS.out.below hb) 200 (by rw [lA.1]; omega) (by omega)
 clear hb
 go_wp2_with fail
 refine C.mono ?_
 rintro e w12 ⟨rfl, hb⟩
 dsimp only
 have HB := Lib.hid (bthn HB.out hb)
 have C := known11_at w12
 clear hb
 go_wp2_with fail
 refine C.mono ?_
 rintro e w13 ⟨rfl, hb⟩
 have HB := Lib.hid (bthn HB.out hb)
 clear C hb
 go_wp2_with fail
 go_ret
 exact ⟨rfl, HB.out⟩
end Go.Proofs.YtgmahhdnjikdjaaGreat
