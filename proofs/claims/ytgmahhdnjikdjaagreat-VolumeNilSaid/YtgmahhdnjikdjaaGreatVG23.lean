import Derived.Test.YtgmahhdnjikdjaaGreatVG22
set_option linter.unusedVariables false
set_option linter.unusedSimpArgs false
/- volume: there, in, Find, Create, Snap, change, from the contracts of what they call; walked. -/
namespace Go.Proofs.YtgmahhdnjikdjaaGreat
open Go.RowKit Go.Maps Wire
set_option linter.unusedVariables false
set_option linter.unusedSimpArgs false
def PR (r v : Int) : Prop := (r = 0 ∧ v = 8) ∨ (r = 5 ∧ v = 21474836488) ∨ (r = 6 ∧ v = 25769803784)
theorem vvalue_pr (w : World) (r v : Int) (h : PR r v) : Calls Tryz.prog 34 #[.int .u32 r, .int .i64 8] w fun e w' => e = .returned (.int .u64 v) ∧ w = w' := by
 rcases h with ⟨rfl, rfl⟩ | ⟨rfl, rfl⟩ | ⟨rfl, rfl⟩
 ·exact (vvalue_at w 0 (by omega)).mono fun e w' hp => ⟨by rw [hp.1]; rfl, hp.2⟩
 ·exact (vvalue_at w 5 (by omega)).mono fun e w' hp => ⟨by rw [hp.1]; rfl, hp.2⟩
 ·exact (vvalue_at w 6 (by omega)).mono fun e w' hp => ⟨by rw [hp.1]; rfl, hp.2⟩
set_option maxRecDepth 100000 in
set_option maxHeartbeats 3200000 in
theorem vget_none {w : World} {S B pm pd mf md : Nat} {s : Su} {A D : M} {Fm Fd : List Nat} (h : StB w S B pm pd mf md s A D Fm Fd false) (n : Nat) (hn : n < A.now.length) (k : Nat) (hk1 : 1 ≤ k) (hk2 : k < 4294967296)
  (hg : ∀ X, Below w.heap.size w X → Calls Tryz.prog 32 #[.pointer (some ⟨S, 0, none⟩), .int .u32 (n : Int), .int .u64 (k : Int)] X fun e w' => e = .returned (.tuple #[.int .u64 0, .bool false, .int .i64 0]) ∧ Below X.heap.size X w') :
  Calls Tryz.prog 6 #[.pointer (some ⟨S, 0, none⟩), .int .u32 (n : Int), .int .u64 (k : Int)] w fun e w' => e = .returned (.tuple #[.int .u32 0, .int .i64 0, .bool false, .int .i64 0]) ∧ Below w.heap.size w w' := by
 have C := vmay_in h n hn k hk1 hk2 0 (by decide) (by decide)
 have HG := Lib.hid hg
 clear h hg
 go_enter Tryz.func6, Tryz.ntmps6
 go_wp2_with fail
 refine C.mono ?_
 rintro e w1 ⟨rfl, hb1⟩
 have HB1 := Lib.hid hb1
 have C2 := HG.out w1 hb1
 clear C hb1
 go_wp2_with fail
 refine C2.mono ?_
 rintro e w2 ⟨rfl, hb2⟩
 have HB2 := Lib.hid (bthn HB1.out hb2)
 clear C2 hb2
 dsimp only
 go_wp2_with fail
 refine bodyPost_ret (results_t4 rfl _ _ _) rfl ?_
 exact ⟨rfl, HB2.out⟩
set_option maxRecDepth 100000 in
set_option maxHeartbeats 3200000 in
theorem vthere_by (w : World) (S : Nat) (n k r : Int) (hc : Calls Tryz.prog 6 #[.pointer (some ⟨S, 0, none⟩), .int .u32 n, .int .u64 k] w fun e w' => e = .returned (.tuple #[.int .u32 r, .int .i64 8, .bool true, .int .i64 0]) ∧ Below w.heap.size w w') :
  Calls Tryz.prog 35 #[.pointer (some ⟨S, 0, none⟩), .int .u32 n, .int .u64 k] w fun e w' => e = .returned (.tuple #[.int .u32 r, .int .i64 8, .int .i64 0]) ∧ Below w.heap.size w w' := by
 go_enter Tryz.func35, Tryz.ntmps35
 go_wp2_with fail
 refine hc.mono ?_
 rintro e w1 ⟨rfl, hb1⟩
 have HB1 := Lib.hid hb1
 clear hc hb1
 dsimp only
 go_wp2_with fail
 go_ret3
 exact ⟨rfl, HB1.out⟩
set_option maxRecDepth 100000 in
set_option maxHeartbeats 3200000 in
theorem vin_by (w : World) (S : Nat) (n k r : Int) (hc : Calls Tryz.prog 6 #[.pointer (some ⟨S, 0, none⟩), .int .u32 n, .int .u64 k] w fun e w' => e = .returned (.tuple #[.int .u32 r, .int .i64 8, .bool true, .int .i64 0]) ∧ Below w.heap.size w w') :
  Calls Tryz.prog 43 #[.pointer (some ⟨S, 0, none⟩), .int .u32 n, .int .u64 k, .int .i64 3] w fun e w' => e = .returned (.tuple #[.int .u32 r, .int .i64 0]) ∧ Below w.heap.size w w' := by
 have C := vthere_by w S n k r hc
 clear hc
 go_enter Tryz.func43, Tryz.ntmps43
 go_wp2_with fail
 refine C.mono ?_
 rintro e w1 ⟨rfl, hb1⟩
 have HB1 := Lib.hid hb1
 clear C hb1
 dsimp only
 go_wp2_with fail
 go_ret2
 exact ⟨rfl, HB1.out⟩
set_option maxRecDepth 100000 in
set_option maxHeartbeats 3200000 in
theorem vfind_by (w : World) (S : Nat) (n k r : Int) (hc : Calls Tryz.prog 6 #[.pointer (some ⟨S, 0, none⟩), .int .u32 n, .int .u64 k] w fun e w' => e = .returned (.tuple #[.int .u32 r, .int .i64 8, .bool true, .int .i64 0]) ∧ Below w.heap.size w w')
  (hg : ∀ X, Below w.heap.size w X → Calls Tryz.prog 32 #[.pointer (some ⟨S, 0, none⟩), .int .u32 r, .int .u64 3] X fun e w' => e = .returned (.tuple #[.int .u64 0, .bool true, .int .i64 0]) ∧ Below X.heap.size X w') :
  Calls Tryz.prog 11 #[.pointer (some ⟨S, 0, none⟩), .int .u32 n, .int .u64 k, .int .i64 3] w fun e w' => e = .returned (.tuple #[.int .u32 0, .bool true, .int .i64 0]) ∧ Below w.heap.size w w' := by
 have C := vin_by w S n k r hc
 have HG := Lib.hid hg
 clear hc hg
 go_enter Tryz.func11, Tryz.ntmps11
 go_wp2_with fail
 refine C.mono ?_
 rintro e w1 ⟨rfl, hb1⟩
 have HB1 := Lib.hid hb1
 have C2 := HG.out w1 hb1
 clear C hb1
 dsimp only
 go_wp2_with fail
 refine C2.mono ?_
 rintro e w2 ⟨rfl, hb2⟩
 have HB2 := Lib.hid (bthn HB1.out hb2)
 clear C2 hb2
 dsimp only
 go_wp2_with fail
 go_ret3
 exact ⟨rfl, HB2.out⟩
set_option maxRecDepth 100000 in
set_option maxHeartbeats 6400000 in
theorem vcreate_by {w : World} {S B pm pd mf md : Nat} {s : Su} {A D : M} {Fm Fd : List Nat} (h : StB w S B pm pd mf md s A D Fm Fd false) (P : World → Prop) (i u : Int) (b : Bool)
  (hg : ∀ X, Below w.heap.size w X → Calls Tryz.prog 6 #[.pointer (some ⟨S, 0, none⟩), .int .u32 0, .int .u64 1] X fun e w' => e = .returned (.tuple #[.int .u32 0, .int .i64 0, .bool false, .int .i64 0]) ∧ Below X.heap.size X w')
  (hp : ∀ X, Below w.heap.size w X → Calls Tryz.prog 33 #[.pointer (some ⟨S, 0, none⟩), .int .u32 0, .int .i64 3, .int .u64 1, .int .u64 8] X fun e w' => e = .returned (.tuple #[.int .u32 i, .int .u64 u, .bool b, .int .i64 0]) ∧ P w') :
  Calls Tryz.prog 7 #[.pointer (some ⟨S, 0, none⟩), .int .u32 0, .int .u64 1, .int .i64 8] w fun e w' => e = .returned (.tuple #[.int .u32 i, .int .i64 0]) ∧ P w' := by
 have C := vmay_in h 0 h.mok.pos 1 (by omega) (by omega) 8 (by omega) (by omega)
 have HG := Lib.hid hg
 have HP := Lib.hid hp
 have CV : Hid (∀ X, Calls Tryz.prog 34 #[.int .u32 0, .int .i64 8] X fun e w' => e = .returned (.int .u64 8) ∧ X = w') := Lib.hid (fun X => vvalue_pr X 0 8 (.inl ⟨rfl, rfl⟩))
 clear h hg hp
 go_enter Tryz.func7, Tryz.ntmps7
 go_wp2_with fail
 refine C.mono ?_
 rintro e w1 ⟨rfl, hb1⟩
 have HB1 := Lib.hid hb1
 have C2 := HG.out w1 hb1
 clear C hb1
 go_wp2_with fail
 refine C2.mono ?_
 rintro e w2 ⟨rfl, hb2⟩
 dsimp only
 have C3 := CV.out w2
 have HB2 := Lib.hid (bthn HB1.out hb2)
 clear C2 hb2
 go_wp2_with fail
 refine C3.mono ?_
 rintro e w3 ⟨rfl, rfl⟩
 have C4 := HP.out w2 HB2.out
 clear C3
 go_wp2_with fail
 refine C4.mono ?_
 rintro e w4 ⟨rfl, hp4⟩
 dsimp only
 have HP4 := Lib.hid hp4
 clear C4 hp4
 go_wp2_with fail
 go_ret2
 exact ⟨rfl, HP4.out⟩
set_option maxRecDepth 100000 in
set_option maxHeartbeats 6400000 in
theorem vmay_big {w : World} {S B pm pd mf md : Nat} {s : Su} {A D : M} {Fm Fd : List Nat} (h : StB w S B pm pd mf md s A D Fm Fd false) (n : Nat) (hn : A.now.length ≤ n) (hn32 : n < 4294967296) : Calls Tryz.prog 31 #[.pointer (some ⟨S, 0, none⟩), .int .u32 (n : Int), .int .u64 1, .int .i64 1] w fun e w' => e = .returned (.int .i64 2) ∧ Below w.heap.size w w' := by
 have CS := ssuper_at h
 have CB : Hid (∀ X, Below w.heap.size w X → Calls Tryz.prog 72 #[.pointer (some ⟨S, 0, none⟩)] X fun e w' => e = .returned (.bool false) ∧ X = w') := Lib.hid (fun X hX => sbroken_at (h.below hX))
 have hm9 := h.mok.max
 have hmp := h.mok.pos
 have hmt := h.ml
 rw [suL_v] at CS
 obtain ⟨SL, hSL⟩ : ∃ L, suL s = L := ⟨_, rfl⟩
 have HMT : Hid (SL[1]? = some (.int .i64 s.mt)) := Lib.hid (by rw [← hSL]; rfl)
 have HS19 : Hid (SL.length = 19) := Lib.hid (by rw [← hSL]; rfl)
 have HS1 : Hid (SL.toArray.all (·.oneCell') = true) := Lib.hid (by rw [← hSL]; exact Array.all_eq_true_iff_forall_mem.2 (fun v hv => suL_one s v (by simpa using hv)))
 have hss : SL.toArray.size = 19 := by rw [List.size_toArray, HS19.out]
 rw [hSL] at CS
 obtain ⟨mt, hm⟩ : ∃ x, s.mt = x := ⟨_, rfl⟩
 rw [hm] at HMT hmt
 have hn4 : (n : Int) < 4294967296 := by omega
 have hz : (mt == 0) = false := by simp; omega
 have hn1 : decide (mt ≤ (n : Int)) = true := by simp; omega
 clear h hSL hm hmt
 go_enter Tryz.func31, Tryz.ntmps31
 go_wp2_with fail
 refine CS.mono ?_
 rintro e w2 ⟨rfl, hb2⟩
 have HB2 := Lib.hid hb2
 clear CS hb2
 dsimp only
 repeat (first
  | (refine wpList_store_mid rfl 72 _ _ rfl w2.heap.size 0 SL.toArray rfl rfl (thereOf (heap_alloc_new w2 _) (by rw [hss]; simp)) (by rw [hss]; exact infoSup) HS1.out ?_; refine Hid.out ?_)
  | go_step)
 refine Lib.hid ?_
 obtain ⟨w4, hw4⟩ : ∃ W, (w2.alloc (.cells #[.int .u64 0, .int .i64 0, .int .i64 0, .int .u32 0, .int .u32 0, .int .u32 0, .int .u32 0, .int .u32 0, .int .u32 0, .int .u32 0, .int .u32 0, .int .u32 0, .int .i64 0, .int .u64 0, .int .u64 0, .int .u64 0, .int .u64 0, .int .u64 0, .bool false] 72)).setCells w2.heap.size 0 SL = W := ⟨_, rfl⟩
 have HB4 : Hid (Below w.heap.size w w4) := Lib.hid (by rw [← hw4]; exact bthn HB2.out (belowSets (Nat.le_refl _) _ _ _ (balloc (Below.refl _ _) _)))
 obtain ⟨g4, hg4⟩ : ∃ g, w2.heap.size = g := ⟨_, rfl⟩
 have HR4 : Hid (w4.rangeAt g4 0 SL) := Lib.hid (by rw [← hw4, ← hg4]; exact World.rangeAt_setCells_same _ _ _ _ (thereOf (heap_alloc_new w2 _) (by rw [HS19.out]; simp)))
 have hc1 : w4.cell? ⟨g4, 1, none⟩ = some (.int .i64 mt) := HR4.out 1 _ HMT.out
 have CB4 := CB.out w4 HB4.out
 simp only [List.toList_toArray]
 rw [hw4, hg4]
 clear hw4 hg4 CB
 go_wp2_with fail
 refine CB4.mono ?_
 rintro e w5 ⟨rfl, rfl⟩
 clear CB4
 go_wp2_with fail
 go_ret
 exact ⟨rfl, HB4.out⟩
set_option maxRecDepth 100000 in
set_option maxHeartbeats 3200000 in
theorem vcreate_big {w : World} {S B pm pd mf md : Nat} {s : Su} {A D : M} {Fm Fd : List Nat} (h : StB w S B pm pd mf md s A D Fm Fd false) (n : Nat) (hn : A.now.length ≤ n) (hn32 : n < 4294967296) : Calls Tryz.prog 7 #[.pointer (some ⟨S, 0, none⟩), .int .u32 (n : Int), .int .u64 1, .int .i64 1] w fun e w' => e = .returned (.tuple #[.int .u32 0, .int .i64 2]) ∧ Below w.heap.size w w' := by
 have C := vmay_big h n hn hn32
 clear h hn hn32
 go_enter Tryz.func7, Tryz.ntmps7
 go_wp2_with fail
 refine C.mono ?_
 rintro e w1 ⟨rfl, hb1⟩
 have HB1 := Lib.hid hb1
 clear C hb1
 go_wp2_with fail
 go_ret2
 exact ⟨rfl, HB1.out⟩
set_option maxRecDepth 100000 in
set_option maxHeartbeats 12800000 in
theorem vsnap_by {w : World} {S B pm pd mf md : Nat} {s : Su} {A D : M} {Fm Fd : List Nat} (h : StB w S B pm pd mf md s A D Fm Fd false) (n : Nat) (hn : n < A.now.length) (P1 P : World → Prop) (i u : Int) (b : Bool)
  (hg : ∀ X, Below w.heap.size w X → Calls Tryz.prog 6 #[.pointer (some ⟨S, 0, none⟩), .int .u32 (n : Int), .int .u64 1] X fun e w' => e = .returned (.tuple #[.int .u32 5, .int .i64 8, .bool true, .int .i64 0]) ∧ Below X.heap.size X w')
  (hg2 : ∀ X, Below w.heap.size w X → Calls Tryz.prog 6 #[.pointer (some ⟨S, 0, none⟩), .int .u32 (n : Int), .int .u64 2] X fun e w' => e = .returned (.tuple #[.int .u32 0, .int .i64 0, .bool false, .int .i64 0]) ∧ Below X.heap.size X w')
  (hh : ∀ X, Below w.heap.size w X → Calls Tryz.prog 42 #[.pointer (some ⟨S, 0, none⟩), .int .u32 5] X fun e w' => e = .returned (.int .i64 0) ∧ P1 w')
  (hp : ∀ X, P1 X → Calls Tryz.prog 33 #[.pointer (some ⟨S, 0, none⟩), .int .u32 (n : Int), .int .i64 3, .int .u64 2, .int .u64 21474836488] X fun e w' => e = .returned (.tuple #[.int .u32 i, .int .u64 u, .bool b, .int .i64 0]) ∧ P w') :
  Calls Tryz.prog 10 #[.pointer (some ⟨S, 0, none⟩), .int .u32 (n : Int), .int .u64 1, .int .u64 2] w fun e w' => e = .returned (.tuple #[.int .u32 i, .int .i64 0]) ∧ P w' := by
 have C := vmay_in h n hn 1 (by omega) (by omega) 0 (by omega) (by omega)
 have CM2 : Hid (∀ X, Below w.heap.size w X → Calls Tryz.prog 31 #[.pointer (some ⟨S, 0, none⟩), .int .u32 (n : Int), .int .u64 2, .int .i64 0] X fun e w' => e = .returned (.int .i64 0) ∧ Below X.heap.size X w') := Lib.hid (fun X hX => vmay_in (h.below hX) n hn 2 (by omega) (by omega) 0 (by omega) (by omega))
 have CT : Hid (∀ X, Below w.heap.size w X → Calls Tryz.prog 35 #[.pointer (some ⟨S, 0, none⟩), .int .u32 (n : Int), .int .u64 1] X fun e w' => e = .returned (.tuple #[.int .u32 5, .int .i64 8, .int .i64 0]) ∧ Below X.heap.size X w') := Lib.hid (fun X hX => vthere_by X S n 1 5 (hg X hX))
 have HG2 := Lib.hid hg2
 have HH := Lib.hid hh
 have HP := Lib.hid hp
 have CV : Hid (∀ X, Calls Tryz.prog 34 #[.int .u32 5, .int .i64 8] X fun e w' => e = .returned (.int .u64 21474836488) ∧ X = w') := Lib.hid (fun X => vvalue_pr X 5 _ (.inr (.inl ⟨rfl, rfl⟩)))
 clear h hg hg2 hh hp
 go_enter Tryz.func10, Tryz.ntmps10
 go_wp2_with fail
 refine C.mono ?_
 rintro e w1 ⟨rfl, hb⟩
 have HB := Lib.hid hb
 have C2 := CM2.out w1 hb
 clear C hb
 go_wp2_with fail
 refine C2.mono ?_
 rintro e w2 ⟨rfl, hb⟩
 have HB := Lib.hid (bthn HB.out hb)
 have C := CT.out w2 HB.out
 clear C2 hb
 go_wp2_with fail
 refine C.mono ?_
 rintro e w3 ⟨rfl, hb⟩
 dsimp only
 have HB := Lib.hid (bthn HB.out hb)
 have C2 := HG2.out w3 HB.out
 clear C hb
 go_wp2_with fail
 refine C2.mono ?_
 rintro e w4 ⟨rfl, hb⟩
 dsimp only
 have HB := Lib.hid (bthn HB.out hb)
 have C := HH.out w4 HB.out
 clear C2 hb
 go_wp2_with fail
 refine C.mono ?_
 rintro e w5 ⟨rfl, hp1⟩
 have HP1 := Lib.hid hp1
 have C2 := CV.out w5
 clear C hp1
 go_wp2_with fail
 refine C2.mono ?_
 rintro e w6 ⟨rfl, rfl⟩
 have C := HP.out w5 HP1.out
 clear C2
 go_wp2_with fail
 refine C.mono ?_
 rintro e w7 ⟨rfl, hp7⟩
 dsimp only
 have HP7 := Lib.hid hp7
 clear C hp7
 go_wp2_with fail
 go_ret2
 exact ⟨rfl, HP7.out⟩
set_option maxRecDepth 100000 in
set_option maxHeartbeats 12800000 in
theorem vchange_by (w : World) (S b5 b8 b9 : Nat) (n : Int) (r r' ov nv : Int) (hr : (r = 0 ∧ r' = 5 ∧ ov = 8 ∧ nv = 21474836488) ∨ (r = 5 ∧ r' = 6 ∧ ov = 21474836488 ∧ nv = 25769803784)) (P1 P2 P3 P4 : World → Prop) (b : Bool)
  (hg : Calls Tryz.prog 6 #[.pointer (some ⟨S, 0, none⟩), .int .u32 n, .int .u64 1] w fun e w' => e = .returned (.tuple #[.int .u32 r, .int .i64 8, .bool true, .int .i64 0]) ∧ Below w.heap.size w w')
  (hh : ∀ X, Below w.heap.size w X → Calls Tryz.prog 42 #[.pointer (some ⟨S, 0, none⟩), .int .u32 r] X fun e w' => e = .returned (.int .i64 0) ∧ P1 w')
  (hf : ∀ X, P1 X → Calls Tryz.prog 45 #[.int .u32 r, .int .i64 8, .pointer (some ⟨b5, 0, none⟩), .pointer (some ⟨b8, 0, none⟩), .pointer (some ⟨b9, 0, none⟩)] X fun e w' => e = .returned (.tuple #[.int .u32 r', .int .i64 8, .int .i64 0]) ∧ P2 w')
  (hp : ∀ X, P2 X → Calls Tryz.prog 33 #[.pointer (some ⟨S, 0, none⟩), .int .u32 n, .int .i64 3, .int .u64 1, .int .u64 nv] X fun e w' => e = .returned (.tuple #[.int .u32 n, .int .u64 ov, .bool b, .int .i64 0]) ∧ P3 w')
  (hd : ∀ X, P3 X → Calls Tryz.prog 37 #[.pointer (some ⟨S, 0, none⟩), .int .u32 r] X fun e w' => e = .returned (.int .i64 0) ∧ P4 w') :
  Calls Tryz.prog 38 #[.pointer (some ⟨S, 0, none⟩), .int .u32 n, .int .u64 1, .func (.func 45) #[] #[.pointer (some ⟨b5, 0, none⟩), .pointer (some ⟨b8, 0, none⟩), .pointer (some ⟨b9, 0, none⟩)]] w fun e w' => e = .returned (.tuple #[.int .u32 n, .int .i64 0]) ∧ P4 w' := by
 have C := vthere_by w S n 1 r hg
 have HH := Lib.hid hh
 have HF := Lib.hid hf
 have HP := Lib.hid hp
 have HD := Lib.hid hd
 clear hg hh hf hp hd
 rcases hr with ⟨rfl, rfl, rfl, rfl⟩ | ⟨rfl, rfl, rfl, rfl⟩
 ·have CV : Hid (∀ X, Calls Tryz.prog 34 #[.int .u32 5, .int .i64 8] X fun e w' => e = .returned (.int .u64 21474836488) ∧ X = w') := Lib.hid (fun X => vvalue_pr X 5 _ (.inr (.inl ⟨rfl, rfl⟩)))
  go_enter Tryz.func38, Tryz.ntmps38
  go_wp2_with fail
  refine C.mono ?_
  rintro e w1 ⟨rfl, hb⟩
  dsimp only
  have C2 := HH.out w1 hb
  clear C hb
  go_wp2_with fail
  refine C2.mono ?_
  rintro e w2 ⟨rfl, hp1⟩
  have C := HF.out w2 hp1
  clear C2 hp1
  go_wp2_with fail
  refine C.mono ?_
  rintro e w3 ⟨rfl, hp2⟩
  dsimp only
  have HP2 := Lib.hid hp2
  have C2 := CV.out w3
  clear C hp2
  go_wp2_with fail
  refine C2.mono ?_
  rintro e w4 ⟨rfl, rfl⟩
  have C := HP.out w3 HP2.out
  clear C2
  go_wp2_with fail
  refine C.mono ?_
  rintro e w5 ⟨rfl, hp3⟩
  dsimp only
  have C2 := HD.out w5 hp3
  clear C hp3
  go_wp2_with fail
  refine C2.mono ?_
  rintro e w6 ⟨rfl, hp4⟩
  have HP4 := Lib.hid hp4
  clear C2 hp4
  go_wp2_with fail
  go_ret2
  exact ⟨rfl, HP4.out⟩
 ·have CV : Hid (∀ X, Calls Tryz.prog 34 #[.int .u32 6, .int .i64 8] X fun e w' => e = .returned (.int .u64 25769803784) ∧ X = w') := Lib.hid (fun X => vvalue_pr X 6 _ (.inr (.inr ⟨rfl, rfl⟩)))
  go_enter Tryz.func38, Tryz.ntmps38
  go_wp2_with fail
  refine C.mono ?_
  rintro e w1 ⟨rfl, hb⟩
  dsimp only
  have C2 := HH.out w1 hb
  clear C hb
  go_wp2_with fail
  refine C2.mono ?_
  rintro e w2 ⟨rfl, hp1⟩
  have C := HF.out w2 hp1
  clear C2 hp1
  go_wp2_with fail
  refine C.mono ?_
  rintro e w3 ⟨rfl, hp2⟩
  dsimp only
  have HP2 := Lib.hid hp2
  have C2 := CV.out w3
  clear C hp2
  go_wp2_with fail
  refine C2.mono ?_
  rintro e w4 ⟨rfl, rfl⟩
  have C := HP.out w3 HP2.out
  clear C2
  go_wp2_with fail
  refine C.mono ?_
  rintro e w5 ⟨rfl, hp3⟩
  dsimp only
  have C2 := HD.out w5 hp3
  clear C hp3
  go_wp2_with fail
  refine C2.mono ?_
  rintro e w6 ⟨rfl, hp4⟩
  have HP4 := Lib.hid hp4
  clear C2 hp4
  go_wp2_with fail
  go_ret2
  exact ⟨rfl, HP4.out⟩
end Go.Proofs.YtgmahhdnjikdjaaGreat
/- volume.Map, its closure; walked. -/
namespace Go.Proofs.YtgmahhdnjikdjaaGreat
open Go.RowKit Go.Maps Wire
set_option linter.unusedVariables false
set_option linter.unusedSimpArgs false
set_option maxRecDepth 100000 in
set_option maxHeartbeats 6400000 in
theorem vmap1_no (w : World) (S b5 b8 b9 v : Nat) (hv : v < 4294967296) (c5 : w.cell? ⟨b5, 0, none⟩ = some (.pointer (some ⟨S, 0, none⟩))) (c8 : w.cell? ⟨b8, 0, none⟩ = some (.int .i64 3)) (c9 : w.cell? ⟨b9, 0, none⟩ = some (.int .u32 (v : Int))) (P : World → Prop) (r r' u : Int)
  (hp : Calls Tryz.prog 33 #[.pointer (some ⟨S, 0, none⟩), .int .u32 r, .int .i64 2, .int .u64 3, .int .u64 (v : Int)] w fun e w' => e = .returned (.tuple #[.int .u32 r', .int .u64 u, .bool false, .int .i64 0]) ∧ P w') :
  Calls Tryz.prog 45 #[.int .u32 r, .int .i64 8, .pointer (some ⟨b5, 0, none⟩), .pointer (some ⟨b8, 0, none⟩), .pointer (some ⟨b9, 0, none⟩)] w fun e w' => e = .returned (.tuple #[.int .u32 r', .int .i64 8, .int .i64 0]) ∧ P w' := by
 have hv4 : (v : Int) < 4294967296 := by omega
 go_enter Tryz.func45, Tryz.ntmps45
 go_wp2_with fail
 refine hp.mono ?_
 rintro e w1 ⟨rfl, hp1⟩
 dsimp only
 have HP1 := Lib.hid hp1
 clear hp hp1 c5 c8 c9
 go_wp2_with fail
 go_ret3
 exact ⟨rfl, HP1.out⟩
theorem vmap1_had (w : World) (S b5 b8 b9 v : Nat) (hv : v < 4294967296) (c5 : w.cell? ⟨b5, 0, none⟩ = some (.pointer (some ⟨S, 0, none⟩))) (c8 : w.cell? ⟨b8, 0, none⟩ = some (.int .i64 3)) (c9 : w.cell? ⟨b9, 0, none⟩ = some (.int .u32 (v : Int))) (P0 P : World → Prop) (r r' : Int)
  (hp : Calls Tryz.prog 33 #[.pointer (some ⟨S, 0, none⟩), .int .u32 r, .int .i64 2, .int .u64 3, .int .u64 (v : Int)] w fun e w' => e = .returned (.tuple #[.int .u32 r', .int .u64 0, .bool true, .int .i64 0]) ∧ P0 w' ∧ w'.cell? ⟨b5, 0, none⟩ = some (.pointer (some ⟨S, 0, none⟩)))
  (hd : ∀ X, P0 X → Calls Tryz.prog 41 #[.pointer (some ⟨S, 0, none⟩), .int .u32 0] X fun e w' => e = .returned (.int .i64 0) ∧ P w') :
  Calls Tryz.prog 45 #[.int .u32 r, .int .i64 8, .pointer (some ⟨b5, 0, none⟩), .pointer (some ⟨b8, 0, none⟩), .pointer (some ⟨b9, 0, none⟩)] w fun e w' => e = .returned (.tuple #[.int .u32 r', .int .i64 8, .int .i64 0]) ∧ P w' := by
 have hv4 : (v : Int) < 4294967296 := by omega
 have HD := Lib.hid hd
 clear hd
 go_enter Tryz.func45, Tryz.ntmps45
 go_wp2_with fail
 refine hp.mono ?_
 rintro e w1 ⟨rfl, hp1, k5⟩
 dsimp only
 have C := HD.out w1 hp1
 clear hp hp1 c5 c8 c9
 go_wp2_with fail
 refine C.mono ?_
 rintro e w2 ⟨rfl, hp2⟩
 have HP2 := Lib.hid hp2
 clear C hp2 k5
 go_wp2_with fail
 go_ret3
 exact ⟨rfl, HP2.out⟩
theorem fld2 (s : Su) (W : World) : (Instr.field 72 (.agg (suL s).toArray) 2).run Tryz.prog W = .ok (.int .i64 s.data) W := by kernel_rfl
set_option maxRecDepth 100000 in
set_option maxHeartbeats 12800000 in
theorem vmap_arg {w : World} {S B pm pd mf md : Nat} {s : Su} {A D : M} {Fm Fd : List Nat} (h : StB w S B pm pd mf md s A D Fm Fd false) (n : Nat) (hn : n < A.now.length) (v : Nat) (hv : D.now.length ≤ v) (hv4' : v < 4294967296) :
  Calls Tryz.prog 12 #[.pointer (some ⟨S, 0, none⟩), .int .u32 (n : Int), .int .u64 1, .int .i64 0, .int .u32 (v : Int)] w fun e w' => e = .returned (.tuple #[.int .u32 0, .int .i64 2]) ∧ Below w.heap.size w w' := by
 have hmt := h.dl
 obtain ⟨SL, hSL⟩ : ∃ L, suL s = L := ⟨_, rfl⟩
 have hfl := fld2 s
 have CS : Hid (∀ X, Below w.heap.size w X → Calls Tryz.prog 44 #[.pointer (some ⟨S, 0, none⟩)] X fun e w' => e = .returned (.agg SL.toArray) ∧ Below X.heap.size X w') := Lib.hid (fun X hX => by
  have h1 := ssuper_at (h.below hX)
  rw [suL_v, hSL] at h1
  exact h1)
 rw [hSL] at hfl
 obtain ⟨dt, hdt⟩ : ∃ z, s.data = z := ⟨_, rfl⟩
 rw [hdt] at hfl hmt
 have HDT := Lib.hid hmt
 obtain ⟨b5, hb5⟩ : ∃ z, w.heap.size = z := ⟨_, rfl⟩
 obtain ⟨w1, hw1⟩ : ∃ W, w.alloc (.cells #[.pointer (some ⟨S, 0, none⟩)] 37) = W := ⟨_, rfl⟩
 have hx1 : w1.heap[b5]? = some (.cells #[.pointer (some ⟨S, 0, none⟩)] 37 (0, 0)) := by rw [← hw1, ← hb5]; exact heap_alloc_new _ _
 have hb1 : Below w.heap.size w w1 := by rw [← hw1]; exact balloc (Below.refl _ _) _
 obtain ⟨b8, hb8⟩ : ∃ z, w1.heap.size = z := ⟨_, rfl⟩
 obtain ⟨w2, hw2⟩ : ∃ W, w1.alloc (.cells #[.int .i64 0] 3) = W := ⟨_, rfl⟩
 have hx2 : w2.heap[b8]? = some (.cells #[.int .i64 0] 3 (0, 0)) := by rw [← hw2, ← hb8]; exact heap_alloc_new _ _
 have hb2 : Below w1.heap.size w1 w2 := by rw [← hw2]; exact balloc (Below.refl _ _) _
 obtain ⟨b9, hb9⟩ : ∃ z, w2.heap.size = z := ⟨_, rfl⟩
 obtain ⟨w3, hw3⟩ : ∃ W, w2.alloc (.cells #[.int .u32 (v : Int)] 22) = W := ⟨_, rfl⟩
 have hx3 : w3.heap[b9]? = some (.cells #[.int .u32 (v : Int)] 22 (0, 0)) := by rw [← hw3, ← hb9]; exact heap_alloc_new _ _
 have hb3 : Below w2.heap.size w2 w3 := by rw [← hw3]; exact balloc (Below.refl _ _) _
 have HX5 : Hid (w3.heap[b5]? = some (.cells #[.pointer (some ⟨S, 0, none⟩)] 37 (0, 0))) := Lib.hid (((bthn hb2 hb3).block _ (Array.getElem?_eq_some_iff.1 hx1).1).trans hx1)
 have HX8 : Hid (w3.heap[b8]? = some (.cells #[.int .i64 0] 3 (0, 0))) := Lib.hid ((hb3.block _ (Array.getElem?_eq_some_iff.1 hx2).1).trans hx2)
 have HX9 := Lib.hid hx3
 have HB3 : Hid (Below w.heap.size w w3) := Lib.hid (bthn hb1 (bthn hb2 hb3))
 have HGE : Hid (w.heap.size ≤ b5 ∧ w.heap.size ≤ b8 ∧ w.heap.size ≤ b9) := Lib.hid ⟨by omega, by rw [← hb8]; exact hb1.size, by rw [← hb9]; exact (bthn hb1 hb2).size⟩
 have C := vmay_in (h.below HB3.out) n hn 1 (by omega) (by omega) 0 (by omega) (by omega)
 have k5 := cellOf HX5.out 0 (v := .pointer (some ⟨S, 0, none⟩)) rfl
 have hv4 : (v : Int) < 4294967296 := by omega
 have hwv : IntKind.i64.wrap (v : Int) = (v : Int) := IntWalk.i64_in _ ⟨by omega, by omega⟩
 clear h hSL hdt hx1 hx2 hx3 hb1 hb2 hb3 hmt
 go_enter Tryz.func12, Tryz.ntmps12
 go_wp2_with fail
 (try rw [hw1, hb5])
 (try rw [hw2, hb8])
 (try rw [hw3, hb9])
 clear hw1 hw2 hw3 hb5 hb8 hb9
 refine C.mono ?_
 rintro e w4 ⟨rfl, hb4⟩
 have HB4 := Lib.hid (bthn HB3.out hb4)
 have HX5 : Hid (w4.heap[b5]? = some (.cells #[.pointer (some ⟨S, 0, none⟩)] 37 (0, 0))) := Lib.hid ((hb4.block _ (Array.getElem?_eq_some_iff.1 HX5.out).1).trans HX5.out)
 have HX8 : Hid (w4.heap[b8]? = some (.cells #[.int .i64 0] 3 (0, 0))) := Lib.hid ((hb4.block _ (Array.getElem?_eq_some_iff.1 HX8.out).1).trans HX8.out)
 have HX9 : Hid (w4.heap[b9]? = some (.cells #[.int .u32 (v : Int)] 22 (0, 0))) := Lib.hid ((hb4.block _ (Array.getElem?_eq_some_iff.1 HX9.out).1).trans HX9.out)
 clear C hb4 k5
 go_upto_region 4 with fail
 have hq : decide (dt ≤ (v : Int)) = true := decide_eq_true (by have := HDT.out; omega)
 have HSS : Hid (∀ X, Below w4.heap.size w4 X → (X.cell? ⟨b5, 0, none⟩ = some (.pointer (some ⟨S, 0, none⟩)) ∧ X.cell? ⟨b9, 0, none⟩ = some (.int .u32 (v : Int))) ∧ Below w4.heap.size w4 X) := Lib.hid (fun X hb => ⟨⟨(World.cell?_of_block (hb.block _ ((Array.getElem?_eq_some_iff.1 HX5.out).1))).trans (cellOf HX5.out 0 rfl), (World.cell?_of_block (hb.block _ ((Array.getElem?_eq_some_iff.1 HX9.out).1))).trans (cellOf HX9.out 0 rfl)⟩, hb⟩)
 refine wp_region_held_drew (S := fun X => (X.cell? ⟨b5, 0, none⟩ = some (.pointer (some ⟨S, 0, none⟩)) ∧ X.cell? ⟨b9, 0, none⟩ = some (.int .u32 (v : Int))) ∧ Below w4.heap.size w4 X) (by kernel_rfl) (HSS.out _ (Below.refl _ _).drew) (fun hHeld => ?_)
 have hbe : Below w4.heap.size w4 w4.drew := (Below.refl _ _).drew
 obtain ⟨wd, hwd⟩ : ∃ y, w4.drew = y := ⟨_, rfl⟩
 rw [hwd] at hHeld hbe ⊢
 have HBE := Lib.hid hbe
 have HS0 : Hid (w4.heap.size ≤ wd.heap.size) := Lib.hid HBE.out.size
 clear hwd hbe
 refine wpAnyH_take (i := 0) (v := ?_) rfl (by kernel_rfl) (by kernel_rfl) (by kernel_rfl) (fun _ _ _ h => h) (Or.inl ⟨by rfl, ?_⟩) (by assumption) ?_
 rotate_left
 ·(intro w hSw; (try dsimp only at hSw); simp only [List.getElem_toArray, List.getElem_cons_zero, List.getElem_cons_succ]; go_simp; first | done | with_reducible rfl)
 simp only [List.getElem_toArray, List.getElem_cons_zero, List.getElem_cons_succ, Act.put, List.setIfInBounds_toArray, List.set_cons_zero, List.set_cons_succ]
 refine wpAnyH_take (i := 2) (v := ?_) rfl (by kernel_rfl) (by kernel_rfl) (by kernel_rfl) (fun _ _ _ h => h) (Or.inl ⟨by rfl, ?_⟩) (by assumption) ?_
 rotate_left
 ·(intro w hSw; (try dsimp only at hSw); simp only [List.getElem_toArray, List.getElem_cons_zero, List.getElem_cons_succ]; go_simp; first | done | with_reducible rfl)
 simp only [List.getElem_toArray, List.getElem_cons_zero, List.getElem_cons_succ, Act.put, List.setIfInBounds_toArray, List.set_cons_zero, List.set_cons_succ]
 refine wpAnyH_take (i := 1) (v := ?_) rfl (by kernel_rfl) (by kernel_rfl) (by kernel_rfl) (fun _ _ _ h => h) (Or.inl ⟨by rfl, ?_⟩) (by assumption) ?_
 rotate_left
 ·(intro w hSw; (try dsimp only at hSw); simp only [List.getElem_toArray, List.getElem_cons_zero, List.getElem_cons_succ]; go_simp; first | done | with_reducible rfl)
 simp only [List.getElem_toArray, List.getElem_cons_zero, List.getElem_cons_succ, Act.put, List.setIfInBounds_toArray, List.set_cons_zero, List.set_cons_succ]
 refine wpAnyH_ready (rs := [3]) (by kernel_rfl) (by simp) ?_
 refine AllReadyH.cons rfl (fun K hK => ?_) (AllReadyH.nil)
 simp only [List.getElem_toArray, List.getElem_cons_zero, List.getElem_cons_succ]
 go_simp
 refine (CS.out _ (bthn HB4.out HBE.out)).mono ?_
 rintro e y3 ⟨rfl, hb3⟩
 dsimp only
 have HBE := Lib.hid (bthen HBE.out hb3)
 have hSp := HSS.out _ HBE.out
 clear hHeld
 refine hK.out _ _ hSp (fun hHeld => ?_)
 clear hSp hK K
 try simp only [Act.put, List.setIfInBounds_toArray, List.set_cons_zero, List.set_cons_succ]
 have HC3 := Lib.hid hb3
 clear hb3
 refine wpAnyH_take (i := 4) (v := ?_) rfl (by kernel_rfl) (by kernel_rfl) (by kernel_rfl) (fun _ _ _ h => h) (Or.inl ⟨by rfl, ?_⟩) (by assumption) ?_
 rotate_left
 ·(intro w hSw; (try dsimp only at hSw); simp only [List.getElem_toArray, List.getElem_cons_zero, List.getElem_cons_succ]; go_simp; first | done | with_reducible rfl)
 simp only [List.getElem_toArray, List.getElem_cons_zero, List.getElem_cons_succ, Act.put, List.setIfInBounds_toArray, List.set_cons_zero, List.set_cons_succ]
 refine wpAnyH_take (i := 5) (v := ?_) rfl (by kernel_rfl) (by kernel_rfl) (by kernel_rfl) (fun _ _ _ h => h) (Or.inl ⟨by rfl, ?_⟩) (by assumption) ?_
 rotate_left
 ·(intro w hSw; (try dsimp only at hSw); simp only [List.getElem_toArray, List.getElem_cons_zero, List.getElem_cons_succ]; go_simp; first | done | with_reducible rfl)
 simp only [List.getElem_toArray, List.getElem_cons_zero, List.getElem_cons_succ, Act.put, List.setIfInBounds_toArray, List.set_cons_zero, List.set_cons_succ]
 refine wpAnyH_done (by kernel_rfl) ?_ _
 have HEND := Lib.hid hHeld.2
 have HSE := Lib.hid hHeld.1
 clear hHeld
 clear HSS HSE HEND hfl
 go_wp2_with fail
 go_ret2
 exact ⟨rfl, bthn HB4.out HBE.out⟩
theorem vmap_by {w : World} {S B pm pd mf md : Nat} {s : Su} {A D : M} {Fm Fd : List Nat} (h : StB w S B pm pd mf md s A D Fm Fd false) (n : Nat) (hn : n < A.now.length) (v : Nat) (hv : v < D.now.length) (hv4' : v < 4294967296) (r : Int) (P : World → Prop)
  (hg : ∀ X, Below w.heap.size w X → Calls Tryz.prog 6 #[.pointer (some ⟨S, 0, none⟩), .int .u32 (n : Int), .int .u64 1] X fun e w' => e = .returned (.tuple #[.int .u32 r, .int .i64 8, .bool true, .int .i64 0]) ∧ Below X.heap.size X w')
  (hc : ∀ X b5 b8 b9, Below w.heap.size w X → (w.heap.size ≤ b5 ∧ w.heap.size ≤ b8 ∧ w.heap.size ≤ b9) → X.cell? ⟨b5, 0, none⟩ = some (.pointer (some ⟨S, 0, none⟩)) → X.cell? ⟨b8, 0, none⟩ = some (.int .i64 3) → X.cell? ⟨b9, 0, none⟩ = some (.int .u32 (v : Int)) → Calls Tryz.prog 38 #[.pointer (some ⟨S, 0, none⟩), .int .u32 (n : Int), .int .u64 1, .func (.func 45) #[] #[.pointer (some ⟨b5, 0, none⟩), .pointer (some ⟨b8, 0, none⟩), .pointer (some ⟨b9, 0, none⟩)]] X fun e w' => e = .returned (.tuple #[.int .u32 (n : Int), .int .i64 0]) ∧ P w') :
  Calls Tryz.prog 12 #[.pointer (some ⟨S, 0, none⟩), .int .u32 (n : Int), .int .u64 1, .int .i64 3, .int .u32 (v : Int)] w fun e w' => e = .returned (.tuple #[.int .u32 (n : Int), .int .i64 0]) ∧ P w' := by
 have HG := Lib.hid hg
 have HC := Lib.hid hc
 clear hg hc
 have hmt := h.dl
 obtain ⟨SL, hSL⟩ : ∃ L, suL s = L := ⟨_, rfl⟩
 have hfl := fld2 s
 have CS : Hid (∀ X, Below w.heap.size w X → Calls Tryz.prog 44 #[.pointer (some ⟨S, 0, none⟩)] X fun e w' => e = .returned (.agg SL.toArray) ∧ Below X.heap.size X w') := Lib.hid (fun X hX => by
  have h1 := ssuper_at (h.below hX)
  rw [suL_v, hSL] at h1
  exact h1)
 rw [hSL] at hfl
 obtain ⟨dt, hdt⟩ : ∃ z, s.data = z := ⟨_, rfl⟩
 rw [hdt] at hfl hmt
 have HDT := Lib.hid hmt
 obtain ⟨b5, hb5⟩ : ∃ z, w.heap.size = z := ⟨_, rfl⟩
 obtain ⟨w1, hw1⟩ : ∃ W, w.alloc (.cells #[.pointer (some ⟨S, 0, none⟩)] 37) = W := ⟨_, rfl⟩
 have hx1 : w1.heap[b5]? = some (.cells #[.pointer (some ⟨S, 0, none⟩)] 37 (0, 0)) := by rw [← hw1, ← hb5]; exact heap_alloc_new _ _
 have hb1 : Below w.heap.size w w1 := by rw [← hw1]; exact balloc (Below.refl _ _) _
 obtain ⟨b8, hb8⟩ : ∃ z, w1.heap.size = z := ⟨_, rfl⟩
 obtain ⟨w2, hw2⟩ : ∃ W, w1.alloc (.cells #[.int .i64 3] 3) = W := ⟨_, rfl⟩
 have hx2 : w2.heap[b8]? = some (.cells #[.int .i64 3] 3 (0, 0)) := by rw [← hw2, ← hb8]; exact heap_alloc_new _ _
 have hb2 : Below w1.heap.size w1 w2 := by rw [← hw2]; exact balloc (Below.refl _ _) _
 obtain ⟨b9, hb9⟩ : ∃ z, w2.heap.size = z := ⟨_, rfl⟩
 obtain ⟨w3, hw3⟩ : ∃ W, w2.alloc (.cells #[.int .u32 (v : Int)] 22) = W := ⟨_, rfl⟩
 have hx3 : w3.heap[b9]? = some (.cells #[.int .u32 (v : Int)] 22 (0, 0)) := by rw [← hw3, ← hb9]; exact heap_alloc_new _ _
 have hb3 : Below w2.heap.size w2 w3 := by rw [← hw3]; exact balloc (Below.refl _ _) _
 have HX5 : Hid (w3.heap[b5]? = some (.cells #[.pointer (some ⟨S, 0, none⟩)] 37 (0, 0))) := Lib.hid (((bthn hb2 hb3).block _ (Array.getElem?_eq_some_iff.1 hx1).1).trans hx1)
 have HX8 : Hid (w3.heap[b8]? = some (.cells #[.int .i64 3] 3 (0, 0))) := Lib.hid ((hb3.block _ (Array.getElem?_eq_some_iff.1 hx2).1).trans hx2)
 have HX9 := Lib.hid hx3
 have HB3 : Hid (Below w.heap.size w w3) := Lib.hid (bthn hb1 (bthn hb2 hb3))
 have HGE : Hid (w.heap.size ≤ b5 ∧ w.heap.size ≤ b8 ∧ w.heap.size ≤ b9) := Lib.hid ⟨by omega, by rw [← hb8]; exact hb1.size, by rw [← hb9]; exact (bthn hb1 hb2).size⟩
 have C := vmay_in (h.below HB3.out) n hn 1 (by omega) (by omega) 0 (by omega) (by omega)
 have k5 := cellOf HX5.out 0 (v := .pointer (some ⟨S, 0, none⟩)) rfl
 have hv4 : (v : Int) < 4294967296 := by omega
 have hwv : IntKind.i64.wrap (v : Int) = (v : Int) := IntWalk.i64_in _ ⟨by omega, by omega⟩
 clear h hSL hdt hx1 hx2 hx3 hb1 hb2 hb3 hmt
 go_enter Tryz.func12, Tryz.ntmps12
 go_wp2_with fail
 (try rw [hw1, hb5])
 (try rw [hw2, hb8])
 (try rw [hw3, hb9])
 clear hw1 hw2 hw3 hb5 hb8 hb9
 refine C.mono ?_
 rintro e w4 ⟨rfl, hb4⟩
 have HB4 := Lib.hid (bthn HB3.out hb4)
 have HX5 : Hid (w4.heap[b5]? = some (.cells #[.pointer (some ⟨S, 0, none⟩)] 37 (0, 0))) := Lib.hid ((hb4.block _ (Array.getElem?_eq_some_iff.1 HX5.out).1).trans HX5.out)
 have HX8 : Hid (w4.heap[b8]? = some (.cells #[.int .i64 3] 3 (0, 0))) := Lib.hid ((hb4.block _ (Array.getElem?_eq_some_iff.1 HX8.out).1).trans HX8.out)
 have HX9 : Hid (w4.heap[b9]? = some (.cells #[.int .u32 (v : Int)] 22 (0, 0))) := Lib.hid ((hb4.block _ (Array.getElem?_eq_some_iff.1 HX9.out).1).trans HX9.out)
 clear C hb4 k5
 go_upto_region 4 with fail
 have hq : decide (dt ≤ (v : Int)) = false := decide_eq_false (by have := HDT.out; omega)
 have HSS : Hid (∀ X, Below w4.heap.size w4 X → (X.cell? ⟨b5, 0, none⟩ = some (.pointer (some ⟨S, 0, none⟩)) ∧ X.cell? ⟨b9, 0, none⟩ = some (.int .u32 (v : Int))) ∧ Below w4.heap.size w4 X) := Lib.hid (fun X hb => ⟨⟨(World.cell?_of_block (hb.block _ ((Array.getElem?_eq_some_iff.1 HX5.out).1))).trans (cellOf HX5.out 0 rfl), (World.cell?_of_block (hb.block _ ((Array.getElem?_eq_some_iff.1 HX9.out).1))).trans (cellOf HX9.out 0 rfl)⟩, hb⟩)
 refine wp_region_held_drew (S := fun X => (X.cell? ⟨b5, 0, none⟩ = some (.pointer (some ⟨S, 0, none⟩)) ∧ X.cell? ⟨b9, 0, none⟩ = some (.int .u32 (v : Int))) ∧ Below w4.heap.size w4 X) (by kernel_rfl) (HSS.out _ (Below.refl _ _).drew) (fun hHeld => ?_)
 have hbe : Below w4.heap.size w4 w4.drew := (Below.refl _ _).drew
 obtain ⟨wd, hwd⟩ : ∃ y, w4.drew = y := ⟨_, rfl⟩
 rw [hwd] at hHeld hbe ⊢
 have HBE := Lib.hid hbe
 have HS0 : Hid (w4.heap.size ≤ wd.heap.size) := Lib.hid HBE.out.size
 clear hwd hbe
 refine wpAnyH_take (i := 0) (v := ?_) rfl (by kernel_rfl) (by kernel_rfl) (by kernel_rfl) (fun _ _ _ h => h) (Or.inl ⟨by rfl, ?_⟩) (by assumption) ?_
 rotate_left
 ·(intro w hSw; (try dsimp only at hSw); simp only [List.getElem_toArray, List.getElem_cons_zero, List.getElem_cons_succ]; go_simp; first | done | with_reducible rfl)
 simp only [List.getElem_toArray, List.getElem_cons_zero, List.getElem_cons_succ, Act.put, List.setIfInBounds_toArray, List.set_cons_zero, List.set_cons_succ]
 refine wpAnyH_take (i := 2) (v := ?_) rfl (by kernel_rfl) (by kernel_rfl) (by kernel_rfl) (fun _ _ _ h => h) (Or.inl ⟨by rfl, ?_⟩) (by assumption) ?_
 rotate_left
 ·(intro w hSw; (try dsimp only at hSw); simp only [List.getElem_toArray, List.getElem_cons_zero, List.getElem_cons_succ]; go_simp; first | done | with_reducible rfl)
 simp only [List.getElem_toArray, List.getElem_cons_zero, List.getElem_cons_succ, Act.put, List.setIfInBounds_toArray, List.set_cons_zero, List.set_cons_succ]
 refine wpAnyH_take (i := 1) (v := ?_) rfl (by kernel_rfl) (by kernel_rfl) (by kernel_rfl) (fun _ _ _ h => h) (Or.inl ⟨by rfl, ?_⟩) (by assumption) ?_
 rotate_left
 ·(intro w hSw; (try dsimp only at hSw); simp only [List.getElem_toArray, List.getElem_cons_zero, List.getElem_cons_succ]; go_simp; first | done | with_reducible rfl)
 simp only [List.getElem_toArray, List.getElem_cons_zero, List.getElem_cons_succ, Act.put, List.setIfInBounds_toArray, List.set_cons_zero, List.set_cons_succ]
 refine wpAnyH_ready (rs := [3]) (by kernel_rfl) (by simp) ?_
 refine AllReadyH.cons rfl (fun K hK => ?_) (AllReadyH.nil)
 simp only [List.getElem_toArray, List.getElem_cons_zero, List.getElem_cons_succ]
 go_simp
 refine (CS.out _ (bthn HB4.out HBE.out)).mono ?_
 rintro e y3 ⟨rfl, hb3⟩
 dsimp only
 have HBE := Lib.hid (bthen HBE.out hb3)
 have hSp := HSS.out _ HBE.out
 clear hHeld
 refine hK.out _ _ hSp (fun hHeld => ?_)
 clear hSp hK K
 try simp only [Act.put, List.setIfInBounds_toArray, List.set_cons_zero, List.set_cons_succ]
 have HC3 := Lib.hid hb3
 clear hb3
 refine wpAnyH_take (i := 4) (v := ?_) rfl (by kernel_rfl) (by kernel_rfl) (by kernel_rfl) (fun _ _ _ h => h) (Or.inl ⟨by rfl, ?_⟩) (by assumption) ?_
 rotate_left
 ·(intro w hSw; (try dsimp only at hSw); simp only [List.getElem_toArray, List.getElem_cons_zero, List.getElem_cons_succ]; go_simp; first | done | with_reducible rfl)
 simp only [List.getElem_toArray, List.getElem_cons_zero, List.getElem_cons_succ, Act.put, List.setIfInBounds_toArray, List.set_cons_zero, List.set_cons_succ]
 refine wpAnyH_take (i := 5) (v := ?_) rfl (by kernel_rfl) (by kernel_rfl) (by kernel_rfl) (fun _ _ _ h => h) (Or.inl ⟨by rfl, ?_⟩) (by assumption) ?_
 rotate_left
 ·(intro w hSw; (try dsimp only at hSw); simp only [List.getElem_toArray, List.getElem_cons_zero, List.getElem_cons_succ]; go_simp; first | done | with_reducible rfl)
 simp only [List.getElem_toArray, List.getElem_cons_zero, List.getElem_cons_succ, Act.put, List.setIfInBounds_toArray, List.set_cons_zero, List.set_cons_succ]
 refine wpAnyH_done (by kernel_rfl) ?_ _
 have HEND := Lib.hid hHeld.2
 have HSE := Lib.hid hHeld.1
 clear hHeld
 clear HSS HSE HEND hfl
 have HB5 := Lib.hid (bthn HB4.out HBE.out)
 have hx5 := (HBE.out.block _ (Array.getElem?_eq_some_iff.1 HX5.out).1).trans HX5.out
 have hx8 := (HBE.out.block _ (Array.getElem?_eq_some_iff.1 HX8.out).1).trans HX8.out
 have hx9 := (HBE.out.block _ (Array.getElem?_eq_some_iff.1 HX9.out).1).trans HX9.out
 have HY5 := Lib.hid hx5
 have HY8 := Lib.hid hx8
 have HY9 := Lib.hid hx9
 have k5 := cellOf hx5 0 (v := .pointer (some ⟨S, 0, none⟩)) rfl
 have k8 := cellOf hx8 0 (v := .int .i64 3) rfl
 have C := vin_by y3 S n 1 r (HG.out _ HB5.out)
 clear hx5 hx8 hx9
 go_wp2_with fail
 refine C.mono ?_
 rintro e y5 ⟨rfl, hb5⟩
 dsimp only
 have z5 := cellOf ((hb5.block _ (Array.getElem?_eq_some_iff.1 HY5.out).1).trans HY5.out) 0 (v := .pointer (some ⟨S, 0, none⟩)) rfl
 have C2 := HC.out y5 b5 b8 b9 (bthn HB5.out hb5) HGE.out z5 (cellOf ((hb5.block _ (Array.getElem?_eq_some_iff.1 HY8.out).1).trans HY8.out) 0 rfl) (cellOf ((hb5.block _ (Array.getElem?_eq_some_iff.1 HY9.out).1).trans HY9.out) 0 rfl)
 clear C hb5 k5 k8
 go_wp2_with fail
 refine C2.mono ?_
 rintro e y6 ⟨rfl, hp6⟩
 dsimp only
 have HP6 := Lib.hid hp6
 clear C2 hp6 z5
 go_wp2_with fail
 go_ret2
 exact ⟨rfl, HP6.out⟩
end Go.Proofs.YtgmahhdnjikdjaaGreat
/- slices.Delete at uint64, walked. -/
namespace Go.Proofs.YtgmahhdnjikdjaaGreat
open Go.RowKit Go.Maps Wire
set_option linter.unusedVariables false
set_option linter.unusedSimpArgs false
theorem mods_grown {w w' : World} {g : Nat} (h : w.grownBy w' (some g)) : Mods [g] w w' := ⟨h.os, h.tape, h.output, h.size, fun i hi hne => h.block i hi (fun e => hne (by simp [Option.some.inj e]))⟩
end Go.Proofs.YtgmahhdnjikdjaaGreat
/- btree.drop of a leaf, walked. -/
namespace Go.Proofs.YtgmahhdnjikdjaaGreat
open Go.RowKit Go.Maps Wire
set_option linter.unusedVariables false
set_option linter.unusedSimpArgs false
/-- A leaf without its i-th key. -/
def Nd.cut (y : Nd) (i : Nat) : Nd := { y with keys := y.keys.eraseIdx i, vals := y.vals.eraseIdx i }
theorem Nd.Ok.cut {y : Nd} (h : y.Ok) (hr : Rises y.keys) (i : Nat) : (y.cut i).Ok := by
 refine ⟨h.k, Nat.le_trans (List.eraseIdx_sublist _ _).length_le h.n, ?_, ?_, fun x hx => h.ku x ((List.eraseIdx_sublist _ _).subset hx), fun x hx => h.vu x ((List.eraseIdx_sublist _ _).subset hx)⟩
 ·show (y.vals.eraseIdx i).length = (y.keys.eraseIdx i).length
  rw [List.length_eraseIdx, List.length_eraseIdx, h.m]
 ·intro p a b ha hb
  have ha : (y.keys.eraseIdx i)[p]? = some a := ha
  have hb : (y.keys.eraseIdx i)[p + 1]? = some b := hb
  rw [List.getElem?_eraseIdx] at ha hb
  split at ha <;> split at hb
  ·exact hr _ _ a b (by omega) ha hb
  ·exact hr _ _ a b (by omega) ha hb
  ·omega
  ·exact hr _ _ a b (by omega) ha hb
theorem infoCh : (Tryz.prog.info? 167).map (·.size) = some 6 := by kernel_rfl
/-- What drop leaves. -/
def DropP (w : World) (S B pm pd mf md : Nat) (s : Su) (A D : M) (Fm Fd : List Nat) (l : List (Nat × (NdV × Nd))) (i : Nat) (y : Nd) (j v : Nat) (e : Ending) (w' : World) : Prop :=
 ∃ x, e = .returned (.tuple #[.agg #[.int .u32 (i : Int), .int .u32 0, .int .u64 ((y.cut j).keys.getD 0 0 : Nat), .int .u64 0, .int .u64 (v : Int), .bool true], .int .i64 ((y.keys.length - 1 : Nat) : Int), .int .i64 0]) ∧ StF w' S B pm pd mf md s A D Fm Fd (putA i (x, y.cut j) l) ∧ Mods [mf] w w' ∧ ∀ k ∈ obN x, w.heap.size ≤ k
theorem row_slx {w : World} {base n : Nat} {e : TypeId} {v : Value} {xs : List Value} (h : w.ownsRow base e 1 v n xs) : ∃ a c, v = .slice a n c := by
 obtain ⟨g, c, rfl⟩ := row_slO h
 exact ⟨_, _, rfl⟩
end Go.Proofs.YtgmahhdnjikdjaaGreat
