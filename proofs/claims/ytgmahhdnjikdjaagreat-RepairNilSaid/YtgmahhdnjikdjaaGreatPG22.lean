import Derived.Test.YtgmahhdnjikdjaaGreatPG21
set_option linter.unusedVariables false
set_option linter.unusedSimpArgs false
/- check: Names, none, Room, and what Store calls where there are no trees, walked. -/
namespace Go.Proofs.YtgmahhdnjikdjaaGreat
open Go.RowKit Wire
set_option linter.unusedVariables false
set_option linter.unusedSimpArgs false
set_option maxRecDepth 100000 in
set_option maxHeartbeats 3200000 in
theorem scount_in {w : World} {S B pm pd mf md : Nat} {s : Su} {A D : M} {Fm Fd : List Nat} {bk : Bool} (h : StB w S B pm pd mf md s A D Fm Fd bk) (i : Nat) (hi : i < A.now.length) : Calls Tryz.prog 207 #[.pointer (some ⟨S, 0, none⟩), .int .u32 (i : Int)] w fun e w' => e = .returned (.int .u16 (ctN A.now i : Int)) ∧ w = w' := by
 have CC := (count_in h.ma h.mok i hi).mono (R' := fun e w' => e = .returned (.int .u16 (ctN A.now i : Int)) ∧ w = w') (fun e w' hp => ⟨hp.1, hp.2.symm⟩)
 have c0 := cellOf h.box 2 (v := .int .i64 s.mt) rfl
 have c1 := cellOf h.box 20 (v := pt pm) rfl
 have hm := h.ml
 have hmx := h.mok.max
 obtain ⟨c, hc⟩ : ∃ c, ctN A.now i = c := ⟨_, rfl⟩
 rw [hc] at CC ⊢
 obtain ⟨n, hn⟩ : ∃ n, A.now.length = n := ⟨_, rfl⟩
 rw [hn] at hm hi hmx
 rw [← hm] at c0
 have hw : IntKind.i64.wrap (i : Int) = (i : Int) := IntWalk.i64_in _ ⟨by omega, by omega⟩
 have hz : decide ((n : Int) ≤ (i : Int)) = false := decide_eq_false (by omega)
 have hz2 : decide (n ≤ i) = false := decide_eq_false (by omega)
 unfold pt at CC c1
 clear h hc hn hm
 go_enter Tryz.func207, Tryz.ntmps207
 go_wp2_with fail
 refine CC.mono ?_
 rintro e w2 ⟨rfl, rfl⟩
 clear CC
 go_wp2_with fail
 go_ret
 exact ⟨rfl, rfl⟩
set_option maxRecDepth 100000 in
set_option maxHeartbeats 3200000 in
theorem sdcount_in {w : World} {S B pm pd mf md : Nat} {s : Su} {A D : M} {Fm Fd : List Nat} {bk : Bool} (h : StB w S B pm pd mf md s A D Fm Fd bk) (i : Nat) (hi : i < D.now.length) : Calls Tryz.prog 208 #[.pointer (some ⟨S, 0, none⟩), .int .u32 (i : Int)] w fun e w' => e = .returned (.int .u16 (ctN D.now i : Int)) ∧ w = w' := by
 have CC := (count_in h.da h.dok i hi).mono (R' := fun e w' => e = .returned (.int .u16 (ctN D.now i : Int)) ∧ w = w') (fun e w' hp => ⟨hp.1, hp.2.symm⟩)
 have c0 := cellOf h.box 3 (v := .int .i64 s.data) rfl
 have c1 := cellOf h.box 21 (v := pt pd) rfl
 have hm := h.dl
 have hmx := h.dok.max
 obtain ⟨c, hc⟩ : ∃ c, ctN D.now i = c := ⟨_, rfl⟩
 rw [hc] at CC ⊢
 obtain ⟨n, hn⟩ : ∃ n, D.now.length = n := ⟨_, rfl⟩
 rw [hn] at hm hi hmx
 rw [← hm] at c0
 have hw : IntKind.i64.wrap (i : Int) = (i : Int) := IntWalk.i64_in _ ⟨by omega, by omega⟩
 have hz : decide ((n : Int) ≤ (i : Int)) = false := decide_eq_false (by omega)
 have hz2 : decide (n ≤ i) = false := decide_eq_false (by omega)
 unfold pt at CC c1
 clear h hc hn hm
 go_enter Tryz.func208, Tryz.ntmps208
 go_wp2_with fail
 refine CC.mono ?_
 rintro e w2 ⟨rfl, rfl⟩
 clear CC
 go_wp2_with fail
 go_ret
 exact ⟨rfl, rfl⟩
/-- How many of the first are noughts. -/
def zcN (l : List Nat) (i : Nat) : Nat := ((l.take i).filter (· == 0)).length
/-- A store without trees. -/
structure Bare (s : Su) (m k P : Nat) : Prop where
 sm : s.mt = (m : Int)
 sk : s.data = (k : Int)
 rt : s.top = 0 ∧ s.base = 0 ∧ s.stage = 0
 pP : pagesN m + pagesN k = P
 p6 : P ≤ 6
 pg : ∀ i, i < P → s.pages.getD i 0 = i + 1
 m1 : 16 ≤ m ∧ m ≤ 1000
 k1 : 1 ≤ k ∧ k ≤ 1000
set_option maxRecDepth 100000 in
set_option maxHeartbeats 3200000 in
theorem trees_zero (w : World) (v : Value) : Calls Tryz.prog 205 #[v, .int .u32 0] w fun e w' => e = .returned (.slice none 0 0) ∧ w = w' := by
 go_enter Tryz.func205, Tryz.ntmps205
 go_wp2_with fail
 go_ret
 exact ⟨rfl, rfl⟩
set_option maxRecDepth 100000 in
set_option maxHeartbeats 3200000 in
theorem len64_zero (w : World) : Calls Tryz.prog 182 #[.int .u64 0] w fun e w' => e = .returned (.int .i64 0) ∧ w = w' := by
 go_enter Tryz.func182, Tryz.ntmps182
 go_wp2_with fail
 go_ret
 exact ⟨by kernel_rfl, rfl⟩
set_option maxRecDepth 100000 in
set_option maxHeartbeats 3200000 in
theorem blen_zero (w : World) : Calls Tryz.prog 145 #[.int .u64 0] w fun e w' => e = .returned (.int .i64 0) ∧ w = w' := by
 have C := len64_zero w
 go_enter Tryz.func145, Tryz.ntmps145
 go_wp2_with fail
 refine C.mono ?_
 rintro e w3 ⟨rfl, rfl⟩
 clear C
 go_wp2_with fail
 go_ret
 exact ⟨rfl, rfl⟩
set_option maxRecDepth 100000 in
set_option maxHeartbeats 3200000 in
theorem isort_zero (w : World) (f : Value) : Calls Tryz.prog 226 #[.slice none 0 0, .int .i64 0, .int .i64 0, f] w fun e w' => e = .returned (.tuple #[]) ∧ w = w' := by
 go_enter Tryz.func226, Tryz.ntmps226
 go_wp2_with fail
 go_loopw [8] (fun v wr => v = .int .i64 1 ∧ w = wr) (fun _ _ => 0)
 case atStart => exact ⟨rfl, rfl⟩
 case round =>
  obtain ⟨rfl, rfl⟩ := hrel
  go_wp2_with fail
  go_end0
  exact ⟨rfl, rfl⟩
set_option maxRecDepth 100000 in
set_option maxHeartbeats 3200000 in
theorem pdq_zero (w : World) (f : Value) : Calls Tryz.prog 220 #[.slice none 0 0, .int .i64 0, .int .i64 0, .int .i64 0, f] w fun e w' => e = .returned (.tuple #[]) ∧ w = w' := by
 have C := isort_zero w f
 go_enter Tryz.func220, Tryz.ntmps220
 go_wp2_with fail
 go_loopw [1, 2] (fun a b wr => a = .int .i64 0 ∧ b = .int .i64 0 ∧ w = wr) (fun _ _ _ => 0)
 case atStart => exact ⟨rfl, rfl, rfl⟩
 case round =>
  obtain ⟨rfl, rfl, rfl⟩ := hrel
  go_wp2_with fail
  refine C.mono ?_
  rintro e w3 ⟨rfl, rfl⟩
  clear C
  go_wp2_with fail
  exact bodyPost_ret (v := .tuple #[]) (by kernel_rfl) rfl ⟨rfl, rfl⟩
set_option maxRecDepth 100000 in
set_option maxHeartbeats 3200000 in
theorem sortf_zero (w : World) (f : Value) : Calls Tryz.prog 209 #[.slice none 0 0, f] w fun e w' => e = .returned (.tuple #[]) ∧ w = w' := by
 have CB := blen_zero w
 have C := pdq_zero w f
 go_enter Tryz.func209, Tryz.ntmps209
 go_wp2_with fail
 refine CB.mono ?_
 rintro e w3 ⟨rfl, rfl⟩
 clear CB
 go_wp2_with fail
 refine C.mono ?_
 rintro e w3 ⟨rfl, rfl⟩
 clear C
 go_wp2_with fail
 go_end0
 exact ⟨rfl, rfl⟩
set_option maxRecDepth 100000 in
set_option maxHeartbeats 3200000 in
theorem compact_zero (w : World) : Calls Tryz.prog 211 #[.slice none 0 0] w fun e w' => e = .returned (.slice none 0 0) ∧ w = w' := by
 go_enter Tryz.func211, Tryz.ntmps211
 go_wp2_with fail
 go_ret
 exact ⟨rfl, rfl⟩
end Go.Proofs.YtgmahhdnjikdjaaGreat
/- check: Store (of a store without trees); the law's known of layer 16, walked. -/
namespace Go.Proofs.YtgmahhdnjikdjaaGreat
open Go.RowKit Wire
set_option linter.unusedVariables false
set_option linter.unusedSimpArgs false
theorem app_nil (W : World) : (Builtin.append_ #[268, 268] 268 #[.slice none 0 0, .slice none 0 0]).run Tryz.prog W = .ok (.slice none 0 0) W := by kernel_rfl
set_option maxRecDepth 100000 in
set_option maxHeartbeats 6400000 in
theorem differ_m (w : World) (g n : Nat) (l : List Nat) (h : BoxI w g l) (hl : l.length = n) (hn : n ≤ 1000) (kd : Int) (S q : Nat) (hF : ∀ i c : Nat, l[i]? = some c → c < 65536 ∧ Calls Tryz.prog 207 #[.pointer (some ⟨S, 0, none⟩), .int .u32 (i : Int)] w fun e w' => e = .returned (.int .u16 (c : Int)) ∧ w = w') :
  Calls Tryz.prog 206 #[.int .i64 kd, .slice (some ⟨g, 0, none⟩) n n, .func (.func 207) #[.pointer (some ⟨S, 0, none⟩)] #[], .pointer (some ⟨q, 0, none⟩)] w fun e w' => e = .returned (.tuple #[]) ∧ w = w' := by
 have HX := Lib.hid h
 have HL := Lib.hid hl
 have HF := Lib.hid hF
 clear h hl hF
 go_enter Tryz.func206, Tryz.ntmps206
 go_wp2_with fail
 go_loopw [12] (fun v wr => ∃ i : Nat, i ≤ n ∧ v = .int .i64 (i : Int) ∧ w = wr) (fun v _ => n - (Go.RowKit.intOf v).toNat)
 case atStart => exact ⟨0, by omega, rfl, rfl⟩
 case round =>
  obtain ⟨i, hi, rfl, rfl⟩ := hrel
  by_cases hlt : i < n
  ·obtain ⟨x, hx⟩ : ∃ x, l[i]? = some x := ⟨_, List.getElem?_eq_getElem (by rw [HL.out]; exact hlt)⟩
   obtain ⟨hc, _⟩ := HX.out.cell hx
   obtain ⟨hxb, CF⟩ := HF.out i x hx
   have hw1 : IntKind.u32.wrap (i : Int) = (i : Int) := by rw [IntKind.wrap_u32]; omega
   have hw2 : IntKind.i64.wrap (x : Int) = (x : Int) := IntWalk.i64_in _ ⟨by omega, by omega⟩
   clear hx
   go_wp2_with fail
   refine CF.mono ?_
   rintro e w2 ⟨rfl, rfl⟩
   clear CF
   go_wp2_with fail
   go_roundw
   case rel => exact ⟨i + 1, by omega, by go_num, trivial⟩
   case measure => simp [Go.RowKit.intOf]; omega
  ·obtain rfl : i = n := by omega
   go_wp2_with fail
   go_end0
   exact ⟨rfl, rfl⟩
set_option maxRecDepth 100000 in
set_option maxHeartbeats 6400000 in
theorem differ_d (w : World) (g n : Nat) (l : List Nat) (h : BoxI w g l) (hl : l.length = n) (hn : n ≤ 1000) (kd : Int) (S q : Nat) (hF : ∀ i c : Nat, l[i]? = some c → c < 65536 ∧ Calls Tryz.prog 208 #[.pointer (some ⟨S, 0, none⟩), .int .u32 (i : Int)] w fun e w' => e = .returned (.int .u16 (c : Int)) ∧ w = w') :
  Calls Tryz.prog 206 #[.int .i64 kd, .slice (some ⟨g, 0, none⟩) n n, .func (.func 208) #[.pointer (some ⟨S, 0, none⟩)] #[], .pointer (some ⟨q, 0, none⟩)] w fun e w' => e = .returned (.tuple #[]) ∧ w = w' := by
 have HX := Lib.hid h
 have HL := Lib.hid hl
 have HF := Lib.hid hF
 clear h hl hF
 go_enter Tryz.func206, Tryz.ntmps206
 go_wp2_with fail
 go_loopw [12] (fun v wr => ∃ i : Nat, i ≤ n ∧ v = .int .i64 (i : Int) ∧ w = wr) (fun v _ => n - (Go.RowKit.intOf v).toNat)
 case atStart => exact ⟨0, by omega, rfl, rfl⟩
 case round =>
  obtain ⟨i, hi, rfl, rfl⟩ := hrel
  by_cases hlt : i < n
  ·obtain ⟨x, hx⟩ : ∃ x, l[i]? = some x := ⟨_, List.getElem?_eq_getElem (by rw [HL.out]; exact hlt)⟩
   obtain ⟨hc, _⟩ := HX.out.cell hx
   obtain ⟨hxb, CF⟩ := HF.out i x hx
   have hw1 : IntKind.u32.wrap (i : Int) = (i : Int) := by rw [IntKind.wrap_u32]; omega
   have hw2 : IntKind.i64.wrap (x : Int) = (x : Int) := IntWalk.i64_in _ ⟨by omega, by omega⟩
   clear hx
   go_wp2_with fail
   refine CF.mono ?_
   rintro e w2 ⟨rfl, rfl⟩
   clear CF
   go_wp2_with fail
   go_roundw
   case rel => exact ⟨i + 1, by omega, by go_num, trivial⟩
   case measure => simp [Go.RowKit.intOf]; omega
  ·obtain rfl : i = n := by omega
   go_wp2_with fail
   go_end0
   exact ⟨rfl, rfl⟩
theorem StB.mods {w w' : World} {S B pm pd mf md : Nat} {s : Su} {A D : M} {Fm Fd F : List Nat} {bk : Bool} (h : StB w S B pm pd mf md s A D Fm Fd bk) (hm : Mods F w w') (h1 : S ∉ F) (h2 : ∀ k ∈ Fm, k ∉ F) (h3 : ∀ k ∈ Fd, k ∉ F) : StB w' S B pm pd mf md s A D Fm Fd bk :=
 ⟨(hm.block _ (Array.getElem?_eq_some_iff.1 h.box).1 h1).trans h.box, h.ma.same (fun j hj => hm.block j (h.ma.lt j hj) (h2 j hj)), h.da.same (fun j hj => hm.block j (h.da.lt j hj) (h3 j hj)), h.mok, h.dok, h.ml, h.dl, h.wf⟩
theorem NmAt.mods {w w' : World} {q gm gd mp m k o : Nat} {lm ld : List Nat} {cs : Array Value} {t : TypeId} {f : Nat × Nat} (h : NmAt w q gm gd mp m k lm ld) (hm : Mods [o] w w') (ho : w.heap[o]? = some (.cells cs t f)) (h1 : t ≠ 327) (h2 : t ≠ 3) : NmAt w' q gm gd mp m k lm ld := by
 have e : ∀ j ds t2 f2, w.heap[j]? = some (.cells ds t2 f2) → t ≠ t2 → j ∉ [o] := fun j ds t2 f2 hj hne hmem => tag_ne ho hj hne (List.mem_singleton.1 hmem).symm
 exact ⟨(hm.block _ (Array.getElem?_eq_some_iff.1 h.1).1 (e _ _ _ _ h.1 h1)).trans h.1, (hm.block _ (Array.getElem?_eq_some_iff.1 h.2.1).1 (e _ _ _ _ h.2.1 h2)).trans h.2.1, (hm.block _ (Array.getElem?_eq_some_iff.1 h.2.2.1).1 (e _ _ _ _ h.2.2.1 h2)).trans h.2.2.1, h.2.2.2⟩
set_option maxRecDepth 100000 in
set_option maxHeartbeats 12800000 in
theorem cstore_at {w : World} {S B pm pd mf md : Nat} {s : Su} {A D : M} {Fm Fd : List Nat} (h : StB w S B pm pd mf md s A D Fm Fd false) (m k P : Nat) (hb : Bare s m k P) (hA : A.now = ctK m P) (hD : D.now = List.replicate k 0) :
  Calls Tryz.prog 185 #[.pointer (some ⟨S, 0, none⟩)] w fun e w' => e = .returned (.tuple #[.slice none 0 0, .int .i64 0]) ∧ Below w.heap.size w w' := by
 have CT := there_at h (by rw [hb.sm]; have := hb.m1; omega)
 have HH := Lib.hid h
 have HBR := Lib.hid hb
 have HAD := Lib.hid (And.intro hA hD)
 clear h hb hA hD
 go_enter Tryz.func185, Tryz.ntmps185
 go_wp2_with fail
 refine CT.mono ?_
 rintro e w2 ⟨rfl, hb2⟩
 have CW := cwalk_at (HH.out.below hb2) m k P HBR.out.sm HBR.out.sk HBR.out.rt HBR.out.pP HBR.out.p6 HBR.out.pg HBR.out.m1 HBR.out.k1
 unfold pt at CW
 have HB2 := Lib.hid hb2
 clear CT hb2
 go_wp2_with fail
 refine CW.mono ?_
 rintro e w3 ⟨q, gm, gd, mp, rfl, hnm, hb3⟩
 have CS := ssuper_at (HH.out.below (bthn HB2.out hb3))
 rw [suL_v] at CS
 have HN3 := Lib.hid hnm
 have HB3 := Lib.hid (bthn HB2.out hb3)
 clear CW hnm hb3
 go_wp2_with fail
 refine CS.mono ?_
 rintro e w4 ⟨rfl, hb4⟩
 dsimp only
 have HN4 := Lib.hid (HN3.out.below hb4)
 have HB4 := Lib.hid (bthn HB3.out hb4)
 obtain ⟨SL, hSL⟩ : ∃ L, suL s = L := ⟨_, rfl⟩
 have HSL := Lib.hid hSL
 have HS19 : Hid (SL.length = 19) := Lib.hid (by rw [← hSL]; rfl)
 have HS1 : Hid (∀ u ∈ SL, u.oneCell' = true) := Lib.hid (by rw [← hSL]; exact suL_one s)
 rw [hSL]
 have hss : SL.toArray.size = 19 := by rw [List.size_toArray, HS19.out]
 clear CS hb4 hSL
 repeat (first
  | (refine wpList_store_mid rfl 72 _ _ rfl w4.heap.size 0 SL.toArray rfl rfl (thereOf (heap_alloc_new w4 _) (by rw [hss]; simp)) (by rw [hss]; exact infoSup) (Array.all_eq_true_iff_forall_mem.2 (fun v hv => HS1.out v (by simpa using hv))) ?_; refine Hid.out ?_)
  | go_step)
 refine Lib.hid ?_
 simp only [List.toList_toArray]
 obtain ⟨w5, hw5⟩ : ∃ W, (w4.alloc (.cells #[.int .u64 0, .int .i64 0, .int .i64 0, .int .u32 0, .int .u32 0, .int .u32 0, .int .u32 0, .int .u32 0, .int .u32 0, .int .u32 0, .int .u32 0, .int .u32 0, .int .i64 0, .int .u64 0, .int .u64 0, .int .u64 0, .int .u64 0, .int .u64 0, .bool false] 72)).setCells w4.heap.size 0 SL = W := ⟨_, rfl⟩
 have hb5 : Below w4.heap.size w4 w5 := by rw [← hw5]; exact belowSets (Nat.le_refl _) _ _ _ (balloc (Below.refl _ _) _)
 obtain ⟨xb, hxb⟩ : ∃ x, w4.heap.size = x := ⟨_, rfl⟩
 have hx5 : w5.heap[xb]? = some (.cells (suL s).toArray 72 (0, 0)) := by rw [HSL.out, ← hw5, ← hxb]; exact sets_all (heap_alloc_new _ _) (by rw [HS19.out]; rfl)
 rw [hw5, hxb]
 obtain ⟨w6, hw6⟩ : ∃ W, w5.alloc (.cells #[.slice none 0 0] 268) = W := ⟨_, rfl⟩
 have hb6 : Below w5.heap.size w5 w6 := by rw [← hw6]; exact balloc (Below.refl _ _) _
 obtain ⟨ob, hob⟩ : ∃ x, w5.heap.size = x := ⟨_, rfl⟩
 have ho6 : w6.heap[ob]? = some (.cells #[.slice none 0 0] 268 (0, 0)) := by rw [← hw6, ← hob]; exact heap_alloc_new _ _
 have HN6 := Lib.hid ((HN4.out.below hb5).below hb6)
 have HX6 : Hid (w6.heap[xb]? = some (.cells (suL s).toArray 72 (0, 0))) := Lib.hid ((hb6.block _ (Array.getElem?_eq_some_iff.1 hx5).1).trans hx5)
 have HB6 := Lib.hid (bthn HB4.out (bthn hb5 hb6))
 have HOB : Hid (w.heap.size ≤ ob) := Lib.hid (by rw [← hob]; exact Nat.le_trans HB4.out.size hb5.size)
 have HO6 := Lib.hid ho6
 have cq := cellOf HN6.out.1 3 rfl
 clear hw5 hxb hb5 hx5 hb6 ho6 hss
 go_wp2_with fail
 (try rw [hw6])
 (try rw [hob])
 clear hw6 hob
 go_loopw [27] (fun v wr => v = .int .i64 0 ∧ w6 = wr) (fun _ _ => 0)
 case atStart => exact ⟨rfl, rfl⟩
 case round =>
  obtain ⟨rfl, rfl⟩ := hrel
  have d9 := cellOf HX6.out 9 (v := .int .u32 (0 : Int)) (by have e : (suL s).toArray[9]? = some (.int .u32 ((s.top : Nat) : Int)) := rfl; rw [HBR.out.rt.1] at e; exact e)
  have d10 := cellOf HX6.out 10 (v := .int .u32 (0 : Int)) (by have e : (suL s).toArray[10]? = some (.int .u32 ((s.base : Nat) : Int)) := rfl; rw [HBR.out.rt.2.1] at e; exact e)
  have d11 := cellOf HX6.out 11 (v := .int .u32 (0 : Int)) (by have e : (suL s).toArray[11]? = some (.int .u32 ((s.stage : Nat) : Int)) := rfl; rw [HBR.out.rt.2.2] at e; exact e)
  clear cq
  go_wp2_with fail
  clear d9 d10 d11
  obtain ⟨yb, hyb⟩ : ∃ W, w6.alloc (.cells #[.int .u32 0, .int .u32 0, .int .u32 0] 22) = W := ⟨_, rfl⟩
  have hby : Below w6.heap.size w6 yb := by rw [← hyb]; exact balloc (Below.refl _ _) _
  have HYL : Hid (yb.heap[w6.heap.size]? = some (.cells #[.int .u32 0, .int .u32 0, .int .u32 0] 22 (0, 0))) := Lib.hid (by rw [← hyb]; exact heap_alloc_new _ _)
  have HNY := Lib.hid (HN6.out.below hby)
  have HOY : Hid (yb.heap[ob]? = some (.cells #[.slice none 0 0] 268 (0, 0))) := Lib.hid ((hby.block _ (Array.getElem?_eq_some_iff.1 HO6.out).1).trans HO6.out)
  have HBY := Lib.hid (bthn HB6.out hby)
  rw [hyb]
  clear hyb hby
  go_loopw [45] (fun v wr => ∃ j : Nat, j ≤ 3 ∧ v = .int .i64 (j : Int) ∧ Below w.heap.size w wr ∧ wr.heap[ob]? = some (.cells #[.slice none 0 0] 268 (0, 0)) ∧ Mods [ob] yb wr) (fun v _ => 3 - (Go.RowKit.intOf v).toNat)
  case atStart => exact ⟨0, by omega, rfl, HBY.out, HOY.out, Mods.refl _ _⟩
  case round =>
   obtain ⟨j, hj, rfl, hbw, how, hmm⟩ := hrel
   have HBW := Lib.hid hbw
   have HOW := Lib.hid how
   have HMM := Lib.hid hmm
   have HOL : Hid (ob < wr.heap.size) := Lib.hid (Array.getElem?_eq_some_iff.1 how).1
   have HYW : Hid (wr.heap[w6.heap.size]? = some (.cells #[.int .u32 0, .int .u32 0, .int .u32 0] 22 (0, 0))) := Lib.hid ((hmm.block _ (Array.getElem?_eq_some_iff.1 HYL.out).1 (fun hh => tag_ne HYL.out HOY.out (by decide) (List.mem_singleton.1 hh))).trans HYL.out)
   have HNW := Lib.hid (HNY.out.mods hmm HOY.out (by decide) (by decide))
   clear hbw how hmm
   by_cases hlt : j < 3
   ·have cl := cellOf HYW.out j (v := .int .u32 (0 : Int)) (by rcases (show j = 0 ∨ j = 1 ∨ j = 2 by omega) with rfl | rfl | rfl <;> rfl)
    have hj3 : (j : Int) < 3 := by omega
    have CTZ : Hid (∀ X, Calls Tryz.prog 205 #[.pointer (some ⟨S, 0, none⟩), .int .u32 0] X fun e w' => e = .returned (.slice none 0 0) ∧ Below X.heap.size X w') := Lib.hid (fun X => (trees_zero X _).mono fun e w' hp => ⟨hp.1, by rw [← hp.2]; exact Below.refl _ _⟩)
    go_wp2_with fail
    clear cl
    have HSS : Hid (∀ X, Mods [ob] wr X → (True) ∧ Mods [ob] wr X) := Lib.hid (fun X hb => ⟨trivial, hb⟩)
    refine wp_region_held_drew (S := fun X => (True) ∧ Mods [ob] wr X) (by kernel_rfl) (HSS.out _ (Mods.of_below (Below.refl _ _).drew)) (fun hHeld => ?_)
    have hbe : Below wr.heap.size wr wr.drew := (Below.refl _ _).drew
    obtain ⟨wd, hwd⟩ : ∃ y, wr.drew = y := ⟨_, rfl⟩
    rw [hwd] at hHeld hbe ⊢
    have HBE := Lib.hid hbe
    have HS0 : Hid (wr.heap.size ≤ wd.heap.size) := Lib.hid HBE.out.size
    clear hwd hbe
    refine wpAnyH_take (i := 1) (v := ?_) rfl (by kernel_rfl) (by kernel_rfl) (by kernel_rfl) (fun _ _ _ h => h) (Or.inl ⟨by rfl, ?_⟩) (by assumption) ?_
    rotate_left
    ·(intro w hSw; (try dsimp only at hSw); simp only [List.getElem_toArray, List.getElem_cons_zero, List.getElem_cons_succ]; go_simp; first | done | with_reducible rfl)
    simp only [List.getElem_toArray, List.getElem_cons_zero, List.getElem_cons_succ, Act.put, List.setIfInBounds_toArray, List.set_cons_zero, List.set_cons_succ]
    refine wpAnyH_take (i := 2) (v := ?_) rfl (by kernel_rfl) (by kernel_rfl) (by kernel_rfl) (fun _ _ _ h => h) (Or.inl ⟨by rfl, ?_⟩) (by assumption) ?_
    rotate_left
    ·(intro w hSw; (try dsimp only at hSw); simp only [List.getElem_toArray, List.getElem_cons_zero, List.getElem_cons_succ]; go_simp; first | done | with_reducible rfl)
    simp only [List.getElem_toArray, List.getElem_cons_zero, List.getElem_cons_succ, Act.put, List.setIfInBounds_toArray, List.set_cons_zero, List.set_cons_succ]
    refine wpAnyH_ready (rs := [0, 3]) (by kernel_rfl) (by simp) ?_
    refine AllReadyH.cons rfl (fun K hK => ?_) (AllReadyH.cons rfl (fun K hK => ?_) (AllReadyH.nil))
    ·skip
     have hrd := cellOf ((HBE.out.block _ HOL.out).trans HOW.out) 0 (v := .slice none 0 0) rfl
     simp only [List.getElem_toArray, List.getElem_cons_zero, List.getElem_cons_succ]
     go_simp
     clear hrd
     refine hK.out _ _ ?_ (fun hHeld => ?_)
     ·exact (by first | exact HSS.out _ (Mods.of_below HBE.out) | exact HSS.out _ HMD.out)
     clear hK K
     try simp only [Act.put, List.setIfInBounds_toArray, List.set_cons_zero, List.set_cons_succ]
     refine wpAnyH_ready (rs := [3]) (by kernel_rfl) (by simp) ?_
     refine AllReadyH.cons rfl (fun K hK => ?_) (AllReadyH.nil)
     simp only [List.getElem_toArray, List.getElem_cons_zero, List.getElem_cons_succ]
     go_simp
     refine (CTZ.out _).mono ?_
     rintro e y3 ⟨rfl, hb3⟩
     dsimp only
     have HBE := Lib.hid (bthen HBE.out hb3)
     have hSp := HSS.out _ (Mods.of_below HBE.out)
     clear hHeld
     refine hK.out _ _ hSp (fun hHeld => ?_)
     clear hSp hK K
     try simp only [Act.put, List.setIfInBounds_toArray, List.set_cons_zero, List.set_cons_succ]
     have HC3 := Lib.hid hb3
     clear hb3
     refine wpAnyH_ready (rs := [4]) (by kernel_rfl) (by simp) ?_
     refine AllReadyH.cons rfl (fun K hK => ?_) (AllReadyH.nil)
     have hrd := app_nil y3
     simp only [List.getElem_toArray, List.getElem_cons_zero, List.getElem_cons_succ]
     go_simp
     clear hrd
     refine hK.out _ _ ?_ (fun hHeld => ?_)
     ·exact (by first | exact HSS.out _ (Mods.of_below HBE.out) | exact HSS.out _ HMD.out)
     clear hK K
     try simp only [Act.put, List.setIfInBounds_toArray, List.set_cons_zero, List.set_cons_succ]
     refine wpAnyH_ready (rs := [5]) (by kernel_rfl) (by simp) ?_
     refine AllReadyH.cons rfl (fun K hK => ?_) (AllReadyH.nil)
     have hc5 := cellOf ((HBE.out.block _ HOL.out).trans HOW.out) 0 (v := .slice none 0 0) rfl
     have hf5 := frozenOf ((HBE.out.block _ HOL.out).trans HOW.out) 0
     simp only [List.getElem_toArray, List.getElem_cons_zero, List.getElem_cons_succ]
     go_simp
     refine hK.out _ _ ?_ (fun hHeld => ?_)
     ·exact HSS.out _ ((Mods.of_below HBE.out).setCell (p := ⟨ob, 0, none⟩) (List.mem_singleton.2 rfl) _)
     clear hK K
     try simp only [Act.put, List.setIfInBounds_toArray, List.set_cons_zero, List.set_cons_succ]
     clear hc5 hf5
     refine wpAnyH_done (by kernel_rfl) ?_ _
     have HEND := Lib.hid hHeld.2
     have HSE := Lib.hid hHeld.1
     clear hHeld
     clear HSS HSE HEND
     have HOE := Lib.hid ((HBE.out.block _ HOL.out).trans HOW.out)
     have HQS : Hid (ob ∈ [ob]) := Lib.hid (List.mem_singleton.2 rfl)
     have HME : Hid (Mods [ob] yb (y3.setCell ⟨ob, 0, none⟩ (.slice none 0 0))) := Lib.hid (((HMM.out.thenBelow HBE.out)).setCell (p := ⟨ob, 0, none⟩) HQS.out _)
     have HOS : Hid ((y3.setCell ⟨ob, 0, none⟩ (.slice none 0 0)).heap[ob]? = some (.cells #[.slice none 0 0] 268 (0, 0))) := Lib.hid (setOf HOE.out 0 (.slice none 0 0))
     have HBS : Hid (Below w.heap.size w (y3.setCell ⟨ob, 0, none⟩ (.slice none 0 0))) := Lib.hid ((HBW.out.trans (HBE.out.mono HBW.out.size)).setCell (p := ⟨ob, 0, none⟩) HOB.out _)
     go_wp2_with fail
     go_roundw
     case rel => exact ⟨j + 1, by omega, by go_num, HBS.out, HOS.out, HME.out⟩
     case measure => simp [Go.RowKit.intOf]; omega
    ·skip
     simp only [List.getElem_toArray, List.getElem_cons_zero, List.getElem_cons_succ]
     go_simp
     refine (CTZ.out _).mono ?_
     rintro e y3 ⟨rfl, hb3⟩
     dsimp only
     have HBE := Lib.hid (bthen HBE.out hb3)
     have hSp := HSS.out _ (Mods.of_below HBE.out)
     clear hHeld
     refine hK.out _ _ hSp (fun hHeld => ?_)
     clear hSp hK K
     try simp only [Act.put, List.setIfInBounds_toArray, List.set_cons_zero, List.set_cons_succ]
     have HC3 := Lib.hid hb3
     clear hb3
     refine wpAnyH_ready (rs := [0]) (by kernel_rfl) (by simp) ?_
     refine AllReadyH.cons rfl (fun K hK => ?_) (AllReadyH.nil)
     have hrd := cellOf ((HBE.out.block _ HOL.out).trans HOW.out) 0 (v := .slice none 0 0) rfl
     simp only [List.getElem_toArray, List.getElem_cons_zero, List.getElem_cons_succ]
     go_simp
     clear hrd
     refine hK.out _ _ ?_ (fun hHeld => ?_)
     ·exact (by first | exact HSS.out _ (Mods.of_below HBE.out) | exact HSS.out _ HMD.out)
     clear hK K
     try simp only [Act.put, List.setIfInBounds_toArray, List.set_cons_zero, List.set_cons_succ]
     refine wpAnyH_ready (rs := [4]) (by kernel_rfl) (by simp) ?_
     refine AllReadyH.cons rfl (fun K hK => ?_) (AllReadyH.nil)
     have hrd := app_nil y3
     simp only [List.getElem_toArray, List.getElem_cons_zero, List.getElem_cons_succ]
     go_simp
     clear hrd
     refine hK.out _ _ ?_ (fun hHeld => ?_)
     ·exact (by first | exact HSS.out _ (Mods.of_below HBE.out) | exact HSS.out _ HMD.out)
     clear hK K
     try simp only [Act.put, List.setIfInBounds_toArray, List.set_cons_zero, List.set_cons_succ]
     refine wpAnyH_ready (rs := [5]) (by kernel_rfl) (by simp) ?_
     refine AllReadyH.cons rfl (fun K hK => ?_) (AllReadyH.nil)
     have hc5 := cellOf ((HBE.out.block _ HOL.out).trans HOW.out) 0 (v := .slice none 0 0) rfl
     have hf5 := frozenOf ((HBE.out.block _ HOL.out).trans HOW.out) 0
     simp only [List.getElem_toArray, List.getElem_cons_zero, List.getElem_cons_succ]
     go_simp
     refine hK.out _ _ ?_ (fun hHeld => ?_)
     ·exact HSS.out _ ((Mods.of_below HBE.out).setCell (p := ⟨ob, 0, none⟩) (List.mem_singleton.2 rfl) _)
     clear hK K
     try simp only [Act.put, List.setIfInBounds_toArray, List.set_cons_zero, List.set_cons_succ]
     clear hc5 hf5
     refine wpAnyH_done (by kernel_rfl) ?_ _
     have HEND := Lib.hid hHeld.2
     have HSE := Lib.hid hHeld.1
     clear hHeld
     clear HSS HSE HEND
     have HOE := Lib.hid ((HBE.out.block _ HOL.out).trans HOW.out)
     have HQS : Hid (ob ∈ [ob]) := Lib.hid (List.mem_singleton.2 rfl)
     have HME : Hid (Mods [ob] yb (y3.setCell ⟨ob, 0, none⟩ (.slice none 0 0))) := Lib.hid (((HMM.out.thenBelow HBE.out)).setCell (p := ⟨ob, 0, none⟩) HQS.out _)
     have HOS : Hid ((y3.setCell ⟨ob, 0, none⟩ (.slice none 0 0)).heap[ob]? = some (.cells #[.slice none 0 0] 268 (0, 0))) := Lib.hid (setOf HOE.out 0 (.slice none 0 0))
     have HBS : Hid (Below w.heap.size w (y3.setCell ⟨ob, 0, none⟩ (.slice none 0 0))) := Lib.hid ((HBW.out.trans (HBE.out.mono HBW.out.size)).setCell (p := ⟨ob, 0, none⟩) HOB.out _)
     go_wp2_with fail
     go_roundw
     case rel => exact ⟨j + 1, by omega, by go_num, HBS.out, HOS.out, HME.out⟩
     case measure => simp [Go.RowKit.intOf]; omega
   ·obtain rfl : j = 3 := by omega
    have HSM : Hid (StB wr S B pm pd mf md s A D Fm Fd false) := Lib.hid ((HH.out.below (HBY.out)).mods HMM.out (fun hh => by have := (Array.getElem?_eq_some_iff.1 HH.out.box).1; have := HOB.out; have := List.mem_singleton.1 hh; omega) (fun k hk hh => by have := HH.out.ma.lt k hk; have := HOB.out; have := List.mem_singleton.1 hh; omega) (fun k hk hh => by have := HH.out.da.lt k hk; have := HOB.out; have := List.mem_singleton.1 hh; omega))
    have hPm : P < m := by have := HBR.out.p6; have := HBR.out.m1; omega
    have CD1 := differ_m wr gm m (ctK m P) HNW.out.2.1 (ctK_len hPm) HBR.out.m1.2 4 S ob (fun i c hc => by
     have hi : i < A.now.length := by rw [HAD.out.1]; exact (List.getElem?_eq_some_iff.1 hc).1
     have h9 := scount_in HSM.out i hi
     have e : ctN A.now i = c := by unfold ctN; rw [HAD.out.1, List.getD_eq_getElem?_getD, hc]; rfl
     rw [e] at h9
     exact ⟨ctK_lt m P c (List.mem_of_getElem? hc), h9⟩)
    have CD2 := differ_d wr gd k (List.replicate k 0) HNW.out.2.2.1 List.length_replicate HBR.out.k1.2 5 S ob (fun i c hc => by
     have hi : i < D.now.length := by rw [HAD.out.2]; exact (List.getElem?_eq_some_iff.1 hc).1
     have h9 := sdcount_in HSM.out i hi
     have e : ctN D.now i = c := by unfold ctN; rw [HAD.out.2, List.getD_eq_getElem?_getD, hc]; rfl
     rw [e] at h9
     exact ⟨by have := List.eq_of_mem_replicate (List.mem_of_getElem? hc); omega, h9⟩)
    have hmf : ∀ (fn : Fn) (first cap : Array Value) (w : World), (Instr.makeFunc fn first cap).run Tryz.prog w = .ok (.func fn first cap) w := by intros; rfl
    have cq0 := cellOf HNW.out.1 0 rfl
    have cq1 := cellOf HNW.out.1 1 rfl
    have co := cellOf HOW.out 0 rfl
    have CSF := sortf_zero wr (.func (.func 210) #[] #[])
    have CCP := compact_zero wr
    clear hPm
    go_wp2_with fail
    refine CD1.mono ?_
    rintro e y1 ⟨rfl, rfl⟩
    clear CD1
    go_wp2_with fail
    refine CD2.mono ?_
    rintro e y1 ⟨rfl, rfl⟩
    clear CD2
    go_wp2_with fail
    refine CSF.mono ?_
    rintro e y1 ⟨rfl, rfl⟩
    clear CSF
    go_wp2_with fail
    refine CCP.mono ?_
    rintro e y1 ⟨rfl, rfl⟩
    clear CCP
    go_wp2_with fail
    go_ret2
    exact ⟨rfl, HBW.out⟩
end Go.Proofs.YtgmahhdnjikdjaaGreat
/- The law's known of layer 16, walked. -/
namespace Go.Proofs.YtgmahhdnjikdjaaGreat
open Go.RowKit Wire
set_option linter.unusedVariables false
set_option linter.unusedSimpArgs false
theorem bareF {n m k : Nat} (ok : MkOk n m k) : Bare (suF m k (pagesN m + pagesN k)) m k (pagesN m + pagesN k) :=
 ⟨rfl, rfl, ⟨rfl, rfl, rfl⟩, rfl, ok.p6, fun i hi => pgK_get ok.p6 hi, ⟨ok.m1, by have := ok.m2; omega⟩, ⟨ok.k1, by have := ok.k2; omega⟩⟩
end Go.Proofs.YtgmahhdnjikdjaaGreat
