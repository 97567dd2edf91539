import Derived.Test.YtgmahhdnjikdjaaGreatVG15
set_option linter.unusedVariables false
set_option linter.unusedSimpArgs false
/- store: Open, walked. -/
namespace Go.Proofs.YtgmahhdnjikdjaaGreat
open Go.RowKit Wire
set_option linter.unusedVariables false
set_option linter.unusedSimpArgs false
/-- A store's cells. -/
def stC (B : Nat) (s : Su) (pm pd mf md : Nat) (bk : Bool) : Array Value :=
 #[.pointer (some ⟨B, 0, none⟩), .int .u64 (s.tx : Int), .int .i64 s.mt, .int .i64 s.data, .int .u32 ((s.pages.getD 0 0 : Nat) : Int), .int .u32 ((s.pages.getD 1 0 : Nat) : Int), .int .u32 ((s.pages.getD 2 0 : Nat) : Int), .int .u32 ((s.pages.getD 3 0 : Nat) : Int), .int .u32 ((s.pages.getD 4 0 : Nat) : Int), .int .u32 ((s.pages.getD 5 0 : Nat) : Int), .int .u32 (s.top : Int), .int .u32 (s.base : Int), .int .u32 (s.stage : Int), .int .i64 s.cursor, .int .u64 (s.epoch : Int), .int .u64 (s.last : Int), .int .u64 (s.seq : Int), .int .u64 (s.blast : Int), .int .u64 (s.bseq : Int), .bool s.marked, pt pm, pt pd, .map (some mf), .map (some md), .bool bk]
theorem sto_built (B : Nat) (s : Su) (pm pd mf md : Nat) : Tryz.prog.built 176 [(0, .pointer (some ⟨B, 0, none⟩)), (1, .agg (suL s).toArray), (2, pt pm), (3, pt pd), (4, .map (some mf)), (5, .map (some md))] = some (stC B s pm pd mf md false) := by kernel_rfl
theorem run_slicePg (g n : Nat) (hn : n ≤ 6) : ∀ W, (Instr.sliceAt 68 (.pointer (some ⟨g, 3, none⟩)) none (some (.int .i64 (n : Int))) none).run Tryz.prog W = .ok (.slice (some ⟨g, 3, none⟩) n 6) W := fun W => by
 have hl : Tryz.prog.arrayLen 68 = 6 := by kernel_rfl
 have hs : ∀ W, (sizeOf (Tryz.prog.elem 68)).run Tryz.prog W = .ok 1 W := fun W => by kernel_rfl
 rw [run_sliceAt_array_h (P := Tryz.prog) W 68 ⟨g, 3, none⟩ (by kernel_rfl) .i64 (n : Int) (by omega) (by rw [hl]; omega), hs, hl]
 simp [Result.andThen_ok, slicedAt, Addr.add_lit]
/-- What Open asks of a disk's superblock and counts. -/
structure OpOk (d : Dk) (s : Su) (m k : Nat) (mcs dcs : List Nat) : Prop where
 wf : s.Wf
 may : s.May
 sm : s.mt = (m : Int)
 sk : s.data = (k : Int)
 ml : mcs.length = m
 dl : dcs.length = k
 mc : ∀ c ∈ mcs, c < 65536
 dc : ∀ c ∈ dcs, c < 65536
 p6 : pagesN m + pagesN k ≤ 6
 sec : 4 * (2 + m + k) ≤ d.img.length
 cur : s.cursor.toNat < k
 good : ∀ i, i < pagesN m + pagesN k → rdB d.img (2 + s.pages.getD i 0) = wpB s.pages mcs dcs i
 one0 : ctN mcs 0 = 1
 one : ∀ i, i < pagesN m + pagesN k → ctN mcs (s.pages.getD i 0) = 1
 top : ctN mcs s.top ≠ 0
 base : ctN mcs s.base ≠ 0
 stage : ctN mcs s.stage ≠ 0
theorem OpOk.mLe {d : Dk} {s : Su} {m k : Nat} {mcs dcs : List Nat} (h : OpOk d s m k mcs dcs) : 16 ≤ m ∧ m ≤ 240 ∧ 1 ≤ k ∧ k ≤ 480 := by
 obtain ⟨m1, m2, m3, m4, _⟩ := h.may
 rw [h.sm] at m1 m2
 rw [h.sk] at m3 m4
 omega
theorem OpOk.pg {d : Dk} {s : Su} {m k : Nat} {mcs dcs : List Nat} (h : OpOk d s m k mcs dcs) (i : Nat) : s.pages.getD i 0 < m := by
 have hm := h.mLe
 by_cases hi : i < s.pages.length
 ·have h1 := h.may.2.2.2.2.2.2.2.2 (s.pages.getD i 0) (by
   rw [List.getD_eq_getElem?_getD, List.getElem?_eq_getElem hi, Option.getD_some]
   exact List.mem_append_left _ (List.getElem_mem hi))
  rw [h.sm] at h1
  omega
 ·rw [List.getD_eq_getElem?_getD, List.getElem?_eq_none (by omega)]
  show 0 < m
  omega
theorem OpOk.root {d : Dk} {s : Su} {m k : Nat} {mcs dcs : List Nat} (h : OpOk d s m k mcs dcs) : s.top < m ∧ s.base < m ∧ s.stage < m := by
 have h1 := h.may.2.2.2.2.2.2.2.2
 rw [h.sm] at h1
 have a := h1 s.top (by simp)
 have b := h1 s.base (by simp)
 have c := h1 s.stage (by simp)
 omega
theorem area0 {n : Nat} {cs : List Nat} (hl : cs.length = n) (h1 : 1 ≤ n) (h2 : n ≤ 1000) (hc : ∀ c ∈ cs, c < 65536) : (⟨cs, cs, 0, 0⟩ : M).Ok :=
 ⟨by show 0 < cs.length; omega, by show cs.length ≤ 1000; omega, rfl, by show 0 < cs.length; omega, by show 0 < cs.length; omega, hc, hc⟩
set_option maxRecDepth 100000 in
set_option maxHeartbeats 12800000 in
theorem sopen_at (n0 : Nat) (w : World) (B : Nat) (iv jv : Value) (d : Dk) (h : DkAt n0 w B iv jv d) (s : Su) (m k : Nat) (mcs dcs : List Nat) (hok : OpOk d s m k mcs dcs) (hn : d.img.length ≤ 1000000) (Sf : Nat → Su) (ef : Nat → Int) (ho : ∀ i, i < 2 → OfR (rdB d.img i) (Sf i) (ef i)) (ht : ∀ i, i < 2 → (Sf i).tx < 18446744073709551616) (hb : bestS Sf ef 2 = s) :
  Calls Tryz.prog 48 #[.pointer (some ⟨B, 0, none⟩)] w fun e w' => ∃ S pm pd mf md Fm Fd, e = .returned (.tuple #[pt S, .int .i64 0]) ∧ w'.heap[S]? = some (.cells (stC B s pm pd mf md false) 176 (0, 0)) ∧ IA w' pm ⟨mcs, mcs, 0, 0⟩ Fm ∧ IA w' pd ⟨dcs, dcs, s.cursor.toNat, s.cursor.toNat⟩ Fd ∧ w'.heap[mf]? = some (.map #[] 0) ∧ w'.heap[md]? = some (.map #[] 0) ∧ mf ≠ md ∧ Below w.heap.size w w' ∧ w.heap.size ≤ S ∧ w.heap.size ≤ mf ∧ w.heap.size ≤ md ∧ (∀ k ∈ Fm, w.heap.size ≤ k) ∧ (∀ k ∈ Fd, w.heap.size ≤ k) ∧ ∀ k ∈ Fd, k ∉ Fm := by
 obtain ⟨m1, m2, k1, k2⟩ := hok.mLe
 have HOK := Lib.hid hok
 have hsec := hok.sec
 have hp6 := hok.p6
 have HDK := Lib.hid h
 have HNN := Lib.hid hn
 have CLD := sload_at n0 w B iv jv d h (by omega) hn Sf ef ho ht (by rw [hb]; have := hok.may.2.2.2.2.1; omega)
 rw [hb, suL_v] at CLD
 obtain ⟨P, hP⟩ : ∃ P, pagesN m + pagesN k = P := ⟨_, rfl⟩
 have CPG : Hid (∀ X, Calls Tryz.prog 90 #[.int .i64 (m : Int), .int .i64 (k : Int)] X fun e w' => e = .returned (.int .i64 (P : Int)) ∧ Below X.heap.size X w') := Lib.hid (fun X => (stpages_any X m k (by omega) (by omega)).mono fun e w' hp => ⟨by rw [← hP]; exact hp.1, by rw [← hp.2]; exact Below.refl _ _⟩)
 have CPG0 : Hid (∀ X, Calls Tryz.prog 90 #[.int .i64 (m : Int), .int .i64 (k : Int)] X fun e w' => e = .returned (.int .i64 (P : Int)) ∧ X = w') := Lib.hid (fun X => (stpages_any X m k (by omega) (by omega)).mono fun e w' hp => ⟨by rw [← hP]; exact hp.1, hp.2⟩)
 have CBL : Hid (∀ X, Calls Tryz.prog 91 #[.int .i64 (m : Int), .int .i64 (k : Int)] X fun e w' => e = .returned (.int .i64 (2 + (m : Int) + (k : Int))) ∧ Below X.heap.size X w') := Lib.hid (fun X => (sblocks_any X m k (by omega) (by omega)).mono fun e w' hp => ⟨hp.1, by rw [← hp.2]; exact Below.refl _ _⟩)
 have CSC0 := dsec_at n0 w B iv jv d h
 have CSC : Hid (∀ X, DkAt n0 X B iv jv d → Calls Tryz.prog 66 #[.pointer (some ⟨B, 0, none⟩)] X fun e w' => e = .returned (.int .i64 (d.img.length : Int)) ∧ Below X.heap.size X w') := Lib.hid (fun X hX => (dsec_at n0 X B iv jv d hX).mono fun e w' hp => ⟨hp.1, by rw [← hp.2]; exact Below.refl _ _⟩)
 have CRP : Hid (∀ X, DkAt n0 X B iv jv d → Calls Tryz.prog 93 #[.pointer (some ⟨B, 0, none⟩), .agg (suL s).toArray] X fun e w' => ∃ pm pd Fm Fd, e = .returned (.tuple #[pt pm, pt pd, .int .i64 0]) ∧ IA w' pm ⟨mcs, mcs, 0, 0⟩ Fm ∧ IA w' pd ⟨dcs, dcs, 0, 0⟩ Fd ∧ Below X.heap.size X w' ∧ (∀ k ∈ Fm, X.heap.size ≤ k) ∧ (∀ k ∈ Fd, X.heap.size ≤ k) ∧ ∀ k ∈ Fd, k ∉ Fm) := Lib.hid (fun X hX => srp_at n0 X B iv jv d hX s m k hok.sm hok.sk (fun i => by have := hok.pg i; omega) mcs dcs hok.ml hok.dl ⟨by omega, by omega⟩ ⟨by omega, by omega⟩ hok.mc hok.dc P hP (by omega) (fun i hi => by have := hok.pg i; omega) hn (fun i hi => hok.good i (by omega)))
 obtain ⟨n, hnn⟩ : ∃ n, d.img.length = n := ⟨_, rfl⟩
 rw [hnn] at CSC CSC0 hsec hn
 rw [hP] at hp6
 have HPE := Lib.hid hP
 have hz : ((n : Int) == 0) = false := by simp; omega
 clear h hok ho ht hb hnn hP
 go_enter Tryz.func48, Tryz.ntmps48
 go_wp2_with fail
 refine CSC0.mono ?_
 rintro e w2 ⟨rfl, rfl⟩
 clear CSC0
 go_wp2_with fail
 refine CLD.mono ?_
 rintro e w2 ⟨rfl, hb2⟩
 dsimp only
 have HB2 := Lib.hid hb2
 obtain ⟨SL, hSL⟩ : ∃ L, suL s = L := ⟨_, rfl⟩
 have HSL := Lib.hid hSL
 have HS19 : Hid (SL.length = 19) := Lib.hid (by rw [← hSL]; rfl)
 have HS1 : Hid (∀ u ∈ SL, u.oneCell' = true) := Lib.hid (by rw [← hSL]; exact suL_one s)
 rw [hSL]
 rw [hSL] at CRP
 have hss : SL.toArray.size = 19 := by rw [List.size_toArray, HS19.out]
 clear CLD hb2 hSL
 repeat (first
  | (refine wpList_store_mid rfl 72 _ _ rfl w2.heap.size 0 SL.toArray rfl rfl (thereOf (heap_alloc_new w2 _) (by rw [hss]; simp)) (by rw [hss]; exact infoSup) (Array.all_eq_true_iff_forall_mem.2 (fun v hv => HS1.out v (by simpa using hv))) ?_; refine Hid.out ?_)
  | go_step)
 refine Lib.hid ?_
 simp only [List.toList_toArray]
 obtain ⟨w3, hw3⟩ : ∃ W, (w2.alloc (.cells #[.int .u64 0, .int .i64 0, .int .i64 0, .int .u32 0, .int .u32 0, .int .u32 0, .int .u32 0, .int .u32 0, .int .u32 0, .int .u32 0, .int .u32 0, .int .u32 0, .int .i64 0, .int .u64 0, .int .u64 0, .int .u64 0, .int .u64 0, .int .u64 0, .bool false] 72)).setCells w2.heap.size 0 SL = W := ⟨_, rfl⟩
 have HB3 : Hid (Below w.heap.size w w3) := Lib.hid (bthn HB2.out (by rw [← hw3]; exact belowSets (Nat.le_refl _) _ _ _ (balloc (Below.refl _ _) _)))
 obtain ⟨xb, hxb⟩ : ∃ x, w2.heap.size = x := ⟨_, rfl⟩
 have HX3 : Hid (w3.heap[xb]? = some (.cells (suL s).toArray 72 (0, 0))) := Lib.hid (by rw [HSL.out, ← hw3, ← hxb]; exact sets_all (heap_alloc_new _ _) (by rw [HS19.out]; rfl))
 rw [hw3, hxb]
 have HXB : Hid (w.heap.size ≤ xb) := Lib.hid (by rw [← hxb]; exact HB2.out.size)
 clear hw3 hxb hss hz
 have hc1 : Hid (w3.cell? ⟨xb, 1, none⟩ = some (.int .i64 (m : Int))) := Lib.hid (cellOf HX3.out 1 (by rw [← HOK.out.sm]; rfl))
 have hc2 : Hid (w3.cell? ⟨xb, 2, none⟩ = some (.int .i64 (k : Int))) := Lib.hid (cellOf HX3.out 2 (by rw [← HOK.out.sk]; rfl))
 have HXL : Hid (xb < w3.heap.size) := Lib.hid (Array.getElem?_eq_some_iff.1 HX3.out).1
 have q1 : decide ((6 : Int) < (P : Int)) = false := decide_eq_false (by omega)
 have q4 : decide ((n : Int) < 4 * (2 + (m : Int) + (k : Int))) = false := decide_eq_false (by omega)
 have hw1 : IntKind.i64.wrap (4 * (2 + (m : Int) + (k : Int))) = 4 * (2 + (m : Int) + (k : Int)) := IntWalk.i64_in _ ⟨by omega, by omega⟩
 go_wp2_with fail
 have HSS : Hid (∀ X, Below w3.heap.size w3 X → (X.cell? ⟨xb, 1, none⟩ = some (.int .i64 (m : Int)) ∧ X.cell? ⟨xb, 2, none⟩ = some (.int .i64 (k : Int))) ∧ Below w3.heap.size w3 X) := Lib.hid (fun X hb => ⟨⟨(World.cell?_of_block (hb.block _ (HXL.out))).trans (hc1.out), (World.cell?_of_block (hb.block _ (HXL.out))).trans (hc2.out)⟩, hb⟩)
 refine wp_region_held_drew (S := fun X => (X.cell? ⟨xb, 1, none⟩ = some (.int .i64 (m : Int)) ∧ X.cell? ⟨xb, 2, none⟩ = some (.int .i64 (k : Int))) ∧ Below w3.heap.size w3 X) (by kernel_rfl) (HSS.out _ (Below.refl _ _).drew) (fun hHeld => ?_)
 have hbe : Below w3.heap.size w3 w3.drew := (Below.refl _ _).drew
 obtain ⟨wd, hwd⟩ : ∃ y, w3.drew = y := ⟨_, rfl⟩
 rw [hwd] at hHeld hbe ⊢
 have HBE := Lib.hid hbe
 have HS0 : Hid (w3.heap.size ≤ wd.heap.size) := Lib.hid HBE.out.size
 clear hwd hbe
 refine wpAnyH_take (i := 0) (v := ?_) rfl (by kernel_rfl) (by kernel_rfl) (by kernel_rfl) (fun _ _ _ h => h) (Or.inl ⟨by rfl, ?_⟩) (by assumption) ?_
 rotate_left
 ·(intro w hSw; (try dsimp only at hSw); simp only [List.getElem_toArray, List.getElem_cons_zero, List.getElem_cons_succ]; go_simp; first | done | with_reducible rfl)
 simp only [List.getElem_toArray, List.getElem_cons_zero, List.getElem_cons_succ, Act.put, List.setIfInBounds_toArray, List.set_cons_zero, List.set_cons_succ]
 refine wpAnyH_take (i := 2) (v := ?_) rfl (by kernel_rfl) (by kernel_rfl) (by kernel_rfl) (fun _ _ _ h => h) (Or.inl ⟨by rfl, ?_⟩) (by assumption) ?_
 rotate_left
 ·(intro w hSw; (try dsimp only at hSw); simp only [List.getElem_toArray, List.getElem_cons_zero, List.getElem_cons_succ]; go_simp; first | done | with_reducible rfl)
 simp only [List.getElem_toArray, List.getElem_cons_zero, List.getElem_cons_succ, Act.put, List.setIfInBounds_toArray, List.set_cons_zero, List.set_cons_succ]
 refine wpAnyH_take (i := 1) (v := ?_) rfl (by kernel_rfl) (by kernel_rfl) (by kernel_rfl) (fun _ _ _ h => h) (Or.inl ⟨by rfl, ?_⟩) (by assumption) ?_
 rotate_left
 ·(intro w hSw; (try dsimp only at hSw); simp only [List.getElem_toArray, List.getElem_cons_zero, List.getElem_cons_succ]; go_simp; first | done | with_reducible rfl)
 simp only [List.getElem_toArray, List.getElem_cons_zero, List.getElem_cons_succ, Act.put, List.setIfInBounds_toArray, List.set_cons_zero, List.set_cons_succ]
 refine wpAnyH_take (i := 3) (v := ?_) rfl (by kernel_rfl) (by kernel_rfl) (by kernel_rfl) (fun _ _ _ h => h) (Or.inl ⟨by rfl, ?_⟩) (by assumption) ?_
 rotate_left
 ·(intro w hSw; (try dsimp only at hSw); simp only [List.getElem_toArray, List.getElem_cons_zero, List.getElem_cons_succ]; go_simp; first | done | with_reducible rfl)
 simp only [List.getElem_toArray, List.getElem_cons_zero, List.getElem_cons_succ, Act.put, List.setIfInBounds_toArray, List.set_cons_zero, List.set_cons_succ]
 refine wpAnyH_ready (rs := [4]) (by kernel_rfl) (by simp) ?_
 refine AllReadyH.cons rfl (fun K hK => ?_) (AllReadyH.nil)
 simp only [List.getElem_toArray, List.getElem_cons_zero, List.getElem_cons_succ]
 go_simp
 refine (CPG.out _).mono ?_
 rintro e y4 ⟨rfl, hb4⟩
 dsimp only
 have HBE := Lib.hid (bthen HBE.out hb4)
 have hSp := HSS.out _ HBE.out
 clear hHeld
 refine hK.out _ _ hSp (fun hHeld => ?_)
 clear hSp hK K
 try simp only [Act.put, List.setIfInBounds_toArray, List.set_cons_zero, List.set_cons_succ]
 have HC4 := Lib.hid hb4
 clear hb4
 refine wpAnyH_take (i := 5) (v := ?_) rfl (by kernel_rfl) (by kernel_rfl) (by kernel_rfl) (fun _ _ _ h => h) (Or.inl ⟨by rfl, ?_⟩) (by assumption) ?_
 rotate_left
 ·(intro w hSw; (try dsimp only at hSw); simp only [List.getElem_toArray, List.getElem_cons_zero, List.getElem_cons_succ]; go_simp; first | done | with_reducible rfl)
 simp only [List.getElem_toArray, List.getElem_cons_zero, List.getElem_cons_succ, Act.put, List.setIfInBounds_toArray, List.set_cons_zero, List.set_cons_succ]
 refine wpAnyH_take (i := 6) (v := ?_) rfl (by kernel_rfl) (by kernel_rfl) (by kernel_rfl) (fun _ _ _ h => h) (Or.inl ⟨by rfl, ?_⟩) (by assumption) ?_
 rotate_left
 ·(intro w hSw; (try dsimp only at hSw); simp only [List.getElem_toArray, List.getElem_cons_zero, List.getElem_cons_succ]; go_simp; first | done | with_reducible rfl)
 simp only [List.getElem_toArray, List.getElem_cons_zero, List.getElem_cons_succ, Act.put, List.setIfInBounds_toArray, List.set_cons_zero, List.set_cons_succ]
 refine wpAnyH_take (i := 7) (v := ?_) rfl (by kernel_rfl) (by kernel_rfl) (by kernel_rfl) (fun _ _ _ h => h) (Or.inl ⟨by rfl, ?_⟩) (by assumption) ?_
 rotate_left
 ·(intro w hSw; (try dsimp only at hSw); simp only [List.getElem_toArray, List.getElem_cons_zero, List.getElem_cons_succ]; go_simp; first | done | with_reducible rfl)
 simp only [List.getElem_toArray, List.getElem_cons_zero, List.getElem_cons_succ, Act.put, List.setIfInBounds_toArray, List.set_cons_zero, List.set_cons_succ]
 refine wpAnyH_take (i := 9) (v := ?_) rfl (by kernel_rfl) (by kernel_rfl) (by kernel_rfl) (fun _ _ _ h => h) (Or.inl ⟨by rfl, ?_⟩) (by assumption) ?_
 rotate_left
 ·(intro w hSw; (try dsimp only at hSw); simp only [List.getElem_toArray, List.getElem_cons_zero, List.getElem_cons_succ]; go_simp; first | done | with_reducible rfl)
 simp only [List.getElem_toArray, List.getElem_cons_zero, List.getElem_cons_succ, Act.put, List.setIfInBounds_toArray, List.set_cons_zero, List.set_cons_succ]
 refine wpAnyH_take (i := 11) (v := ?_) rfl (by kernel_rfl) (by kernel_rfl) (by kernel_rfl) (fun _ _ _ h => h) (Or.inl ⟨by rfl, ?_⟩) (by assumption) ?_
 rotate_left
 ·(intro w hSw; (try dsimp only at hSw); simp only [List.getElem_toArray, List.getElem_cons_zero, List.getElem_cons_succ]; go_simp; first | done | with_reducible rfl)
 simp only [List.getElem_toArray, List.getElem_cons_zero, List.getElem_cons_succ, Act.put, List.setIfInBounds_toArray, List.set_cons_zero, List.set_cons_succ]
 refine wpAnyH_take (i := 10) (v := ?_) rfl (by kernel_rfl) (by kernel_rfl) (by kernel_rfl) (fun _ _ _ h => h) (Or.inl ⟨by rfl, ?_⟩) (by assumption) ?_
 rotate_left
 ·(intro w hSw; (try dsimp only at hSw); simp only [List.getElem_toArray, List.getElem_cons_zero, List.getElem_cons_succ]; go_simp; first | done | with_reducible rfl)
 simp only [List.getElem_toArray, List.getElem_cons_zero, List.getElem_cons_succ, Act.put, List.setIfInBounds_toArray, List.set_cons_zero, List.set_cons_succ]
 refine wpAnyH_take (i := 12) (v := ?_) rfl (by kernel_rfl) (by kernel_rfl) (by kernel_rfl) (fun _ _ _ h => h) (Or.inl ⟨by rfl, ?_⟩) (by assumption) ?_
 rotate_left
 ·(intro w hSw; (try dsimp only at hSw); simp only [List.getElem_toArray, List.getElem_cons_zero, List.getElem_cons_succ]; go_simp; first | done | with_reducible rfl)
 simp only [List.getElem_toArray, List.getElem_cons_zero, List.getElem_cons_succ, Act.put, List.setIfInBounds_toArray, List.set_cons_zero, List.set_cons_succ]
 refine wpAnyH_ready (rs := [8]) (by kernel_rfl) (by simp) ?_
 refine AllReadyH.cons rfl (fun K hK => ?_) (AllReadyH.nil)
 simp only [List.getElem_toArray, List.getElem_cons_zero, List.getElem_cons_succ]
 go_simp
 refine (CSC.out _ (HDK.out.below (bthn HB3.out HBE.out))).mono ?_
 rintro e y8 ⟨rfl, hb8⟩
 dsimp only
 have HBE := Lib.hid (bthen HBE.out hb8)
 have hSp := HSS.out _ HBE.out
 clear hHeld
 refine hK.out _ _ hSp (fun hHeld => ?_)
 clear hSp hK K
 try simp only [Act.put, List.setIfInBounds_toArray, List.set_cons_zero, List.set_cons_succ]
 have HC8 := Lib.hid hb8
 clear hb8
 refine wpAnyH_ready (rs := [13]) (by kernel_rfl) (by simp) ?_
 refine AllReadyH.cons rfl (fun K hK => ?_) (AllReadyH.nil)
 simp only [List.getElem_toArray, List.getElem_cons_zero, List.getElem_cons_succ]
 go_simp
 refine (CBL.out _).mono ?_
 rintro e y13 ⟨rfl, hb13⟩
 dsimp only
 have HBE := Lib.hid (bthen HBE.out hb13)
 have hSp := HSS.out _ HBE.out
 clear hHeld
 refine hK.out _ _ hSp (fun hHeld => ?_)
 clear hSp hK K
 try simp only [Act.put, List.setIfInBounds_toArray, List.set_cons_zero, List.set_cons_succ]
 have HC13 := Lib.hid hb13
 clear hb13
 refine wpAnyH_take (i := 14) (v := ?_) rfl (by kernel_rfl) (by kernel_rfl) (by kernel_rfl) (fun _ _ _ h => h) (Or.inl ⟨by rfl, ?_⟩) (by assumption) ?_
 rotate_left
 ·(intro w hSw; (try dsimp only at hSw); simp only [List.getElem_toArray, List.getElem_cons_zero, List.getElem_cons_succ]; go_simp; first | done | with_reducible rfl)
 simp only [List.getElem_toArray, List.getElem_cons_zero, List.getElem_cons_succ, Act.put, List.setIfInBounds_toArray, List.set_cons_zero, List.set_cons_succ]
 refine wpAnyH_take (i := 15) (v := ?_) rfl (by kernel_rfl) (by kernel_rfl) (by kernel_rfl) (fun _ _ _ h => h) (Or.inl ⟨by rfl, ?_⟩) (by assumption) ?_
 rotate_left
 ·(intro w hSw; (try dsimp only at hSw); simp only [List.getElem_toArray, List.getElem_cons_zero, List.getElem_cons_succ]; go_simp; first | done | with_reducible rfl)
 simp only [List.getElem_toArray, List.getElem_cons_zero, List.getElem_cons_succ, Act.put, List.setIfInBounds_toArray, List.set_cons_zero, List.set_cons_succ]
 refine wpAnyH_take (i := 16) (v := ?_) rfl (by kernel_rfl) (by kernel_rfl) (by kernel_rfl) (fun _ _ _ h => h) (Or.inl ⟨by rfl, ?_⟩) (by assumption) ?_
 rotate_left
 ·(intro w hSw; (try dsimp only at hSw); simp only [List.getElem_toArray, List.getElem_cons_zero, List.getElem_cons_succ]; go_simp; first | done | with_reducible rfl)
 simp only [List.getElem_toArray, List.getElem_cons_zero, List.getElem_cons_succ, Act.put, List.setIfInBounds_toArray, List.set_cons_zero, List.set_cons_succ]
 refine wpAnyH_done (by kernel_rfl) ?_ _
 have HEND := Lib.hid hHeld.2
 have HSE := Lib.hid hHeld.1
 clear hHeld
 clear HSS HEND HSE
 have HBW := Lib.hid (bthn HB3.out HBE.out)
 have HXW : Hid (y13.heap[xb]? = some (.cells (suL s).toArray 72 (0, 0))) := Lib.hid ((HBE.out.block _ HXL.out).trans HX3.out)
 have HRX : Hid (y13.rangeAt xb 0 SL) := Lib.hid (by rw [← HSL.out]; exact rangeOf HXW.out)
 have HIS : Hid ((Tryz.prog.info? 72).map (·.size) = some SL.length) := Lib.hid (by rw [HS19.out]; exact infoSup)
 have CR := CRP.out _ (HDK.out.below HBW.out)
 clear q1 q4 hw1
 go_upto_region 8 with fail
 apply wp_region_lit
 repeat (first
  | (refine wpList_load_mid rfl 72 _ rfl xb 0 rfl SL _ HRX.out Tryz.underlying72 rfl HIS.out ?_)
  | go_step)
 refine CR.mono ?_
 rintro e x1 ⟨pm, pd, Fm, Fd, rfl, hm, hd, hb1, hgm, hgd, hdj⟩
 dsimp only
 unfold pt
 have HIM := Lib.hid hm
 have HID := Lib.hid hd
 have HB1 := Lib.hid (bthn HBW.out hb1)
 have HXS : Hid (xb < y13.heap.size) := Lib.hid (Array.getElem?_eq_some_iff.1 HXW.out).1
 have HGM : Hid (∀ k ∈ Fm, y13.heap.size ≤ k) := Lib.hid hgm
 have HGD : Hid (∀ k ∈ Fd, y13.heap.size ≤ k) := Lib.hid hgd
 have HDJ := Lib.hid hdj
 have HX1 : Hid (x1.heap[xb]? = some (.cells (suL s).toArray 72 (0, 0))) := Lib.hid ((hb1.block _ HXS.out).trans HXW.out)
 have HAM : Hid ((⟨mcs, mcs, 0, 0⟩ : M).Ok) := Lib.hid (area0 HOK.out.ml (by omega) (by omega) HOK.out.mc)
 have HAD : Hid ((⟨dcs, dcs, 0, 0⟩ : M).Ok) := Lib.hid (area0 HOK.out.dl (by omega) (by omega) HOK.out.dc)
 have CCN : Hid (∀ i, i < m → Calls Tryz.prog 83 #[.pointer (some ⟨pm, 0, none⟩), .int .i64 (i : Int)] x1 fun e w' => e = .returned (.int .u16 (ctN mcs i : Int)) ∧ x1 = w') := Lib.hid (fun i hi => (count_in HIM.out HAM.out i (by show i < mcs.length; rw [HOK.out.ml]; exact hi)).mono fun e w' hp => ⟨hp.1, hp.2.symm⟩)
 have C0 : Calls Tryz.prog 83 #[.pointer (some ⟨pm, 0, none⟩), .int .i64 0] x1 fun e w' => e = .returned (.int .u16 1) ∧ x1 = w' := by
  have h9 := CCN.out 0 (by omega)
  rw [HOK.out.one0] at h9
  exact h9
 have CP := CPG0.out x1
 have hsl := run_slicePg xb P (by omega)
 have d1 : x1.cell? ⟨xb, 1, none⟩ = some (.int .i64 (m : Int)) := cellOf HX1.out 1 (by rw [← HOK.out.sm]; rfl)
 have d2 : x1.cell? ⟨xb, 2, none⟩ = some (.int .i64 (k : Int)) := cellOf HX1.out 2 (by rw [← HOK.out.sk]; rfl)
 clear CR hm hd hb1 hgm hgd hdj
 go_wp2_with fail
 refine C0.mono ?_
 rintro e x2 ⟨rfl, rfl⟩
 clear C0
 go_wp2_with fail
 refine CP.mono ?_
 rintro e x3 ⟨rfl, rfl⟩
 clear CP
 go_wp2_with fail
 clear hsl d1 d2
 go_loopw [61] (fun v wr => ∃ i : Nat, i ≤ P ∧ v = .int .i64 (i : Int) ∧ x1 = wr) (fun v _ => P - (Go.RowKit.intOf v).toNat)
 case atStart => exact ⟨0, by omega, rfl, rfl⟩
 case round =>
  obtain ⟨i, hi, rfl, rfl⟩ := hrel
  by_cases hlt : i < P
  ·have hi6 : (i : Int) < 6 := by omega
   have hpg := HOK.out.pg i
   have hc := cellOf HX1.out (3 + i) (v := .int .u32 ((s.pages.getD i 0 : Nat) : Int)) (by rw [List.getElem?_toArray]; exact suL_pg s (by omega))
   have CN := CCN.out _ hpg
   rw [HOK.out.one i (by rw [HPE.out]; exact hlt)] at CN
   obtain ⟨pn, hpn⟩ : ∃ x, s.pages.getD i 0 = x := ⟨_, rfl⟩
   rw [hpn] at hc CN hpg
   have hwr1 : IntKind.i64.wrap (pn : Int) = (pn : Int) := IntWalk.i64_in _ ⟨by omega, by omega⟩
   clear hpn
   go_wp2_with fail
   refine CN.mono ?_
   rintro e x3 ⟨rfl, rfl⟩
   clear CN
   go_wp2_with fail
   go_roundw
   case rel => exact ⟨i + 1, by omega, by go_num, trivial⟩
   case measure => simp [Go.RowKit.intOf]; omega
  ·obtain rfl : i = P := by omega
   have d9 := cellOf HX1.out 9 (v := .int .u32 (s.top : Int)) rfl
   have d10 := cellOf HX1.out 10 (v := .int .u32 (s.base : Int)) rfl
   have d11 := cellOf HX1.out 11 (v := .int .u32 (s.stage : Int)) rfl
   obtain ⟨r1, r2, r3⟩ := HOK.out.root
   have CT1 := CCN.out _ r1
   have CT2 := CCN.out _ r2
   have CT3 := CCN.out _ r3
   have z1 : (((ctN mcs s.top : Nat) : Int) == 0) = false := by have := HOK.out.top; simp; omega
   have z2 : (((ctN mcs s.base : Nat) : Int) == 0) = false := by have := HOK.out.base; simp; omega
   have z3 : (((ctN mcs s.stage : Nat) : Int) == 0) = false := by have := HOK.out.stage; simp; omega
   obtain ⟨n1, hn1⟩ : ∃ x, s.top = x := ⟨_, rfl⟩
   obtain ⟨n2, hn2⟩ : ∃ x, s.base = x := ⟨_, rfl⟩
   obtain ⟨n3, hn3⟩ : ∃ x, s.stage = x := ⟨_, rfl⟩
   rw [hn1] at d9 r1 CT1 z1
   rw [hn2] at d10 r2 CT2 z2
   rw [hn3] at d11 r3 CT3 z3
   have w1 : IntKind.i64.wrap (n1 : Int) = (n1 : Int) := IntWalk.i64_in _ ⟨by omega, by omega⟩
   have w2 : IntKind.i64.wrap (n2 : Int) = (n2 : Int) := IntWalk.i64_in _ ⟨by omega, by omega⟩
   have w3 : IntKind.i64.wrap (n3 : Int) = (n3 : Int) := IntWalk.i64_in _ ⟨by omega, by omega⟩
   have HCT := Lib.hid (And.intro CT1 (And.intro CT2 CT3))
   have HZZ := Lib.hid (And.intro z1 (And.intro z2 z3))
   clear hn1 hn2 hn3 CT1 CT2 CT3 z1 z2 z3
   go_wp2_with fail
   clear d9 d10 d11
   go_loopw [78] (fun v wr => ∃ i : Nat, i ≤ 3 ∧ v = .int .i64 (i : Int) ∧ x1 = wr) (fun v _ => 3 - (Go.RowKit.intOf v).toNat)
   case atStart => exact ⟨0, by omega, rfl, rfl⟩
   case round =>
    obtain ⟨j, hj, rfl, rfl⟩ := hrel
    rcases (show j = 0 ∨ j = 1 ∨ j = 2 ∨ j = 3 by omega) with rfl | rfl | rfl | rfl
    ·have CT := HCT.out.1
     have hix : ∀ W, (Instr.index 192 (.agg #[.int .u32 (n1 : Int), .int .u32 (n2 : Int), .int .u32 (n3 : Int)]) (.int .i64 0)).run Tryz.prog W = .ok (.int .u32 (n1 : Int)) W := fun W => by kernel_rfl
     have z := HZZ.out.1
     go_wp2_with fail
     refine CT.mono ?_
     rintro e x3 ⟨rfl, rfl⟩
     clear CT
     go_wp2_with fail
     go_roundw
     case rel => exact ⟨1, by omega, by go_num, trivial⟩
     case measure => simp [Go.RowKit.intOf]
    ·have CT := HCT.out.2.1
     have hix : ∀ W, (Instr.index 192 (.agg #[.int .u32 (n1 : Int), .int .u32 (n2 : Int), .int .u32 (n3 : Int)]) (.int .i64 1)).run Tryz.prog W = .ok (.int .u32 (n2 : Int)) W := fun W => by kernel_rfl
     have z := HZZ.out.2.1
     go_wp2_with fail
     refine CT.mono ?_
     rintro e x3 ⟨rfl, rfl⟩
     clear CT
     go_wp2_with fail
     go_roundw
     case rel => exact ⟨2, by omega, by go_num, trivial⟩
     case measure => simp [Go.RowKit.intOf]
    ·have CT := HCT.out.2.2
     have hix : ∀ W, (Instr.index 192 (.agg #[.int .u32 (n1 : Int), .int .u32 (n2 : Int), .int .u32 (n3 : Int)]) (.int .i64 2)).run Tryz.prog W = .ok (.int .u32 (n3 : Int)) W := fun W => by kernel_rfl
     have z := HZZ.out.2.2
     go_wp2_with fail
     refine CT.mono ?_
     rintro e x3 ⟨rfl, rfl⟩
     clear CT
     go_wp2_with fail
     go_roundw
     case rel => exact ⟨3, by omega, by go_num, trivial⟩
     case measure => simp [Go.RowKit.intOf]
    ·obtain ⟨cn, hcn⟩ : ∃ x, s.cursor.toNat = x := ⟨_, rfl⟩
     have hcu : s.cursor = (cn : Int) := by have := HOK.out.may.2.2.2.2.2.2.1; omega
     have d12 : x1.cell? ⟨xb, 12, none⟩ = some (.int .i64 (cn : Int)) := cellOf HX1.out 12 (by rw [← hcu]; rfl)
     have CSE := set_in HID.out HAD.out cn (by show cn < dcs.length; rw [HOK.out.dl, ← hcn]; exact HOK.out.cur)
     unfold pt at CSE
     have HCN := Lib.hid (And.intro hcn hcu)
     clear hcn hcu
     go_wp2_with fail
     refine CSE.mono ?_
     rintro e x4 ⟨rfl, hid4, hl4⟩
     have HID4 : Hid (IA x4 pd ⟨dcs, dcs, cn, cn⟩ Fd) := Lib.hid hid4
     have HIM4 := Lib.hid (HIM.out.same (fun j hj => hl4.1.block j (HIM.out.lt j hj) (fun hh => HDJ.out j hh hj)))
     have HX4 : Hid (x4.heap[xb]? = some (.cells (suL s).toArray 72 (0, 0))) := Lib.hid ((hl4.1.block _ (Array.getElem?_eq_some_iff.1 HX1.out).1 (fun hh => by have := HGD.out _ hh; have := HXS.out; omega)).trans HX1.out)
     have HB4 : Hid (Below w.heap.size w x4) := Lib.hid (HB1.out.trans (hl4.1.below (fun j hj => Nat.le_trans HBW.out.size (HGD.out j hj)) HB1.out.size))
     have HRX4 : Hid (x4.rangeAt xb 0 SL) := Lib.hid (by rw [← HSL.out]; exact rangeOf HX4.out)
     clear CSE hid4 hl4 d12
     have hmm := @run_makeMap Tryz.prog
     obtain ⟨mf, hmf⟩ : ∃ x, x4.heap.size = x := ⟨_, rfl⟩
     obtain ⟨x5, hx5⟩ : ∃ W, x4.alloc (.map #[] 0) = W := ⟨_, rfl⟩
     have hb5 : Below x4.heap.size x4 x5 := by rw [← hx5]; exact balloc (Below.refl _ _) _
     have hh5 : x5.heap[mf]? = some (.map #[] 0) := by rw [← hx5, ← hmf]; exact heap_alloc_new _ _
     obtain ⟨md, hmd⟩ : ∃ x, x5.heap.size = x := ⟨_, rfl⟩
     obtain ⟨x6, hx6⟩ : ∃ W, x5.alloc (.map #[] 0) = W := ⟨_, rfl⟩
     have hb6 : Below x5.heap.size x5 x6 := by rw [← hx6]; exact balloc (Below.refl _ _) _
     have hh6 : x6.heap[md]? = some (.map #[] 0) := by rw [← hx6, ← hmd]; exact heap_alloc_new _ _
     have hh56 : x6.heap[mf]? = some (.map #[] 0) := (hb6.block _ (Array.getElem?_eq_some_iff.1 hh5).1).trans hh5
     have hb7 : Below x6.heap.size x6 (x6.alloc (.cells (stC B s pm pd mf md false) 176)) := balloc (Below.refl _ _) _
     have HB6 := Lib.hid (bthn hb5 hb6)
     have HFIN : Hid ((x6.alloc (.cells (stC B s pm pd mf md false) 176)).heap[mf]? = some (.map #[] 0) ∧ (x6.alloc (.cells (stC B s pm pd mf md false) 176)).heap[md]? = some (.map #[] 0) ∧ mf ≠ md ∧ x4.heap.size ≤ mf ∧ x4.heap.size ≤ md) := Lib.hid ⟨(hb7.block _ (Array.getElem?_eq_some_iff.1 hh56).1).trans hh56, (hb7.block _ (Array.getElem?_eq_some_iff.1 hh6).1).trans hh6, by have := (Array.getElem?_eq_some_iff.1 hh5).1; omega, by omega, by have := hb5.size; omega⟩
     have HBU := Lib.hid (sto_built B s pm pd mf md)
     rw [HSL.out] at HBU
     unfold pt at HBU
     obtain ⟨CS, hCS⟩ : ∃ x, stC B s pm pd mf md false = x := ⟨_, rfl⟩
     rw [hCS] at HBU
     have HCS := Lib.hid hCS
     clear hb5 hb6 hh5 hh6 hh56 hb7 hCS
     go_upto_region 26 with fail
     apply wp_region_lit
     repeat (first
      | (refine wpL_build (by kernel_rfl) 176 _ rfl #[(0, .pointer (some ⟨B, 0, none⟩)), (1, .agg SL.toArray), (2, .pointer (some ⟨pm, 0, none⟩)), (3, .pointer (some ⟨pd, 0, none⟩)), (4, .map (some mf)), (5, .map (some md))] (by simp only [List.map_toArray, List.map_cons, List.map_nil]; rfl) CS HBU.out ?_; refine Hid.out ?_)
      | (refine wpList_load_mid rfl 72 _ rfl xb 0 rfl SL _ HRX4.out Tryz.underlying72 rfl HIS.out ?_)
      | go_step)
     refine Lib.hid ?_
     repeat go_step
     go_ret2
     rw [← HCS.out]
     have hb7 : Below x6.heap.size x6 (x6.alloc (.cells (stC B s pm pd mf md false) 176)) := balloc (Below.refl _ _) _
     obtain ⟨f1, f2, f3, f4, f5⟩ := HFIN.out
     have hbf := bthn HB6.out hb7
     refine ⟨x6.heap.size, pm, pd, mf, md, Fm, Fd, rfl, heap_alloc_new _ _, HIM4.out.same (fun j hj => hbf.block j (HIM4.out.lt j hj)), ?_, f1, f2, f3, bthn HB4.out hbf, ?_, ?_, ?_, ?_, ?_, HDJ.out⟩
     ·rw [HCN.out.1]
      exact HID4.out.same (fun j hj => hbf.block j (HID4.out.lt j hj))
     ·have := HB4.out.size; have := HB6.out.size; omega
     ·have := HB4.out.size; omega
     ·have := HB4.out.size; omega
     ·exact fun j hj => Nat.le_trans HBW.out.size (HGM.out j hj)
     ·exact fun j hj => Nat.le_trans HBW.out.size (HGD.out j hj)
end Go.Proofs.YtgmahhdnjikdjaaGreat
/- A formatted disk, plainly: what stands in its blocks; what Open asks of it. -/
namespace Go.Proofs.YtgmahhdnjikdjaaGreat
open Go.RowKit Wire
set_option linter.unusedVariables false
set_option linter.unusedSimpArgs false
theorem rd_wpN_at (d : Dk) (pg mcs dcs : List Nat) {P : Nat} (hfit : ∀ i, i < P → (2 + pg.getD i 0) * 4 + 4 ≤ d.img.length) (hne : ∀ a b, a < b → b < P → pg.getD a 0 ≠ pg.getD b 0) : ∀ i, i ≤ P → ∀ a, a < i → rdB (d.wpN pg mcs dcs i).img (2 + pg.getD a 0) = wpB pg mcs dcs a
 | 0, _, a, ha => by omega
 | i + 1, hi, a, ha => by
  have hl := (d.wpN_at pg mcs dcs i).1
  show rdB ((d.wpN pg mcs dcs i).wrK _ _).img _ = _
  rw [Dk.wrK_img]
  by_cases h : a = i
  ·subst h
   exact rd_wr (wpB_len _ _ _ _) (by rw [hl]; exact hfit a (by omega))
  ·rw [rd_wr_other (by rw [hl]; exact hfit a (by omega)) (by have := hne a i (by omega) (by omega); omega)]
   exact rd_wpN_at d pg mcs dcs hfit hne i (by omega) a (by omega)
theorem fmt_img (d : Dk) (m k : Nat) : (d.fmt m k).img = wrB (wrB (d.wpN (pgK (pagesN m + pagesN k)) (ctK m (pagesN m + pagesN k)) (List.replicate k 0) (pagesN m + pagesN k)).img 0 (zeros 256)) 1 (suF m k (pagesN m + pagesN k)).bytes := by
 show ((Dk.wrK _ 0 (zeros 256)).wrK 1 _).img = _
 rw [Dk.wrK_img, Dk.wrK_img]
 rfl
theorem fmt_len (d : Dk) (m k : Nat) : (d.fmt m k).img.length = d.img.length := by
 rw [fmt_img, wrB_len, wrB_len, (d.wpN_at _ _ _ _).1]
theorem ctN_ctK {m P i : Nat} (hi : i ≤ P) : ctN (ctK m P) i = 1 := by
 unfold ctN ctK
 rw [List.getD_eq_getElem?_getD, List.getElem?_append_left (by simp; omega), List.getElem?_replicate, if_pos (by omega)]
 rfl
/-- What a pool needs. -/
structure MkOk (n m k : Nat) : Prop where
 m1 : 16 ≤ m
 m2 : m ≤ 240
 k1 : 1 ≤ k
 k2 : k ≤ 480
 p6 : pagesN m + pagesN k ≤ 6
 sec : 4 * (2 + m + k) ≤ n
def slotF (m k : Nat) (i : Nat) : Su := if i = 0 then suO else suF m k (pagesN m + pagesN k)
def slotE (i : Nat) : Int := if i = 0 then 4 else 0
theorem zeros_len (k : Nat) : (zeros k).length = k := List.length_replicate
theorem zeros_dk0 (n j : Nat) (hj : j * 4 + 4 ≤ n) : rdB (dk0 n).img j = zeros 256 := by
 have h : ∀ i, i < 4 → (dk0 n).img.getD (j * 4 + i) [] = zeros 64 := fun i hi => by
  show (List.replicate n (zeros 64)).getD _ _ = _
  rw [List.getD_eq_getElem?_getD, List.getElem?_replicate, if_pos (by omega)]
  rfl
 unfold rdB
 simp only [show List.range 4 = [0, 1, 2, 3] from rfl, List.flatMap_cons, List.flatMap_nil, h 0 (by omega), h 1 (by omega), h 2 (by omega), h 3 (by omega)]
 unfold zeros
 rw [List.append_nil, List.replicate_append_replicate, List.replicate_append_replicate, List.replicate_append_replicate]
section
variable {d : Dk} {n m k : Nat} (hn : d.img.length = n) (ok : MkOk n m k)
include hn ok
theorem fmt_slot0 : rdB (d.fmt m k).img 0 = zeros 256 := by
 have hs := ok.sec
 rw [fmt_img, rd_wr_other (by rw [wrB_len, (d.wpN_at _ _ _ _).1, hn]; omega) (by omega), rd_wr (zeros_len 256) (by rw [(d.wpN_at _ _ _ _).1, hn]; omega)]
theorem fmt_slot1 : rdB (d.fmt m k).img 1 = (suF m k (pagesN m + pagesN k)).bytes := by
 have hs := ok.sec
 rw [fmt_img, rd_wr (Su.bytes_len (pgK_len ok.p6)) (by rw [wrB_len, (d.wpN_at _ _ _ _).1, hn]; omega)]
theorem fmt_page {i : Nat} (hi : i < pagesN m + pagesN k) : rdB (d.fmt m k).img (2 + (pgK (pagesN m + pagesN k)).getD i 0) = wpB (pgK (pagesN m + pagesN k)) (ctK m (pagesN m + pagesN k)) (List.replicate k 0) i := by
 have hs := ok.sec
 have h6 := ok.p6
 have hm := ok.m1
 have hg := pgK_get h6 hi
 have hl := (d.wpN_at (pgK (pagesN m + pagesN k)) (ctK m (pagesN m + pagesN k)) (List.replicate k 0) (pagesN m + pagesN k)).1
 rw [fmt_img, rd_wr_other (by rw [wrB_len, hl, hn, hg]; omega) (by omega), rd_wr_other (by rw [hl, hn, hg]; omega) (by omega)]
 exact rd_wpN_at d _ _ _ (fun a ha => by rw [pgK_get h6 ha, hn]; omega) (fun a b hab hb => by rw [pgK_get h6 hb, pgK_get h6 (by omega)]; omega) _ (Nat.le_refl _) i hi
theorem fmt_ok : OpOk (d.fmt m k) (suF m k (pagesN m + pagesN k)) m k (ctK m (pagesN m + pagesN k)) (List.replicate k 0) := by
 have h6 := ok.p6
 have hm := ok.m1
 refine ⟨suF_wf m k h6, suF_may ok.m1 ok.m2 ok.k1 ok.k2 h6 (by omega), rfl, rfl, ctK_len (by omega), List.length_replicate, ctK_lt _ _, fun c hc => by rw [List.eq_of_mem_replicate hc]; omega, h6, by rw [fmt_len, hn]; exact ok.sec, ok.k1, fun i hi => fmt_page hn ok hi, ctN_ctK (by omega), fun i hi => ctN_ctK (by show (pgK _).getD i 0 ≤ _; rw [pgK_get h6 hi]; omega), ?_, ?_, ?_⟩
 all_goals (show ctN (ctK m _) 0 ≠ 0; rw [ctN_ctK (by omega)]; decide)
theorem fmt_slots : ∀ i, i < 2 → OfR (rdB (d.fmt m k).img i) (slotF m k i) (slotE i) := fun i hi => by
 have h6 := ok.p6
 have hm := ok.m1
 rcases (show i = 0 ∨ i = 1 by omega) with rfl | rfl
 ·rw [fmt_slot0 hn ok]
  exact ofr_zero
 ·rw [fmt_slot1 hn ok]
  exact ofr_su _ (suF_wf m k h6) (suF_may ok.m1 ok.m2 ok.k1 ok.k2 h6 (by omega))
end
theorem slot_tx (m k : Nat) : ∀ i, i < 2 → (slotF m k i).tx < 18446744073709551616 := fun i hi => by
 rcases (show i = 0 ∨ i = 1 by omega) with rfl | rfl
 ·show (0 : Nat) < _; decide
 ·show (1 : Nat) < _; decide
theorem slot_best (m k : Nat) : bestS (slotF m k) slotE 2 = suF m k (pagesN m + pagesN k) := by
 show stepS (stepS suO 0 suO 4) 1 (suF m k _) 0 = _
 have e : stepS suO 0 suO 4 = suO := by unfold stepS; rw [if_neg (by decide)]
 rw [e]
 unfold stepS
 rw [if_pos ⟨rfl, rfl, by show (0 : Nat) < 1; decide⟩]
/-- A store in memory (its disk aside). -/
structure StB (w : World) (S B pm pd mf md : Nat) (s : Su) (A D : M) (Fm Fd : List Nat) (bk : Bool) : Prop where
 box : w.heap[S]? = some (.cells (stC B s pm pd mf md bk) 176 (0, 0))
 ma : IA w pm A Fm
 da : IA w pd D Fd
 mok : A.Ok
 dok : D.Ok
 ml : (A.now.length : Int) = s.mt
 dl : (D.now.length : Int) = s.data
 wf : s.Wf
theorem StB.below {w w' : World} {S B pm pd mf md : Nat} {s : Su} {A D : M} {Fm Fd : List Nat} {bk : Bool} (h : StB w S B pm pd mf md s A D Fm Fd bk) (hb : Below w.heap.size w w') : StB w' S B pm pd mf md s A D Fm Fd bk :=
 ⟨(hb.block _ (Array.getElem?_eq_some_iff.1 h.box).1).trans h.box, h.ma.same (fun j hj => hb.block j (h.ma.lt j hj)), h.da.same (fun j hj => hb.block j (h.da.lt j hj)), h.mok, h.dok, h.ml, h.dl, h.wf⟩
end Go.Proofs.YtgmahhdnjikdjaaGreat
/- The law's disk, formatted; Room; the law's known of layer 8, walked. -/
namespace Go.Proofs.YtgmahhdnjikdjaaGreat
open Go.RowKit Wire
set_option linter.unusedVariables false
set_option linter.unusedSimpArgs false
theorem mkOfc (n m k : Nat) (ok : MkOk n m k) : OfC (rdB (dk0 n).img 1) (suL suO) 4 := by
 have hs := ok.sec
 rw [zeros_dk0 n 1 (by omega)]
 exact ofr_ofc ofr_zero (.inr ⟨rfl, rfl⟩)
theorem dk0_len (n : Nat) : (dk0 n).img.length = n := List.length_replicate
/-- A disk that was formatted. -/
def MadeP (w : World) (n m k : Nat) (B : Nat) (w' : World) : Prop := (∃ iv, DkAt w.heap.size w' B iv (.slice none 0 0) ((dk0 n).fmt m k)) ∧ Below w.heap.size w w'
theorem fmt_call (w w1 : World) (n m k B : Nat) (iv : Value) (ok : MkOk n m k) (hn : n ≤ 8192) (h : DkAt w.heap.size w1 B iv (.slice none 0 0) (dk0 n)) (hb : Below w.heap.size w w1) : Calls Tryz.prog 47 #[.pointer (some ⟨B, 0, none⟩), .int .i64 (m : Int), .int .i64 (k : Int)] w1 fun e w' => e = .returned (.int .i64 0) ∧ MadeP w n m k B w' :=
 (sfmt_at w.heap.size w1 B iv _ (dk0 n) h hb.size (by show (-1 : Int) < 0; decide) rfl m k ok.m1 ok.m2 ok.k1 ok.k2 ok.p6 (by rw [dk0_len]; exact ok.sec) (by rw [dk0_len]; omega) (by show (0 : Nat) ≤ _; omega) (suL suO) 4 (mkOfc n m k ok)).mono fun e w' hp => ⟨hp.1, ⟨iv, hp.2.1⟩, hb.trans (hp.2.2.below (fun j hj => (h.inF j hj).1) hb.size)⟩
/-- What Open answers of such a disk. -/
def OpenP (w w1 : World) (B m k : Nat) (e : Ending) (w' : World) : Prop := ∃ S pm pd mf md Fm Fd, e = .returned (.tuple #[pt S, .int .i64 0]) ∧ StB w' S B pm pd mf md (suF m k (pagesN m + pagesN k)) ⟨ctK m (pagesN m + pagesN k), ctK m (pagesN m + pagesN k), 0, 0⟩ ⟨List.replicate k 0, List.replicate k 0, 0, 0⟩ Fm Fd false ∧ w'.heap[mf]? = some (.map #[] 0) ∧ w'.heap[md]? = some (.map #[] 0) ∧ mf ≠ md ∧ Below w1.heap.size w1 w' ∧ w1.heap.size ≤ S ∧ w1.heap.size ≤ mf ∧ w1.heap.size ≤ md ∧ (∀ k ∈ Fm, w1.heap.size ≤ k) ∧ (∀ k ∈ Fd, w1.heap.size ≤ k) ∧ ∀ k ∈ Fd, k ∉ Fm
theorem open_call (w w1 : World) (n m k B : Nat) (ok : MkOk n m k) (hn : n ≤ 8192) (h : MadeP w n m k B w1) : Calls Tryz.prog 48 #[.pointer (some ⟨B, 0, none⟩)] w1 (OpenP w w1 B m k) := by
 obtain ⟨⟨iv, hd⟩, hb⟩ := h
 have hl : ((dk0 n).fmt m k).img.length = n := by rw [fmt_len, dk0_len]
 have hok := fmt_ok (dk0_len n) ok
 have h6 := ok.p6
 have m1 := ok.m1
 refine (sopen_at w.heap.size w1 B iv _ _ hd _ m k _ _ hok (by omega) (slotF m k) slotE (fmt_slots (dk0_len n) ok) (slot_tx m k) (slot_best m k)).mono ?_
 rintro e w' ⟨S, pm, pd, mf, md, Fm, Fd, he, h1, h2, h3, h4, h5, h7, h8, h9, h10, h11, h12, h13, h14⟩
 refine ⟨S, pm, pd, mf, md, Fm, Fd, he, ⟨h1, h2, h3, area0 hok.ml (by omega) (by have := ok.m2; omega) hok.mc, area0 hok.dl ok.k1 (by have := ok.k2; omega) hok.dc, ?_, ?_, suF_wf m k h6⟩, h4, h5, h7, h8, h9, h10, h11, h12, h13, h14⟩
 ·show ((ctK m _).length : Int) = (m : Int)
  rw [ctK_len (by omega)]
 ·show ((List.replicate k 0).length : Int) = (k : Int)
  rw [List.length_replicate]
end Go.Proofs.YtgmahhdnjikdjaaGreat
