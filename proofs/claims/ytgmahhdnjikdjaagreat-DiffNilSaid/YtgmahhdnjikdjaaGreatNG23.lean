import Derived.Test.YtgmahhdnjikdjaaGreatNG22
set_option linter.unusedVariables false
set_option linter.unusedSimpArgs false
/- diff.Of of two leaves, where the old one's keys begin the new one's, walked. -/
namespace Go.Proofs.YtgmahhdnjikdjaaGreat
open Go.RowKit Go.Maps Wire
set_option linter.unusedVariables false
set_option linter.unusedSimpArgs false
/-- A change: key, old, new value, had, has. -/
structure Chg3 where
 k : Nat
 o : Nat
 n : Nat
 h : Bool
 s : Bool
def cgV (c : Chg3) : List Value := [.int .u64 (c.k : Int), .int .u64 (c.o : Int), .int .u64 (c.n : Int), .bool c.h, .bool c.s]
def cgsV (l : List Chg3) : List Value := l.flatMap cgV
theorem cgsV_app (a b : List Chg3) : cgsV (a ++ b) = cgsV a ++ cgsV b := by simp [cgsV, List.flatMap_append]
theorem cgsV_one (l : List Chg3) : ∀ u ∈ cgsV l, u.oneCell' = true := fun u hu => by
 unfold cgsV at hu
 rw [List.mem_flatMap] at hu
 obtain ⟨p, _, hp⟩ := hu
 simp only [cgV, List.mem_cons, List.mem_nil_iff, or_false] at hp
 rcases hp with rfl | rfl | rfl | rfl | rfl <;> rfl
def zcg : Value := .agg #[.int .u64 0, .int .u64 0, .int .u64 0, .bool false, .bool false]
theorem infoCg : (Tryz.prog.info? 107).map (fun i => (i.zero, i.size, i.bytes)) = some (some zcg, 5, 32) := by kernel_rfl
theorem infoCg2 : (Tryz.prog.info? 107).map (fun i => (i.zero, i.size)) = some (some zcg, 5) := by kernel_rfl
theorem cg_one {X : World} {b : Nat} {c : Chg3} (hx : X.heap[b]? = some (.cells (cgV c).toArray 107 (0, 0))) : Rd X 5 (.slice (some ⟨b, 0, none⟩) 1 1) 1 (cgsV [c]) := by
 refine ⟨_, _, rfl, rfl, by decide, ⟨fun h => by (cases h), by decide, by decide⟩, fun j u hu => ?_⟩
 refine ⟨b, 0, rfl, (Array.getElem?_eq_some_iff.1 hx).1, ?_⟩
 have hu' : (cgV c)[j]? = some u := by
  have e : cgsV [c] = cgV c := by simp [cgsV]
  rw [← e]; exact hu
 exact (congrArg _ (by rw [Nat.zero_add])).trans (cellOf hx j (by simpa using hu'))
theorem run_cutT2 {P : Program} (w : World) (t : TypeId) (ao : Option Addr) (n cap size : Nat) (ht : P.underlying t = some (.slice (P.elem t))) (hs : ∀ w, (sizeOf (P.elem t)).run P w = .ok size w) (h1 : 1 ≤ n) :
  (Instr.slice t (.slice ao n cap) (some (.int .i64 1)) none none).run P w = .ok (.slice (cutA ao cap 1 size) (n - 1) (cap - 1)) w := by
 rw [run_slice_l w t ao n cap ht .i64 1 (by omega) (by omega), hs]
 rfl
theorem szPairs (w : World) : (sizeOf (Tryz.prog.elem 59)).run Tryz.prog w = .ok 2 w := by kernel_rfl
theorem undPairs : Tryz.prog.underlying 59 = some (.slice (Tryz.prog.elem 59)) := by kernel_rfl
theorem rd_tail {w : World} {ao : Option Addr} {n c : Nat} {p : Nat × Nat} {l : List (Nat × Nat)} (h : Rd w 2 (.slice ao n c) n (pV (p :: l))) : Rd w 2 (.slice (cutA ao c 1 2) (n - 1) (c - 1)) (n - 1) (pV l) := by
 have hl := rd_plen h
 rw [List.length_cons] at hl
 have h1 := h.cut (l := 1) (k := n) (by omega) (Nat.le_refl _)
 rw [show ((pV (p :: l)).drop (1 * 2)).take ((n - 1) * 2) = pV l from by
  rw [pV_cons]
  show (pV l).take ((n - 1) * 2) = pV l
  exact List.take_of_length_le (by rw [pV_len]; omega)] at h1
 exact h1
theorem mods_own {w w' : World} {v : Value} (h : w.grownBy w' v.ownBlock) : Mods (ob v) w w' := ⟨h.os, h.tape, h.output, h.size, fun i hi hne => h.block i hi (fun e => hne (by unfold ob; first | (rw [e]; simp; done) | (rw [← e]; simp; done)))⟩
/-- The old keys begin the new ones. -/
def okD : List (Nat × Nat) → List (Nat × Nat) → Prop
 | [], _ => True
 | p :: l, q :: r => p.1 = q.1 ∧ okD l r
 | _ :: _, [] => False
/-- Their difference. -/
def dZ : List (Nat × Nat) → List (Nat × Nat) → List Chg3
 | [], r => r.map fun q => ⟨q.1, 0, q.2, false, true⟩
 | p :: l, q :: r => (if p.2 = q.2 then [] else [⟨p.1, p.2, q.2, true, true⟩]) ++ dZ l r
 | _ :: _, [] => []
def slLen : Value → Nat
 | .slice _ n _ => n
 | _ => 0
/-- In the midst of the merge. -/
def MrgS (wb : World) (total : List Chg3) (o vl vr : Value) (wr : World) : Prop := ∃ (l' r' : List (Nat × Nat)) (done : List Chg3), okD l' r' ∧ done ++ dZ l' r' = total ∧ done.length + r'.length ≤ 1000 ∧ (∃ al nl cl, vl = .slice al nl cl ∧ Rd wb 2 (.slice al nl cl) nl (pV l')) ∧ (∃ ar nr cr, vr = .slice ar nr cr ∧ Rd wb 2 (.slice ar nr cr) nr (pV r')) ∧ wr.ownsRow wb.heap.size 107 5 o done.length (cgsV done) ∧ Below wb.heap.size wb wr
/-- What Of tells. -/
def OfP (total : List Chg3) (w : World) (e : Ending) (w' : World) : Prop := ∃ v base, e = .returned (.tuple #[v, .int .i64 0]) ∧ w'.ownsRow base 107 5 v total.length (cgsV total) ∧ w.heap.size ≤ base ∧ Below w.heap.size w w'
set_option maxRecDepth 100000 in
set_option maxHeartbeats 25600000 in
theorem dof_leaf {w : World} (s : Option Addr) (ra rb : Int) (na nb : List Nat) (l r : List (Nat × Nat)) (hok : okD l r) (hlr : r.length ≤ 1000)
  (hA : Calls Tryz.prog 50 #[.pointer s, .int .u32 ra, .int .u32 rb] w (BothP na nb 0 w))
  (hB : ∀ X m, Below w.heap.size w X → IsM X m (mkS nb) → Calls Tryz.prog 51 #[.pointer s, .int .u32 ra, .map (some m)] X (PairsP l X))
  (hC : ∀ X m, Below w.heap.size w X → IsM X m (mkS na) → Calls Tryz.prog 51 #[.pointer s, .int .u32 rb, .map (some m)] X (PairsP r X)) :
  Calls Tryz.prog 17 #[.pointer s, .int .u32 ra, .int .u32 rb] w (OfP (dZ l r) w) := by
 have HB := Lib.hid hB
 have HC := Lib.hid hC
 have HOK := Lib.hid (And.intro hok hlr)
 clear hB hC hok hlr
 go_enter Tryz.func17, Tryz.ntmps17
 go_wp2_with fail
 go_step3
 go_wp2_with fail
 refine hA.mono ?_
 rintro e w1 ⟨ma, mb, rfl, hma, hmb, hb1⟩
 have HB1 := Lib.hid hb1
 have HMA := Lib.hid hma
 have C := HB.out w1 mb hb1 hmb
 clear hA hma hmb hb1
 dsimp only
 go_wp2_with fail
 refine C.mono ?_
 rintro e w2 ⟨vl, rfl, hol, hb2⟩
 have HOL := Lib.hid hol
 have HB2 := Lib.hid (bthn HB1.out hb2)
 have C2 := HC.out w2 ma HB2.out (HMA.out.below hb2)
 clear C hol hb2
 dsimp only
 go_wp2_with fail
 refine C2.mono ?_
 rintro e w3 ⟨vr, rfl, hor, hb3⟩
 have HRL := Lib.hid ((Rd.of_own HOL.out).below hb3)
 have HRR := Lib.hid (Rd.of_own hor)
 have HB3 := Lib.hid (bthn HB2.out hb3)
 obtain ⟨al, cl, rfl⟩ := row_sl2 HOL.out
 obtain ⟨ar, cr, rfl⟩ := row_sl2 hor
 clear C2 hor hb3
 dsimp only
 go_wp2_with fail
 go_step3
 go_wp2_with fail
 go_loopw [6, 10, 11] (fun o vl vr wr => MrgS w3 (dZ l r) o vl vr wr) (fun _ _ vr _ => slLen vr)
 case atStart => exact ⟨l, r, [], HOK.out.1, rfl, by have := HOK.out.2; simpa using this, ⟨_, _, _, rfl, HRL.out⟩, ⟨_, _, _, rfl, HRR.out⟩, World.ownsRow_nil w3 w3.heap.size 107 5, Below.refl _ _⟩
 case round =>
  obtain ⟨l', r', done, hok, htot, hle, ⟨al, nl, cl, rfl, hl⟩, ⟨ar, nr, cr, rfl, hr⟩, ho, hbr⟩ := hrel
  have HT := Lib.hid htot
  have HLE := Lib.hid hle
  have HL := Lib.hid hl
  have HR := Lib.hid hr
  have HO := Lib.hid ho
  have HBR := Lib.hid hbr
  obtain ⟨ao, co, rfl⟩ := row_sl2 ho
  have hnl := rd_plen hl
  have hnr := rd_plen hr
  clear htot hle hl hr ho hbr
  cases l' with
  | nil =>
   have hnl0 : nl = 0 := by simpa using hnl.symm
   subst hnl0
   clear hnl
   cases r' with
   | nil =>
    have hnr0 : nr = 0 := by simpa using hnr.symm
    subst hnr0
    clear hnr
    go_wp2_with fail
    (try rw [Exit.noGoto_ret])
    (try simp only [Exit.inBlock, Exit.then])
    (try rw [Exit.noGoto_ret])
    (try simp only [Exit.inBlock, Exit.then])
    go_ret2
    refine ⟨.slice ao done.length co, w3.heap.size, rfl, ?_, HB3.out.size, bthn HB3.out HBR.out⟩
    have h9 := HT.out
    simp only [dZ, List.map_nil, List.append_nil] at h9
    rw [← h9]
    exact HO.out
   | cons q r2 =>
    obtain ⟨qk, qv⟩ := q
    have HNR : Hid (r2.length + 1 = nr) := Lib.hid (by simpa using hnr)
    have hz : ((nr : Int) == 0) = false := by have := HNR.out; simp; omega
    have hr0 : 0 < nr := by have := HNR.out; omega
    obtain ⟨br, orr, rfl, hbl, hc⟩ := rd_pair HR.out (by simp)
    obtain ⟨g1, g2⟩ := hc 0 (qk, qv) rfl
    simp only [Nat.zero_mul, Nat.add_zero] at g1 g2
    have HG : Hid (∀ X, Below w3.heap.size w3 X → X.cell? ⟨br, orr, none⟩ = some (.int .u64 (qk : Int)) ∧ X.cell? ⟨br, orr + 1, none⟩ = some (.int .u64 (qv : Int))) := Lib.hid (fun X hX => ⟨(World.cell?_of_block (hX.block br hbl)).trans g1, (World.cell?_of_block (hX.block br hbl)).trans g2⟩)
    have HBL := Lib.hid hbl
    clear hnr hbl hc g1 g2
    go_wp2_with fail
    go_quiet (fail)
    rename_i nq
    have hbq : Below wr.heap.size wr (wr.drewN nq) := below_drewN (Below.refl _ _) _
    obtain ⟨yn, hy1⟩ : ∃ z, wr.drewN nq = z := ⟨_, rfl⟩
    rw [hy1] at hbq ⊢
    have HO := Lib.hid (ownsRow_below HO.out hbq)
    have HBR := Lib.hid (bthn HBR.out hbq)
    clear hy1 hbq
    obtain ⟨y1, rfl⟩ : ∃ y, y = yn := ⟨_, rfl⟩
    go_wp2_with fail
    go_quiet (fail)
    rename_i nq
    have hbq : Below y1.heap.size y1 (y1.drewN nq) := below_drewN (Below.refl _ _) _
    obtain ⟨yn, hy1⟩ : ∃ z, y1.drewN nq = z := ⟨_, rfl⟩
    rw [hy1] at hbq ⊢
    have HO := Lib.hid (ownsRow_below HO.out hbq)
    have HBR := Lib.hid (bthn HBR.out hbq)
    clear hy1 hbq
    obtain ⟨y1, rfl⟩ : ∃ y, y = yn := ⟨_, rfl⟩
    have HNB : Hid (br ∉ ob (.slice ao done.length co)) := Lib.hid (fun hh => by have h1 := ownsRow_ge HO.out _ hh; have := HBL.out; omega)
    go_wp2_with fail
    have HSS : Hid (∀ X, Mods (ob (.slice ao done.length co)) y1 X → (X.cell? ⟨br, orr, none⟩ = some (.int .u64 (qk : Int)) ∧ X.cell? ⟨br, orr + 1, none⟩ = some (.int .u64 (qv : Int))) ∧ Mods (ob (.slice ao done.length co)) y1 X) := Lib.hid (fun X hb => ⟨⟨(World.cell?_of_block (hb.block _ (Nat.lt_of_lt_of_le HBL.out HBR.out.size) (HNB.out))).trans ((HG.out _ HBR.out).1), (World.cell?_of_block (hb.block _ (Nat.lt_of_lt_of_le HBL.out HBR.out.size) (HNB.out))).trans ((HG.out _ HBR.out).2)⟩, hb⟩)
    refine wp_region_held_drew (S := fun X => (X.cell? ⟨br, orr, none⟩ = some (.int .u64 (qk : Int)) ∧ X.cell? ⟨br, orr + 1, none⟩ = some (.int .u64 (qv : Int))) ∧ Mods (ob (.slice ao done.length co)) y1 X) (by kernel_rfl) (HSS.out _ (Mods.of_below (Below.refl _ _).drew)) (fun hHeld => ?_)
    have hbe : Below y1.heap.size y1 y1.drew := (Below.refl _ _).drew
    obtain ⟨wd, hwd⟩ : ∃ y, y1.drew = y := ⟨_, rfl⟩
    rw [hwd] at hHeld hbe ⊢
    have HBE := Lib.hid hbe
    have HS0 : Hid (y1.heap.size ≤ wd.heap.size) := Lib.hid HBE.out.size
    clear hwd hbe
    have HO := Lib.hid (ownsRow_below HO.out HBE.out)
    refine wpAnyH_take (i := 0) (v := ?_) rfl (by kernel_rfl) (by kernel_rfl) (by kernel_rfl) (fun _ _ _ h => h) (Or.inl ⟨by rfl, ?_⟩) (by assumption) ?_
    rotate_left
    ·(intro w hSw; (try dsimp only at hSw); simp only [List.getElem_toArray, List.getElem_cons_zero, List.getElem_cons_succ]; go_simp; first | done | with_reducible rfl)
    simp only [List.getElem_toArray, List.getElem_cons_zero, List.getElem_cons_succ, Act.put, List.setIfInBounds_toArray, List.set_cons_zero, List.set_cons_succ]
    refine wpAnyH_take (i := 1) (v := ?_) rfl (by kernel_rfl) (by kernel_rfl) (by kernel_rfl) (fun _ _ _ h => h) (Or.inl ⟨by rfl, ?_⟩) (by assumption) ?_
    rotate_left
    ·(intro w hSw; (try dsimp only at hSw); simp only [List.getElem_toArray, List.getElem_cons_zero, List.getElem_cons_succ]; go_simp; first | done | with_reducible rfl)
    simp only [List.getElem_toArray, List.getElem_cons_zero, List.getElem_cons_succ, Act.put, List.setIfInBounds_toArray, List.set_cons_zero, List.set_cons_succ]
    refine wpAnyH_take (i := 5) (v := ?_) rfl (by kernel_rfl) (by kernel_rfl) (by kernel_rfl) (fun _ _ _ h => h) (Or.inl ⟨by rfl, ?_⟩) (by assumption) ?_
    rotate_left
    ·(intro w hSw; (try dsimp only at hSw); simp only [List.getElem_toArray, List.getElem_cons_zero, List.getElem_cons_succ]; go_simp; first | done | with_reducible rfl)
    simp only [List.getElem_toArray, List.getElem_cons_zero, List.getElem_cons_succ, Act.put, List.setIfInBounds_toArray, List.set_cons_zero, List.set_cons_succ]
    refine wpAnyH_take (i := 2) (v := ?_) rfl (by kernel_rfl) (by kernel_rfl) (by kernel_rfl) (fun _ _ _ h => h) (Or.inl ⟨by rfl, ?_⟩) (by assumption) ?_
    rotate_left
    ·(intro w hSw; (try dsimp only at hSw); simp only [List.getElem_toArray, List.getElem_cons_zero, List.getElem_cons_succ]; go_simp; first | done | with_reducible rfl)
    simp only [List.getElem_toArray, List.getElem_cons_zero, List.getElem_cons_succ, Act.put, List.setIfInBounds_toArray, List.set_cons_zero, List.set_cons_succ]
    refine wpAnyH_take (i := 6) (v := ?_) rfl (by kernel_rfl) (by kernel_rfl) (by kernel_rfl) (fun _ _ _ h => h) (Or.inl ⟨by rfl, ?_⟩) (by assumption) ?_
    rotate_left
    ·(intro w hSw; (try dsimp only at hSw); simp only [List.getElem_toArray, List.getElem_cons_zero, List.getElem_cons_succ]; go_simp; first | done | with_reducible rfl)
    simp only [List.getElem_toArray, List.getElem_cons_zero, List.getElem_cons_succ, Act.put, List.setIfInBounds_toArray, List.set_cons_zero, List.set_cons_succ]
    refine wpAnyH_take (i := 3) (v := ?_) rfl (by kernel_rfl) (by kernel_rfl) (by kernel_rfl) (fun _ _ _ h => h) (Or.inl ⟨by rfl, ?_⟩) (by assumption) ?_
    rotate_left
    ·(intro w hSw; (try dsimp only at hSw); simp only [List.getElem_toArray, List.getElem_cons_zero, List.getElem_cons_succ]; go_simp; first | done | with_reducible rfl)
    simp only [List.getElem_toArray, List.getElem_cons_zero, List.getElem_cons_succ, Act.put, List.setIfInBounds_toArray, List.set_cons_zero, List.set_cons_succ]
    refine wpAnyH_take (i := 7) (v := ?_) rfl (by kernel_rfl) (by kernel_rfl) (by kernel_rfl) (fun _ _ _ h => h) (Or.inl ⟨by rfl, ?_⟩) (by assumption) ?_
    rotate_left
    ·(intro w hSw; (try dsimp only at hSw); simp only [List.getElem_toArray, List.getElem_cons_zero, List.getElem_cons_succ]; go_simp; first | done | with_reducible rfl)
    simp only [List.getElem_toArray, List.getElem_cons_zero, List.getElem_cons_succ, Act.put, List.setIfInBounds_toArray, List.set_cons_zero, List.set_cons_succ]
    refine wpAnyH_take (i := 4) (v := ?_) rfl (by kernel_rfl) (by kernel_rfl) (by kernel_rfl) (fun _ _ _ h => h) (Or.inl ⟨by rfl, ?_⟩) (by assumption) ?_
    rotate_left
    ·(intro w hSw; (try dsimp only at hSw); simp only [List.getElem_toArray, List.getElem_cons_zero, List.getElem_cons_succ]; go_simp; first | done | with_reducible rfl)
    simp only [List.getElem_toArray, List.getElem_cons_zero, List.getElem_cons_succ, Act.put, List.setIfInBounds_toArray, List.set_cons_zero, List.set_cons_succ]
    refine wpAnyH_take (i := 8) (v := ?_) rfl (by kernel_rfl) (by kernel_rfl) (by kernel_rfl) (fun _ _ _ h => h) (Or.inl ⟨by rfl, ?_⟩) (by assumption) ?_
    rotate_left
    ·(intro w hSw; (try dsimp only at hSw); simp only [List.getElem_toArray, List.getElem_cons_zero, List.getElem_cons_succ]; go_simp; first | done | with_reducible rfl)
    simp only [List.getElem_toArray, List.getElem_cons_zero, List.getElem_cons_succ, Act.put, List.setIfInBounds_toArray, List.set_cons_zero, List.set_cons_succ]
    refine wpAnyH_take (i := 9) (v := ?_) rfl (by kernel_rfl) (by kernel_rfl) (by kernel_rfl) (fun _ _ _ h => h) (Or.inl ⟨by rfl, ?_⟩) (by assumption) ?_
    rotate_left
    ·(intro w hSw; (try dsimp only at hSw); simp only [List.getElem_toArray, List.getElem_cons_zero, List.getElem_cons_succ]; go_simp; first | done | with_reducible rfl)
    simp only [List.getElem_toArray, List.getElem_cons_zero, List.getElem_cons_succ, Act.put, List.setIfInBounds_toArray, List.set_cons_zero, List.set_cons_succ]
    refine wpAnyH_ready (rs := [10]) (by kernel_rfl) (by simp) ?_
    refine AllReadyH.cons rfl (fun K hK => ?_) (AllReadyH.nil)
    have hmm := run_buildSlice_one (P := Tryz.prog) wd 40 107 5 zcg [.int .u64 (qk : Int), .int .u64 0, .int .u64 (qv : Int), .bool false, .bool true] Tryz.underlying40 infoCg2 rfl rfl (by decide) (by decide)
    simp only [List.getElem_toArray, List.getElem_cons_zero, List.getElem_cons_succ]
    go_simp
    refine hK.out _ _ ?_ (fun hHeld => ?_)
    ·exact HSS.out _ (Mods.of_below (bthen HBE.out (balloc (Below.refl _ _) _)))
    clear hK K
    try simp only [Act.put, List.setIfInBounds_toArray, List.set_cons_zero, List.set_cons_succ]
    clear hmm
    obtain ⟨y10, hy10⟩ : ∃ z, wd.alloc (.cells #[.int .u64 (qk : Int), .int .u64 0, .int .u64 (qv : Int), .bool false, .bool true] 107) = z := ⟨_, rfl⟩
    obtain ⟨b10, hb10⟩ : ∃ b, wd.heap.size = b := ⟨_, rfl⟩
    have hx10 : Below wd.heap.size wd y10 := by rw [← hy10]; exact balloc (Below.refl _ _) _
    have HN10 : Hid (y10.heap[b10]? = some (.cells #[.int .u64 (qk : Int), .int .u64 0, .int .u64 (qv : Int), .bool false, .bool true] 107 (0, 0))) := Lib.hid (by rw [← hy10, ← hb10]; exact heap_alloc_new _ _)
    rw [hy10] at hHeld
    rw [hy10, hb10]
    have HBE := Lib.hid (bthen HBE.out hx10)
    have HO := Lib.hid (ownsRow_below HO.out hx10)
    clear hx10 hy10 hb10
    refine wpAnyH_ready (rs := [11]) (by kernel_rfl) (by simp) ?_
    refine AllReadyH.cons rfl (fun K hK => ?_) (AllReadyH.nil)
    simp only [List.getElem_toArray, List.getElem_cons_zero, List.getElem_cons_succ]
    rw [if_pos (by rfl)]
    refine wp_apps _ _ 40 rfl w3.heap.size 107 zcg 5 32 Tryz.underlying40 infoCg rfl (by decide) (by decide) (.slice ao done.length co) done.length (cgsV done) (by rfl) HO.out (.slice (some ⟨b10, 0, none⟩) 1 1) 1 (cgsV [⟨qk, 0, qv, false, true⟩]) (by rfl) (cg_one HN10.out) (cgsV_one _) (by have := HLE.out; omega) (Nat.le_trans HBR.out.size HBE.out.size) ?_
    intro v6 z6 ho6 hb6 hg6 hs6 hn6
    refine hK.out _ _ ?_ (fun hHeld => ?_)
    ·exact HSS.out _ ((Mods.of_below HBE.out).trans (mods_own hg6) (fun k hk => .inl hk))
    clear hK K
    try simp only [Act.put, List.setIfInBounds_toArray, List.set_cons_zero, List.set_cons_succ]
    have HO6 := Lib.hid ho6
    have HB6 := Lib.hid ((bthn HBR.out HBE.out).trans hb6)
    clear ho6 hb6 hg6 hs6 hn6
    refine wpAnyH_take (i := 12) (v := ?_) rfl (by kernel_rfl) (by kernel_rfl) (by kernel_rfl) (fun _ _ _ h => h) (Or.inl ⟨by rfl, ?_⟩) (by assumption) ?_
    rotate_left
    ·(intro w hSw; (try dsimp only at hSw); simp only [List.getElem_toArray, List.getElem_cons_zero, List.getElem_cons_succ]; go_simp; first | done | with_reducible rfl)
    simp only [List.getElem_toArray, List.getElem_cons_zero, List.getElem_cons_succ, Act.put, List.setIfInBounds_toArray, List.set_cons_zero, List.set_cons_succ]
    refine wpAnyH_done (by kernel_rfl) ?_ _
    have HEND := Lib.hid hHeld.2
    have HSE := Lib.hid hHeld.1
    clear hHeld
    clear HSS HSE HEND
    have hcut := fun W => run_cutT2 (P := Tryz.prog) W 59 (some ⟨br, orr, none⟩) nr cr 2 undPairs szPairs (by have := HNR.out; omega)
    obtain ⟨a6, c6, rfl⟩ := row_sl2 HO6.out
    go_wp2_with fail
    go_roundw
    case rel => exact ⟨[], r2, done ++ [⟨qk, 0, qv, false, true⟩], trivial, by rw [← HT.out]; simp [dZ], by have := HLE.out; simp at this ⊢; omega, ⟨_, _, _, rfl, HL.out⟩, ⟨_, _, _, rfl, rd_tail HR.out⟩, by rw [cgsV_app]; simpa using HO6.out, HB6.out⟩
    case measure => show nr - 1 < nr; have := HNR.out; omega
  | cons p l2 =>
   cases r' with
   | nil => exact absurd hok (by simp [okD])
   | cons q r2 =>
    obtain ⟨pk, pv⟩ := p
    obtain ⟨qk, qv⟩ := q
    obtain ⟨hkk, hok2⟩ := hok
    obtain rfl : pk = qk := hkk
    have HOK2 := Lib.hid hok2
    have HNR : Hid (r2.length + 1 = nr) := Lib.hid (by simpa using hnr)
    have HNL : Hid (l2.length + 1 = nl) := Lib.hid (by simpa using hnl)
    have hz : ((nr : Int) == 0) = false := by have := HNR.out; simp; omega
    have hz1 : ((nl : Int) == 0) = false := by have := HNL.out; simp; omega
    have hp0 : (0 : Int) < (nl : Int) := by have := HNL.out; omega
    have hr0 : 0 < nr := by have := HNR.out; omega
    have hl0 : 0 < nl := by have := HNL.out; omega
    have hll : decide ((pk : Int) < (pk : Int)) = false := by simp
    obtain ⟨bl, ol, rfl, hbl, hc⟩ := rd_pair HL.out (by simp)
    obtain ⟨g1, g2⟩ := hc 0 (pk, pv) rfl
    simp only [Nat.zero_mul, Nat.add_zero] at g1 g2
    have HGL : Hid (∀ X, Below w3.heap.size w3 X → X.cell? ⟨bl, ol, none⟩ = some (.int .u64 (pk : Int)) ∧ X.cell? ⟨bl, ol + 1, none⟩ = some (.int .u64 (pv : Int))) := Lib.hid (fun X hX => ⟨(World.cell?_of_block (hX.block bl hbl)).trans g1, (World.cell?_of_block (hX.block bl hbl)).trans g2⟩)
    have HBP := Lib.hid hbl
    clear hc g1 g2 hbl
    obtain ⟨br, orr, rfl, hbl, hc⟩ := rd_pair HR.out (by simp)
    obtain ⟨g1, g2⟩ := hc 0 (pk, qv) rfl
    simp only [Nat.zero_mul, Nat.add_zero] at g1 g2
    have HG : Hid (∀ X, Below w3.heap.size w3 X → X.cell? ⟨br, orr, none⟩ = some (.int .u64 (pk : Int)) ∧ X.cell? ⟨br, orr + 1, none⟩ = some (.int .u64 (qv : Int))) := Lib.hid (fun X hX => ⟨(World.cell?_of_block (hX.block br hbl)).trans g1, (World.cell?_of_block (hX.block br hbl)).trans g2⟩)
    have HBL := Lib.hid hbl
    clear hnr hnl hbl hc g1 g2 hok2
    obtain ⟨p1, p2⟩ := HGL.out _ HBR.out
    obtain ⟨q1, q2⟩ := HG.out _ HBR.out
    go_wp2_with fail
    go_quiet (fail)
    rename_i nq
    have hbq : Below wr.heap.size wr (wr.drewN nq) := below_drewN (Below.refl _ _) _
    obtain ⟨yn, hy1⟩ : ∃ z, wr.drewN nq = z := ⟨_, rfl⟩
    rw [hy1] at hbq ⊢
    have HO := Lib.hid (ownsRow_below HO.out hbq)
    have HBR := Lib.hid (bthn HBR.out hbq)
    clear hy1 hbq
    obtain ⟨y1, rfl⟩ : ∃ y, y = yn := ⟨_, rfl⟩
    obtain ⟨p1, p2⟩ := HGL.out _ HBR.out
    obtain ⟨q1, q2⟩ := HG.out _ HBR.out
    go_wp2_with fail
    go_quiet (fail)
    rename_i nq
    have hbq : Below y1.heap.size y1 (y1.drewN nq) := below_drewN (Below.refl _ _) _
    obtain ⟨yn, hy1⟩ : ∃ z, y1.drewN nq = z := ⟨_, rfl⟩
    rw [hy1] at hbq ⊢
    have HO := Lib.hid (ownsRow_below HO.out hbq)
    have HBR := Lib.hid (bthn HBR.out hbq)
    clear hy1 hbq
    obtain ⟨y1, rfl⟩ : ∃ y, y = yn := ⟨_, rfl⟩
    obtain ⟨p1, p2⟩ := HGL.out _ HBR.out
    obtain ⟨q1, q2⟩ := HG.out _ HBR.out
    by_cases hpv : pv = qv
    ·subst hpv
     have hvv : ((pv : Int) != (pv : Int)) = false := by simp
     go_wp2_with fail
     go_quiet (fail)
     rename_i nq
     have hbq : Below y1.heap.size y1 (y1.drewN nq) := below_drewN (Below.refl _ _) _
     obtain ⟨yn, hy1⟩ : ∃ z, y1.drewN nq = z := ⟨_, rfl⟩
     rw [hy1] at hbq ⊢
     have HO := Lib.hid (ownsRow_below HO.out hbq)
     have HBR := Lib.hid (bthn HBR.out hbq)
     clear hy1 hbq
     obtain ⟨y1, rfl⟩ : ∃ y, y = yn := ⟨_, rfl⟩
     go_wp2_with fail
     have hcutl := fun W => run_cutT2 (P := Tryz.prog) W 59 (some ⟨bl, ol, none⟩) nl cl 2 undPairs szPairs (by have := HNL.out; omega)
     have hcutr := fun W => run_cutT2 (P := Tryz.prog) W 59 (some ⟨br, orr, none⟩) nr cr 2 undPairs szPairs (by have := HNR.out; omega)
     go_quiet (fail)
     rename_i nq
     have hbq : Below y1.heap.size y1 (y1.drewN nq) := below_drewN (Below.refl _ _) _
     obtain ⟨yn, hy1⟩ : ∃ z, y1.drewN nq = z := ⟨_, rfl⟩
     rw [hy1] at hbq ⊢
     have HO := Lib.hid (ownsRow_below HO.out hbq)
     have HBR := Lib.hid (bthn HBR.out hbq)
     clear hy1 hbq
     obtain ⟨y1, rfl⟩ : ∃ y, y = yn := ⟨_, rfl⟩
     clear hcutl hcutr
     go_wp2_with fail
     go_roundw
     case rel => exact ⟨l2, r2, done, HOK2.out, by rw [← HT.out, dZ, if_pos rfl]; rfl, by have := HLE.out; simp at this ⊢; omega, ⟨_, _, _, rfl, rd_tail HL.out⟩, ⟨_, _, _, rfl, rd_tail HR.out⟩, HO.out, HBR.out⟩
     case measure => show nr - 1 < nr; have := HNR.out; omega
    ·have hvv : ((pv : Int) != (qv : Int)) = true := by simp; omega
     have HPV := Lib.hid hpv
     clear hpv
     go_wp2_with fail
     go_quiet (fail)
     rename_i nq
     have hbq : Below y1.heap.size y1 (y1.drewN nq) := below_drewN (Below.refl _ _) _
     obtain ⟨yn, hy1⟩ : ∃ z, y1.drewN nq = z := ⟨_, rfl⟩
     rw [hy1] at hbq ⊢
     have HO := Lib.hid (ownsRow_below HO.out hbq)
     have HBR := Lib.hid (bthn HBR.out hbq)
     clear hy1 hbq
     obtain ⟨y1, rfl⟩ : ∃ y, y = yn := ⟨_, rfl⟩
     have HNB : Hid (br ∉ ob (.slice ao done.length co)) := Lib.hid (fun hh => by have h1 := ownsRow_ge HO.out _ hh; have := HBL.out; omega)
     have HNP : Hid (bl ∉ ob (.slice ao done.length co)) := Lib.hid (fun hh => by have h1 := ownsRow_ge HO.out _ hh; have := HBP.out; omega)
     clear p1 p2 q1 q2
     go_wp2_with fail
     have HSS : Hid (∀ X, Mods (ob (.slice ao done.length co)) y1 X → (X.cell? ⟨bl, ol, none⟩ = some (.int .u64 (pk : Int)) ∧ X.cell? ⟨bl, ol + 1, none⟩ = some (.int .u64 (pv : Int)) ∧ X.cell? ⟨br, orr + 1, none⟩ = some (.int .u64 (qv : Int))) ∧ Mods (ob (.slice ao done.length co)) y1 X) := Lib.hid (fun X hb => ⟨⟨(World.cell?_of_block (hb.block _ (Nat.lt_of_lt_of_le HBP.out HBR.out.size) (HNP.out))).trans ((HGL.out _ HBR.out).1), (World.cell?_of_block (hb.block _ (Nat.lt_of_lt_of_le HBP.out HBR.out.size) (HNP.out))).trans ((HGL.out _ HBR.out).2), (World.cell?_of_block (hb.block _ (Nat.lt_of_lt_of_le HBL.out HBR.out.size) (HNB.out))).trans ((HG.out _ HBR.out).2)⟩, hb⟩)
     refine wp_region_held_drew (S := fun X => (X.cell? ⟨bl, ol, none⟩ = some (.int .u64 (pk : Int)) ∧ X.cell? ⟨bl, ol + 1, none⟩ = some (.int .u64 (pv : Int)) ∧ X.cell? ⟨br, orr + 1, none⟩ = some (.int .u64 (qv : Int))) ∧ Mods (ob (.slice ao done.length co)) y1 X) (by kernel_rfl) (HSS.out _ (Mods.of_below (Below.refl _ _).drew)) (fun hHeld => ?_)
     have hbe : Below y1.heap.size y1 y1.drew := (Below.refl _ _).drew
     obtain ⟨wd, hwd⟩ : ∃ y, y1.drew = y := ⟨_, rfl⟩
     rw [hwd] at hHeld hbe ⊢
     have HBE := Lib.hid hbe
     have HS0 : Hid (y1.heap.size ≤ wd.heap.size) := Lib.hid HBE.out.size
     clear hwd hbe
     have HO := Lib.hid (ownsRow_below HO.out HBE.out)
     refine wpAnyH_take (i := 0) (v := ?_) rfl (by kernel_rfl) (by kernel_rfl) (by kernel_rfl) (fun _ _ _ h => h) (Or.inl ⟨by rfl, ?_⟩) (by assumption) ?_
     rotate_left
     ·(intro w hSw; (try dsimp only at hSw); simp only [List.getElem_toArray, List.getElem_cons_zero, List.getElem_cons_succ]; go_simp; first | done | with_reducible rfl)
     simp only [List.getElem_toArray, List.getElem_cons_zero, List.getElem_cons_succ, Act.put, List.setIfInBounds_toArray, List.set_cons_zero, List.set_cons_succ]
     refine wpAnyH_take (i := 1) (v := ?_) rfl (by kernel_rfl) (by kernel_rfl) (by kernel_rfl) (fun _ _ _ h => h) (Or.inl ⟨by rfl, ?_⟩) (by assumption) ?_
     rotate_left
     ·(intro w hSw; (try dsimp only at hSw); simp only [List.getElem_toArray, List.getElem_cons_zero, List.getElem_cons_succ]; go_simp; first | done | with_reducible rfl)
     simp only [List.getElem_toArray, List.getElem_cons_zero, List.getElem_cons_succ, Act.put, List.setIfInBounds_toArray, List.set_cons_zero, List.set_cons_succ]
     refine wpAnyH_take (i := 5) (v := ?_) rfl (by kernel_rfl) (by kernel_rfl) (by kernel_rfl) (fun _ _ _ h => h) (Or.inl ⟨by rfl, ?_⟩) (by assumption) ?_
     rotate_left
     ·(intro w hSw; (try dsimp only at hSw); simp only [List.getElem_toArray, List.getElem_cons_zero, List.getElem_cons_succ]; go_simp; first | done | with_reducible rfl)
     simp only [List.getElem_toArray, List.getElem_cons_zero, List.getElem_cons_succ, Act.put, List.setIfInBounds_toArray, List.set_cons_zero, List.set_cons_succ]
     refine wpAnyH_take (i := 9) (v := ?_) rfl (by kernel_rfl) (by kernel_rfl) (by kernel_rfl) (fun _ _ _ h => h) (Or.inl ⟨by rfl, ?_⟩) (by assumption) ?_
     rotate_left
     ·(intro w hSw; (try dsimp only at hSw); simp only [List.getElem_toArray, List.getElem_cons_zero, List.getElem_cons_succ]; go_simp; first | done | with_reducible rfl)
     simp only [List.getElem_toArray, List.getElem_cons_zero, List.getElem_cons_succ, Act.put, List.setIfInBounds_toArray, List.set_cons_zero, List.set_cons_succ]
     refine wpAnyH_take (i := 2) (v := ?_) rfl (by kernel_rfl) (by kernel_rfl) (by kernel_rfl) (fun _ _ _ h => h) (Or.inl ⟨by rfl, ?_⟩) (by assumption) ?_
     rotate_left
     ·(intro w hSw; (try dsimp only at hSw); simp only [List.getElem_toArray, List.getElem_cons_zero, List.getElem_cons_succ]; go_simp; first | done | with_reducible rfl)
     simp only [List.getElem_toArray, List.getElem_cons_zero, List.getElem_cons_succ, Act.put, List.setIfInBounds_toArray, List.set_cons_zero, List.set_cons_succ]
     refine wpAnyH_take (i := 6) (v := ?_) rfl (by kernel_rfl) (by kernel_rfl) (by kernel_rfl) (fun _ _ _ h => h) (Or.inl ⟨by rfl, ?_⟩) (by assumption) ?_
     rotate_left
     ·(intro w hSw; (try dsimp only at hSw); simp only [List.getElem_toArray, List.getElem_cons_zero, List.getElem_cons_succ]; go_simp; first | done | with_reducible rfl)
     simp only [List.getElem_toArray, List.getElem_cons_zero, List.getElem_cons_succ, Act.put, List.setIfInBounds_toArray, List.set_cons_zero, List.set_cons_succ]
     refine wpAnyH_take (i := 10) (v := ?_) rfl (by kernel_rfl) (by kernel_rfl) (by kernel_rfl) (fun _ _ _ h => h) (Or.inl ⟨by rfl, ?_⟩) (by assumption) ?_
     rotate_left
     ·(intro w hSw; (try dsimp only at hSw); simp only [List.getElem_toArray, List.getElem_cons_zero, List.getElem_cons_succ]; go_simp; first | done | with_reducible rfl)
     simp only [List.getElem_toArray, List.getElem_cons_zero, List.getElem_cons_succ, Act.put, List.setIfInBounds_toArray, List.set_cons_zero, List.set_cons_succ]
     refine wpAnyH_take (i := 3) (v := ?_) rfl (by kernel_rfl) (by kernel_rfl) (by kernel_rfl) (fun _ _ _ h => h) (Or.inl ⟨by rfl, ?_⟩) (by assumption) ?_
     rotate_left
     ·(intro w hSw; (try dsimp only at hSw); simp only [List.getElem_toArray, List.getElem_cons_zero, List.getElem_cons_succ]; go_simp; first | done | with_reducible rfl)
     simp only [List.getElem_toArray, List.getElem_cons_zero, List.getElem_cons_succ, Act.put, List.setIfInBounds_toArray, List.set_cons_zero, List.set_cons_succ]
     refine wpAnyH_take (i := 7) (v := ?_) rfl (by kernel_rfl) (by kernel_rfl) (by kernel_rfl) (fun _ _ _ h => h) (Or.inl ⟨by rfl, ?_⟩) (by assumption) ?_
     rotate_left
     ·(intro w hSw; (try dsimp only at hSw); simp only [List.getElem_toArray, List.getElem_cons_zero, List.getElem_cons_succ]; go_simp; first | done | with_reducible rfl)
     simp only [List.getElem_toArray, List.getElem_cons_zero, List.getElem_cons_succ, Act.put, List.setIfInBounds_toArray, List.set_cons_zero, List.set_cons_succ]
     refine wpAnyH_take (i := 11) (v := ?_) rfl (by kernel_rfl) (by kernel_rfl) (by kernel_rfl) (fun _ _ _ h => h) (Or.inl ⟨by rfl, ?_⟩) (by assumption) ?_
     rotate_left
     ·(intro w hSw; (try dsimp only at hSw); simp only [List.getElem_toArray, List.getElem_cons_zero, List.getElem_cons_succ]; go_simp; first | done | with_reducible rfl)
     simp only [List.getElem_toArray, List.getElem_cons_zero, List.getElem_cons_succ, Act.put, List.setIfInBounds_toArray, List.set_cons_zero, List.set_cons_succ]
     refine wpAnyH_take (i := 4) (v := ?_) rfl (by kernel_rfl) (by kernel_rfl) (by kernel_rfl) (fun _ _ _ h => h) (Or.inl ⟨by rfl, ?_⟩) (by assumption) ?_
     rotate_left
     ·(intro w hSw; (try dsimp only at hSw); simp only [List.getElem_toArray, List.getElem_cons_zero, List.getElem_cons_succ]; go_simp; first | done | with_reducible rfl)
     simp only [List.getElem_toArray, List.getElem_cons_zero, List.getElem_cons_succ, Act.put, List.setIfInBounds_toArray, List.set_cons_zero, List.set_cons_succ]
     refine wpAnyH_take (i := 8) (v := ?_) rfl (by kernel_rfl) (by kernel_rfl) (by kernel_rfl) (fun _ _ _ h => h) (Or.inl ⟨by rfl, ?_⟩) (by assumption) ?_
     rotate_left
     ·(intro w hSw; (try dsimp only at hSw); simp only [List.getElem_toArray, List.getElem_cons_zero, List.getElem_cons_succ]; go_simp; first | done | with_reducible rfl)
     simp only [List.getElem_toArray, List.getElem_cons_zero, List.getElem_cons_succ, Act.put, List.setIfInBounds_toArray, List.set_cons_zero, List.set_cons_succ]
     refine wpAnyH_take (i := 12) (v := ?_) rfl (by kernel_rfl) (by kernel_rfl) (by kernel_rfl) (fun _ _ _ h => h) (Or.inl ⟨by rfl, ?_⟩) (by assumption) ?_
     rotate_left
     ·(intro w hSw; (try dsimp only at hSw); simp only [List.getElem_toArray, List.getElem_cons_zero, List.getElem_cons_succ]; go_simp; first | done | with_reducible rfl)
     simp only [List.getElem_toArray, List.getElem_cons_zero, List.getElem_cons_succ, Act.put, List.setIfInBounds_toArray, List.set_cons_zero, List.set_cons_succ]
     refine wpAnyH_take (i := 13) (v := ?_) rfl (by kernel_rfl) (by kernel_rfl) (by kernel_rfl) (fun _ _ _ h => h) (Or.inl ⟨by rfl, ?_⟩) (by assumption) ?_
     rotate_left
     ·(intro w hSw; (try dsimp only at hSw); simp only [List.getElem_toArray, List.getElem_cons_zero, List.getElem_cons_succ]; go_simp; first | done | with_reducible rfl)
     simp only [List.getElem_toArray, List.getElem_cons_zero, List.getElem_cons_succ, Act.put, List.setIfInBounds_toArray, List.set_cons_zero, List.set_cons_succ]
     refine wpAnyH_ready (rs := [14]) (by kernel_rfl) (by simp) ?_
     refine AllReadyH.cons rfl (fun K hK => ?_) (AllReadyH.nil)
     have hmm := run_buildSlice_one (P := Tryz.prog) wd 40 107 5 zcg [.int .u64 (pk : Int), .int .u64 (pv : Int), .int .u64 (qv : Int), .bool true, .bool true] Tryz.underlying40 infoCg2 rfl rfl (by decide) (by decide)
     simp only [List.getElem_toArray, List.getElem_cons_zero, List.getElem_cons_succ]
     go_simp
     refine hK.out _ _ ?_ (fun hHeld => ?_)
     ·exact HSS.out _ (Mods.of_below (bthen HBE.out (balloc (Below.refl _ _) _)))
     clear hK K
     try simp only [Act.put, List.setIfInBounds_toArray, List.set_cons_zero, List.set_cons_succ]
     clear hmm
     obtain ⟨y10, hy10⟩ : ∃ z, wd.alloc (.cells #[.int .u64 (pk : Int), .int .u64 (pv : Int), .int .u64 (qv : Int), .bool true, .bool true] 107) = z := ⟨_, rfl⟩
     obtain ⟨b10, hb10⟩ : ∃ b, wd.heap.size = b := ⟨_, rfl⟩
     have hx10 : Below wd.heap.size wd y10 := by rw [← hy10]; exact balloc (Below.refl _ _) _
     have HN10 : Hid (y10.heap[b10]? = some (.cells #[.int .u64 (pk : Int), .int .u64 (pv : Int), .int .u64 (qv : Int), .bool true, .bool true] 107 (0, 0))) := Lib.hid (by rw [← hy10, ← hb10]; exact heap_alloc_new _ _)
     rw [hy10] at hHeld
     rw [hy10, hb10]
     have HBE := Lib.hid (bthen HBE.out hx10)
     have HO := Lib.hid (ownsRow_below HO.out hx10)
     clear hx10 hy10 hb10
     refine wpAnyH_ready (rs := [15]) (by kernel_rfl) (by simp) ?_
     refine AllReadyH.cons rfl (fun K hK => ?_) (AllReadyH.nil)
     simp only [List.getElem_toArray, List.getElem_cons_zero, List.getElem_cons_succ]
     rw [if_pos (by rfl)]
     refine wp_apps _ _ 40 rfl w3.heap.size 107 zcg 5 32 Tryz.underlying40 infoCg rfl (by decide) (by decide) (.slice ao done.length co) done.length (cgsV done) (by rfl) HO.out (.slice (some ⟨b10, 0, none⟩) 1 1) 1 (cgsV [⟨pk, pv, qv, true, true⟩]) (by rfl) (cg_one HN10.out) (cgsV_one _) (by have := HLE.out; omega) (Nat.le_trans HBR.out.size HBE.out.size) ?_
     intro v6 z6 ho6 hb6 hg6 hs6 hn6
     refine hK.out _ _ ?_ (fun hHeld => ?_)
     ·exact HSS.out _ ((Mods.of_below HBE.out).trans (mods_own hg6) (fun k hk => .inl hk))
     clear hK K
     try simp only [Act.put, List.setIfInBounds_toArray, List.set_cons_zero, List.set_cons_succ]
     have HO6 := Lib.hid ho6
     have HB6 := Lib.hid ((bthn HBR.out HBE.out).trans hb6)
     clear ho6 hb6 hg6 hs6 hn6
     refine wpAnyH_take (i := 16) (v := ?_) rfl (by kernel_rfl) (by kernel_rfl) (by kernel_rfl) (fun _ _ _ h => h) (Or.inl ⟨by rfl, ?_⟩) (by assumption) ?_
     rotate_left
     ·(intro w hSw; (try dsimp only at hSw); simp only [List.getElem_toArray, List.getElem_cons_zero, List.getElem_cons_succ]; go_simp; first | done | with_reducible rfl)
     simp only [List.getElem_toArray, List.getElem_cons_zero, List.getElem_cons_succ, Act.put, List.setIfInBounds_toArray, List.set_cons_zero, List.set_cons_succ]
     refine wpAnyH_done (by kernel_rfl) ?_ _
     have HEND := Lib.hid hHeld.2
     have HSE := Lib.hid hHeld.1
     clear hHeld
     clear HSS HSE HEND
     obtain ⟨a6, c6, rfl⟩ := row_sl2 HO6.out
     have HO := HO6
     have HBR := HB6
     go_wp2_with fail
     have hcutl := fun W => run_cutT2 (P := Tryz.prog) W 59 (some ⟨bl, ol, none⟩) nl cl 2 undPairs szPairs (by have := HNL.out; omega)
     have hcutr := fun W => run_cutT2 (P := Tryz.prog) W 59 (some ⟨br, orr, none⟩) nr cr 2 undPairs szPairs (by have := HNR.out; omega)
     go_quiet (fail)
     rename_i nq
     have hbq : Below z6.heap.size z6 (z6.drewN nq) := below_drewN (Below.refl _ _) _
     obtain ⟨yn, hy1⟩ : ∃ z, z6.drewN nq = z := ⟨_, rfl⟩
     rw [hy1] at hbq ⊢
     have HO := Lib.hid (ownsRow_below HO.out hbq)
     have HBR := Lib.hid (bthn HBR.out hbq)
     clear hy1 hbq
     obtain ⟨y1, rfl⟩ : ∃ y, y = yn := ⟨_, rfl⟩
     clear hcutl hcutr
     go_wp2_with fail
     go_roundw
     case rel => exact ⟨l2, r2, done ++ [⟨pk, pv, qv, true, true⟩], HOK2.out, by rw [← HT.out, dZ, if_neg HPV.out]; simp, by have := HLE.out; simp at this ⊢; omega, ⟨_, _, _, rfl, rd_tail HL.out⟩, ⟨_, _, _, rfl, rd_tail HR.out⟩, by rw [cgsV_app]; simpa using HO.out, HBR.out⟩
     case measure => show nr - 1 < nr; have := HNR.out; omega
end Go.Proofs.YtgmahhdnjikdjaaGreat
