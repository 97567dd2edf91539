import Derived.Test.YtgmahhdnjikdjaaGreatNG23
import Derived.Test.YtgmahhdnjikdjaaGreatNG21
import Derived.Test.YtgmahhdnjikdjaaGreatNG2
set_option linter.unusedVariables false
set_option linter.unusedSimpArgs false
/- The document's list: At, Put of a key behind all others, walked. -/
namespace Go.Proofs.YtgmahhdnjikdjaaGreat
open Go.RowKit Go.Maps Wire
set_option linter.unusedVariables false
set_option linter.unusedSimpArgs false
set_option maxRecDepth 100000 in
set_option maxHeartbeats 6400000 in
theorem lat_end (w : World) (v : Value) (n : Nat) (l : List (Nat × Nat)) (h : Rd w 2 v n (pV l)) (hn : n ≤ 1000) (key : Nat) (hlt : ∀ p ∈ l, p.1 < key) :
  Calls Tryz.prog 146 #[v, .int .u64 (key : Int)] w fun e w' => e = .returned (.tuple #[.int .i64 (n : Int), .bool false]) ∧ Below w.heap.size w w' := by
 obtain ⟨ao, c, rfl, _⟩ := id h
 have hl := rd_plen h
 have HR := Lib.hid h
 have HLT := Lib.hid hlt
 clear h hlt
 go_enter Tryz.func146, Tryz.ntmps146
 go_wp2_with fail
 go_loopw [6] (fun v wr => ∃ i : Nat, i ≤ n ∧ v = .int .i64 (i : Int) ∧ w = wr) (fun v _ => n - (Go.RowKit.intOf v).toNat)
 case atStart => exact ⟨0, by omega, rfl, rfl⟩
 case round =>
  obtain ⟨i, hi, rfl, rfl⟩ := hrel
  by_cases hin : i < n
  ·obtain ⟨p, hp⟩ : ∃ p, l[i]? = some p := ⟨_, List.getElem?_eq_getElem (by omega)⟩
   obtain ⟨b, off, rfl, _, hc⟩ := rd_pair HR.out (by omega)
   obtain ⟨g1, _⟩ := hc i p hp
   have hpk := HLT.out p (List.mem_of_getElem? hp)
   obtain ⟨pk, hpe⟩ : ∃ z, p.1 = z := ⟨_, rfl⟩
   rw [hpe] at g1 hpk
   have hlk : decide ((pk : Int) < (key : Int)) = true := by simp; omega
   have hin' : (i : Int) < (n : Int) := by omega
   clear hc hp hpe
   go_wp2_with fail
   go_roundw
   case rel => exact ⟨i + 1, by omega, by go_num, trivial⟩
   case measure => simp [Go.RowKit.intOf]; omega
  ·obtain rfl : i = n := by omega
   have hnn : decide ((i : Int) < (i : Int)) = false := by simp
   go_wp2_with fail
   go_quiet (fail)
   go_wp2_with fail
   go_ret2
   exact ⟨rfl, below_drewN (Below.refl _ _) _⟩
theorem zpr_und : Tryz.prog.underlying 115 = some (.slice 94) := by kernel_rfl
theorem undLst : Tryz.prog.underlying 115 = some (.slice (Tryz.prog.elem 115)) := by kernel_rfl
theorem szLst (w : World) : (sizeOf (Tryz.prog.elem 115)).run Tryz.prog w = .ok 2 w := by kernel_rfl
theorem run_cutH2 {P : Program} (w : World) (t : TypeId) (ao : Option Addr) (n cap size : Nat) (ht : P.underlying t = some (.slice (P.elem t))) (hs : ∀ w, (sizeOf (P.elem t)).run P w = .ok size w) (h : Int) (h0 : 0 ≤ h) (h1 : h ≤ cap) :
  (Instr.slice t (.slice ao n cap) none (some (.int .i64 h)) none).run P w = .ok (.slice (cutA ao cap 0 size) h.toNat cap) w := by
 rw [run_slice_h w t ao n cap ht .i64 h h0 h1, hs]
 rfl
theorem run_cutL2 {P : Program} (w : World) (t : TypeId) (ao : Option Addr) (n cap size : Nat) (ht : P.underlying t = some (.slice (P.elem t))) (hs : ∀ w, (sizeOf (P.elem t)).run P w = .ok size w) (l : Int) (h0 : 0 ≤ l) (h1 : l ≤ n) :
  (Instr.slice t (.slice ao n cap) (some (.int .i64 l)) none none).run P w = .ok (.slice (cutA ao cap l.toNat size) (n - l.toNat) (cap - l.toNat)) w := by
 rw [run_slice_l w t ao n cap ht .i64 l h0 h1, hs]
 rfl
def zpr : Value := .agg #[.int .u64 0, .int .u64 0]
theorem infoPz : (Tryz.prog.info? 94).map (fun i => (i.zero, i.size, i.bytes)) = some (some zpr, 2, 16) := by kernel_rfl
set_option maxRecDepth 100000 in
set_option maxHeartbeats 12800000 in
theorem lput_end (w : World) (v : Value) (n : Nat) (l : List (Nat × Nat)) (h : Rd w 2 v n (pV l)) (hn : n ≤ 900) (key val : Nat) (hlt : ∀ p ∈ l, p.1 < key) :
  Calls Tryz.prog 102 #[v, .agg #[.int .u64 (key : Int), .int .u64 (val : Int)]] w fun e w' => ∃ v', e = .returned (.tuple #[v', .int .u64 0, .bool false]) ∧ w'.ownsRow w.heap.size 94 2 v' (n + 1) (pV (l ++ [(key, val)])) ∧ Below w.heap.size w w' := by
 obtain ⟨ao, c, rfl, _, _, ⟨_, hnc, hcm⟩, _⟩ := id h
 have hl := rd_plen h
 have HNC := Lib.hid (And.intro hnc hcm)
 obtain ⟨w1, hw1⟩ : ∃ W, w.alloc (.cells #[.int .u64 (key : Int), .int .u64 (val : Int)] 94) = W := ⟨_, rfl⟩
 have hb1 : Below w.heap.size w w1 := by rw [← hw1]; exact balloc (Below.refl _ _) _
 have hx1 : w1.heap[w.heap.size]? = some (.cells #[.int .u64 (key : Int), .int .u64 (val : Int)] 94 (0, 0)) := by rw [← hw1]; exact heap_alloc_new _ _
 have HR1 := Lib.hid (h.below hb1)
 have HB1 := Lib.hid hb1
 have HX1 := Lib.hid hx1
 have CA := lat_end w1 _ n l (h.below hb1) (by omega) key hlt
 have p0 := cellOf hx1 0 (v := .int .u64 (key : Int)) rfl
 clear h hlt hb1 hx1
 go_enter Tryz.func102, Tryz.ntmps102
 go_wp2_with fail
 (try rw [hw1])
 clear hw1
 refine CA.mono ?_
 rintro e w2 ⟨rfl, hb2⟩
 have HB2 := Lib.hid (bthn HB1.out hb2)
 have HX2 := Lib.hid ((hb2.block _ (Array.getElem?_eq_some_iff.1 HX1.out).1).trans HX1.out)
 have HR2 := Lib.hid (HR1.out.below hb2)
 clear CA p0 hb2
 dsimp only
 have hcut := fun W => run_cutH2 (P := Tryz.prog) W 115 ao n c 2 undLst szLst (n : Int) (by omega) (by omega)
 simp only [Int.toNat_natCast] at hcut
 have HRC : Hid (∀ X, Below w2.heap.size w2 X → Rd X 2 (.slice (cutA ao c 0 2) n c) n (pV l)) := Lib.hid (fun X hX => by
  have h1 := (HR2.out.below hX).cut (l := 0) (k := n) (Nat.zero_le _) (Nat.le_refl _)
  rw [Nat.zero_mul, List.drop_zero, Nat.sub_zero, Nat.sub_zero, List.take_of_length_le (by rw [pV_len]; omega)] at h1
  exact h1)
 go_upto_region 2 with fail
 have HSS : Hid (∀ X, Below w2.heap.size w2 X → (X.cell? ⟨w.heap.size, 0, none⟩ = some (.int .u64 (key : Int)) ∧ X.cell? ⟨w.heap.size, 1, none⟩ = some (.int .u64 (val : Int))) ∧ Below w2.heap.size w2 X) := Lib.hid (fun X hb => ⟨⟨(World.cell?_of_block (hb.block _ ((Array.getElem?_eq_some_iff.1 HX2.out).1))).trans (cellOf HX2.out 0 rfl), (World.cell?_of_block (hb.block _ ((Array.getElem?_eq_some_iff.1 HX2.out).1))).trans (cellOf HX2.out 1 rfl)⟩, hb⟩)
 refine wp_region_held_drew (S := fun X => (X.cell? ⟨w.heap.size, 0, none⟩ = some (.int .u64 (key : Int)) ∧ X.cell? ⟨w.heap.size, 1, none⟩ = some (.int .u64 (val : Int))) ∧ Below w2.heap.size w2 X) (by kernel_rfl) (HSS.out _ (Below.refl _ _).drew) (fun hHeld => ?_)
 have hbe : Below w2.heap.size w2 w2.drew := (Below.refl _ _).drew
 obtain ⟨wd, hwd⟩ : ∃ y, w2.drew = y := ⟨_, rfl⟩
 rw [hwd] at hHeld hbe ⊢
 have HBE := Lib.hid hbe
 have HS0 : Hid (w2.heap.size ≤ wd.heap.size) := Lib.hid HBE.out.size
 clear hwd hbe
 refine wpAnyH_take (i := 0) (v := ?_) rfl (by kernel_rfl) (by kernel_rfl) (by kernel_rfl) (fun _ _ _ h => h) (Or.inl ⟨by rfl, ?_⟩) (by assumption) ?_
 rotate_left
 ·(intro w hSw; (try dsimp only at hSw); simp only [List.getElem_toArray, List.getElem_cons_zero, List.getElem_cons_succ]; go_simp; first | done | with_reducible rfl)
 simp only [List.getElem_toArray, List.getElem_cons_zero, List.getElem_cons_succ, Act.put, List.setIfInBounds_toArray, List.set_cons_zero, List.set_cons_succ]
 refine wpAnyH_take (i := 1) (v := ?_) rfl (by kernel_rfl) (by kernel_rfl) (by kernel_rfl) (fun _ _ _ h => h) (Or.inl ⟨by rfl, ?_⟩) (by assumption) ?_
 rotate_left
 ·(intro w hSw; (try dsimp only at hSw); simp only [List.getElem_toArray, List.getElem_cons_zero, List.getElem_cons_succ]; go_simp; first | done | with_reducible rfl)
 simp only [List.getElem_toArray, List.getElem_cons_zero, List.getElem_cons_succ, Act.put, List.setIfInBounds_toArray, List.set_cons_zero, List.set_cons_succ]
 refine wpAnyH_take (i := 4) (v := ?_) rfl (by kernel_rfl) (by kernel_rfl) (by kernel_rfl) (fun _ _ _ h => h) (Or.inl ⟨by rfl, ?_⟩) (by assumption) ?_
 rotate_left
 ·(intro w hSw; (try dsimp only at hSw); simp only [List.getElem_toArray, List.getElem_cons_zero, List.getElem_cons_succ]; go_simp; first | done | with_reducible rfl)
 simp only [List.getElem_toArray, List.getElem_cons_zero, List.getElem_cons_succ, Act.put, List.setIfInBounds_toArray, List.set_cons_zero, List.set_cons_succ]
 refine wpAnyH_take (i := 2) (v := ?_) rfl (by kernel_rfl) (by kernel_rfl) (by kernel_rfl) (fun _ _ _ h => h) (Or.inl ⟨by rfl, ?_⟩) (by assumption) ?_
 rotate_left
 ·(intro w hSw; have h9 := hcut; (try dsimp only at hSw); simp only [List.getElem_toArray, List.getElem_cons_zero, List.getElem_cons_succ]; go_simp; first | done | with_reducible rfl)
 simp only [List.getElem_toArray, List.getElem_cons_zero, List.getElem_cons_succ, Act.put, List.setIfInBounds_toArray, List.set_cons_zero, List.set_cons_succ]
 refine wpAnyH_ready (rs := [3, 5]) (by kernel_rfl) (by simp) ?_
 refine AllReadyH.cons rfl (fun K hK => ?_) (AllReadyH.cons rfl (fun K hK => ?_) (AllReadyH.nil))
 ·skip
  simp only [List.getElem_toArray, List.getElem_cons_zero, List.getElem_cons_succ]
  rw [if_pos (by rfl)]
  refine wp_apps _ _ 115 rfl w2.heap.size 94 zpr 2 16 zpr_und infoPz rfl (by decide) (by decide) (.slice none 0 0) 0 [] (by rfl) (World.ownsRow_nil _ w2.heap.size 94 2) (.slice (cutA ao c 0 2) n c) n (pV l) (by rfl) (HRC.out _ HBE.out) (pV_one _) (by omega) HBE.out.size ?_
  intro v3 z3 ho3 hb3 hg3 hs3 hn3
  refine hK.out _ _ ?_ (fun hHeld => ?_)
  ·exact HSS.out _ (HBE.out.trans hb3)
  clear hK K
  try simp only [Act.put, List.setIfInBounds_toArray, List.set_cons_zero, List.set_cons_succ]
  have HO3 := Lib.hid ho3
  have HBE := Lib.hid (HBE.out.trans hb3)
  (try have HN5 := Lib.hid (((mods_own (v := .slice none 0 0) hg3).block _ (Array.getElem?_eq_some_iff.1 HN5.out).1 (by rw [ob_nil]; simp)).trans HN5.out))
  clear ho3 hb3 hg3 hs3 hn3
  refine wpAnyH_ready (rs := [5]) (by kernel_rfl) (by simp) ?_
  refine AllReadyH.cons rfl (fun K hK => ?_) (AllReadyH.nil)
  have hmm := run_buildSlice_one (P := Tryz.prog) z3 115 94 2 zpr [.int .u64 (key : Int), .int .u64 (val : Int)] zpr_und infoPr2 rfl rfl (by decide) (by decide)
  simp only [List.getElem_toArray, List.getElem_cons_zero, List.getElem_cons_succ]
  go_simp
  refine hK.out _ _ ?_ (fun hHeld => ?_)
  ·exact HSS.out _ (bthen HBE.out (balloc (Below.refl _ _) _))
  clear hK K
  try simp only [Act.put, List.setIfInBounds_toArray, List.set_cons_zero, List.set_cons_succ]
  clear hmm
  obtain ⟨y5, hy5⟩ : ∃ z, z3.alloc (.cells #[.int .u64 (key : Int), .int .u64 (val : Int)] 94) = z := ⟨_, rfl⟩
  obtain ⟨b5, hb5⟩ : ∃ b, z3.heap.size = b := ⟨_, rfl⟩
  have hx5 : Below z3.heap.size z3 y5 := by rw [← hy5]; exact balloc (Below.refl _ _) _
  have HN5 : Hid (y5.heap[b5]? = some (.cells #[.int .u64 (key : Int), .int .u64 (val : Int)] 94 (0, 0))) := Lib.hid (by rw [← hy5, ← hb5]; exact heap_alloc_new _ _)
  rw [hy5] at hHeld
  rw [hy5, hb5]
  have HBE := Lib.hid (bthen HBE.out hx5)
  (try have HO3 := Lib.hid (ownsRow_below HO3.out hx5))
  clear hx5 hy5 hb5
  refine wpAnyH_ready (rs := [6]) (by kernel_rfl) (by simp) ?_
  refine AllReadyH.cons rfl (fun K hK => ?_) (AllReadyH.nil)
  simp only [List.getElem_toArray, List.getElem_cons_zero, List.getElem_cons_succ]
  rw [if_pos (by rfl)]
  refine wp_apps _ _ 115 rfl w2.heap.size 94 zpr 2 16 zpr_und infoPz rfl (by decide) (by decide) v3 (0 + n) ([] ++ pV l) (by rfl) HO3.out (.slice (some ⟨b5, 0, none⟩) 1 1) 1 (pV [(key, val)]) (by rfl) (pr_one HN5.out) (pV_one _) (by omega) HBE.out.size ?_
  intro v6 z6 ho6 hb6 hg6 hs6 hn6
  refine hK.out _ _ ?_ (fun hHeld => ?_)
  ·exact HSS.out _ (HBE.out.trans hb6)
  clear hK K
  try simp only [Act.put, List.setIfInBounds_toArray, List.set_cons_zero, List.set_cons_succ]
  have HO6 := Lib.hid ho6
  have HBE := Lib.hid (HBE.out.trans hb6)
  clear ho6 hb6 hg6 hs6 hn6
  refine wpAnyH_take (i := 7) (v := ?_) rfl (by kernel_rfl) (by kernel_rfl) (by kernel_rfl) (fun _ _ _ h => h) (Or.inl ⟨by rfl, ?_⟩) (by assumption) ?_
  rotate_left
  ·(intro w hSw; (try dsimp only at hSw); simp only [List.getElem_toArray, List.getElem_cons_zero, List.getElem_cons_succ]; go_simp; first | done | with_reducible rfl)
  simp only [List.getElem_toArray, List.getElem_cons_zero, List.getElem_cons_succ, Act.put, List.setIfInBounds_toArray, List.set_cons_zero, List.set_cons_succ]
  refine wpAnyH_done (by kernel_rfl) ?_ _
  have HEND := Lib.hid hHeld.2
  have HSE := Lib.hid hHeld.1
  clear hHeld
  clear HSS HSE HEND
  have HO6 := Lib.hid HO6.out
  rw [Nat.zero_add, List.nil_append, ← pV_app] at HO6
  obtain ⟨a6, c6, rfl⟩ := row_sl2 HO6.out
  have hcut2 := fun W => run_cutL2 (P := Tryz.prog) W 115 ao n c 2 undLst szLst (n : Int) (by omega) (by omega)
  simp only [Int.toNat_natCast, Nat.sub_self] at hcut2
  have HB6 := Lib.hid (bthn HB2.out HBE.out)
  have HNL : Hid (Rd z6 2 (.slice (cutA ao c n 2) 0 (c - n)) 0 []) := Lib.hid (by
   have h9 := ((HR2.out.below HBE.out).cut (l := n) (k := n) (Nat.le_refl _) (Nat.le_refl _))
   rw [Nat.sub_self, Nat.zero_mul, List.take_zero] at h9
   exact h9)
  clear hcut
  go_upto_region 5 with fail
  apply wp_region_lit
  iterate 12 go_step
  refine wpL_met (by kernel_rfl) (fun K hK => wp_apps _ _ 115 rfl w2.heap.size 94 zpr 2 16 zpr_und infoPz rfl (by decide) (by decide) (.slice a6 (n + 1) c6) (n + 1) (pV (l ++ [(key, val)])) rfl HO6.out (.slice (cutA ao c n 2) 0 (c - n)) 0 [] rfl HNL.out (by simp) (by omega) HBE.out.size (fun v' w9 ho hb hgr hsn _ => hK _ _ ?_))
  rw [Nat.add_zero, List.append_nil] at ho
  obtain ⟨a9, c9, rfl⟩ := row_sl2 ho
  have HO9 := Lib.hid ho
  have HB9 := Lib.hid (HBE.out.trans hb)
  clear ho hb hgr hsn hK K hcut2
  go_wp2_with fail
  go_ret3
  exact ⟨_, rfl, ownsRow_base HO9.out HB2.out.size, HB2.out.trans (HB9.out.mono HB2.out.size)⟩
 ·skip
  have hmm := run_buildSlice_one (P := Tryz.prog) wd 115 94 2 zpr [.int .u64 (key : Int), .int .u64 (val : Int)] zpr_und infoPr2 rfl rfl (by decide) (by decide)
  simp only [List.getElem_toArray, List.getElem_cons_zero, List.getElem_cons_succ]
  go_simp
  refine hK.out _ _ ?_ (fun hHeld => ?_)
  ·exact HSS.out _ (bthen HBE.out (balloc (Below.refl _ _) _))
  clear hK K
  try simp only [Act.put, List.setIfInBounds_toArray, List.set_cons_zero, List.set_cons_succ]
  clear hmm
  obtain ⟨y5, hy5⟩ : ∃ z, wd.alloc (.cells #[.int .u64 (key : Int), .int .u64 (val : Int)] 94) = z := ⟨_, rfl⟩
  obtain ⟨b5, hb5⟩ : ∃ b, wd.heap.size = b := ⟨_, rfl⟩
  have hx5 : Below wd.heap.size wd y5 := by rw [← hy5]; exact balloc (Below.refl _ _) _
  have HN5 : Hid (y5.heap[b5]? = some (.cells #[.int .u64 (key : Int), .int .u64 (val : Int)] 94 (0, 0))) := Lib.hid (by rw [← hy5, ← hb5]; exact heap_alloc_new _ _)
  rw [hy5] at hHeld
  rw [hy5, hb5]
  have HBE := Lib.hid (bthen HBE.out hx5)
  (try have HO3 := Lib.hid (ownsRow_below HO3.out hx5))
  clear hx5 hy5 hb5
  refine wpAnyH_ready (rs := [3]) (by kernel_rfl) (by simp) ?_
  refine AllReadyH.cons rfl (fun K hK => ?_) (AllReadyH.nil)
  simp only [List.getElem_toArray, List.getElem_cons_zero, List.getElem_cons_succ]
  rw [if_pos (by rfl)]
  refine wp_apps _ _ 115 rfl w2.heap.size 94 zpr 2 16 zpr_und infoPz rfl (by decide) (by decide) (.slice none 0 0) 0 [] (by rfl) (World.ownsRow_nil _ w2.heap.size 94 2) (.slice (cutA ao c 0 2) n c) n (pV l) (by rfl) (HRC.out _ HBE.out) (pV_one _) (by omega) HBE.out.size ?_
  intro v3 z3 ho3 hb3 hg3 hs3 hn3
  refine hK.out _ _ ?_ (fun hHeld => ?_)
  ·exact HSS.out _ (HBE.out.trans hb3)
  clear hK K
  try simp only [Act.put, List.setIfInBounds_toArray, List.set_cons_zero, List.set_cons_succ]
  have HO3 := Lib.hid ho3
  have HBE := Lib.hid (HBE.out.trans hb3)
  (try have HN5 := Lib.hid (((mods_own (v := .slice none 0 0) hg3).block _ (Array.getElem?_eq_some_iff.1 HN5.out).1 (by rw [ob_nil]; simp)).trans HN5.out))
  clear ho3 hb3 hg3 hs3 hn3
  refine wpAnyH_ready (rs := [6]) (by kernel_rfl) (by simp) ?_
  refine AllReadyH.cons rfl (fun K hK => ?_) (AllReadyH.nil)
  simp only [List.getElem_toArray, List.getElem_cons_zero, List.getElem_cons_succ]
  rw [if_pos (by rfl)]
  refine wp_apps _ _ 115 rfl w2.heap.size 94 zpr 2 16 zpr_und infoPz rfl (by decide) (by decide) v3 (0 + n) ([] ++ pV l) (by rfl) HO3.out (.slice (some ⟨b5, 0, none⟩) 1 1) 1 (pV [(key, val)]) (by rfl) (pr_one HN5.out) (pV_one _) (by omega) HBE.out.size ?_
  intro v6 z6 ho6 hb6 hg6 hs6 hn6
  refine hK.out _ _ ?_ (fun hHeld => ?_)
  ·exact HSS.out _ (HBE.out.trans hb6)
  clear hK K
  try simp only [Act.put, List.setIfInBounds_toArray, List.set_cons_zero, List.set_cons_succ]
  have HO6 := Lib.hid ho6
  have HBE := Lib.hid (HBE.out.trans hb6)
  clear ho6 hb6 hg6 hs6 hn6
  refine wpAnyH_take (i := 7) (v := ?_) rfl (by kernel_rfl) (by kernel_rfl) (by kernel_rfl) (fun _ _ _ h => h) (Or.inl ⟨by rfl, ?_⟩) (by assumption) ?_
  rotate_left
  ·(intro w hSw; (try dsimp only at hSw); simp only [List.getElem_toArray, List.getElem_cons_zero, List.getElem_cons_succ]; go_simp; first | done | with_reducible rfl)
  simp only [List.getElem_toArray, List.getElem_cons_zero, List.getElem_cons_succ, Act.put, List.setIfInBounds_toArray, List.set_cons_zero, List.set_cons_succ]
  refine wpAnyH_done (by kernel_rfl) ?_ _
  have HEND := Lib.hid hHeld.2
  have HSE := Lib.hid hHeld.1
  clear hHeld
  clear HSS HSE HEND
  have HO6 := Lib.hid HO6.out
  rw [Nat.zero_add, List.nil_append, ← pV_app] at HO6
  obtain ⟨a6, c6, rfl⟩ := row_sl2 HO6.out
  have hcut2 := fun W => run_cutL2 (P := Tryz.prog) W 115 ao n c 2 undLst szLst (n : Int) (by omega) (by omega)
  simp only [Int.toNat_natCast, Nat.sub_self] at hcut2
  have HB6 := Lib.hid (bthn HB2.out HBE.out)
  have HNL : Hid (Rd z6 2 (.slice (cutA ao c n 2) 0 (c - n)) 0 []) := Lib.hid (by
   have h9 := ((HR2.out.below HBE.out).cut (l := n) (k := n) (Nat.le_refl _) (Nat.le_refl _))
   rw [Nat.sub_self, Nat.zero_mul, List.take_zero] at h9
   exact h9)
  clear hcut
  go_upto_region 5 with fail
  apply wp_region_lit
  iterate 12 go_step
  refine wpL_met (by kernel_rfl) (fun K hK => wp_apps _ _ 115 rfl w2.heap.size 94 zpr 2 16 zpr_und infoPz rfl (by decide) (by decide) (.slice a6 (n + 1) c6) (n + 1) (pV (l ++ [(key, val)])) rfl HO6.out (.slice (cutA ao c n 2) 0 (c - n)) 0 [] rfl HNL.out (by simp) (by omega) HBE.out.size (fun v' w9 ho hb hgr hsn _ => hK _ _ ?_))
  rw [Nat.add_zero, List.append_nil] at ho
  obtain ⟨a9, c9, rfl⟩ := row_sl2 ho
  have HO9 := Lib.hid ho
  have HB9 := Lib.hid (HBE.out.trans hb)
  clear ho hb hgr hsn hK K hcut2
  go_wp2_with fail
  go_ret3
  exact ⟨_, rfl, ownsRow_base HO9.out HB2.out.size, HB2.out.trans (HB9.out.mono HB2.out.size)⟩
end Go.Proofs.YtgmahhdnjikdjaaGreat
/- slices.Delete at uint64, walked. -/
namespace Go.Proofs.YtgmahhdnjikdjaaGreat
open Go.RowKit Go.Maps Wire
set_option linter.unusedVariables false
set_option linter.unusedSimpArgs false
theorem mods_grown {w w' : World} {g : Nat} (h : w.grownBy w' (some g)) : Mods [g] w w' := ⟨h.os, h.tape, h.output, h.size, fun i hi hne => h.block i hi (fun e => hne (by simp [Option.some.inj e]))⟩
end Go.Proofs.YtgmahhdnjikdjaaGreat
/- btree.drop of a leaf, walked. -/
namespace Go.Proofs.YtgmahhdnjikdjaaGreat
open Go.RowKit Go.Maps Wire
set_option linter.unusedVariables false
set_option linter.unusedSimpArgs false
/-- A leaf without its i-th key. -/
def Nd.cut (y : Nd) (i : Nat) : Nd := { y with keys := y.keys.eraseIdx i, vals := y.vals.eraseIdx i }
theorem Nd.Ok.cut {y : Nd} (h : y.Ok) (hr : Rises y.keys) (i : Nat) : (y.cut i).Ok := by
 refine ⟨h.k, Nat.le_trans (List.eraseIdx_sublist _ _).length_le h.n, ?_, ?_, fun x hx => h.ku x ((List.eraseIdx_sublist _ _).subset hx), fun x hx => h.vu x ((List.eraseIdx_sublist _ _).subset hx)⟩
 ·show (y.vals.eraseIdx i).length = (y.keys.eraseIdx i).length
  rw [List.length_eraseIdx, List.length_eraseIdx, h.m]
 ·intro p a b ha hb
  have ha : (y.keys.eraseIdx i)[p]? = some a := ha
  have hb : (y.keys.eraseIdx i)[p + 1]? = some b := hb
  rw [List.getElem?_eraseIdx] at ha hb
  split at ha <;> split at hb
  ·exact hr _ _ a b (by omega) ha hb
  ·exact hr _ _ a b (by omega) ha hb
  ·omega
  ·exact hr _ _ a b (by omega) ha hb
theorem infoCh : (Tryz.prog.info? 167).map (·.size) = some 6 := by kernel_rfl
/-- What drop leaves. -/
def DropP (w : World) (S B pm pd mf md : Nat) (s : Su) (A D : M) (Fm Fd : List Nat) (l : List (Nat × (NdV × Nd))) (i : Nat) (y : Nd) (j v : Nat) (e : Ending) (w' : World) : Prop :=
 ∃ x, e = .returned (.tuple #[.agg #[.int .u32 (i : Int), .int .u32 0, .int .u64 ((y.cut j).keys.getD 0 0 : Nat), .int .u64 0, .int .u64 (v : Int), .bool true], .int .i64 ((y.keys.length - 1 : Nat) : Int), .int .i64 0]) ∧ StF w' S B pm pd mf md s A D Fm Fd (putA i (x, y.cut j) l) ∧ Mods [mf] w w' ∧ ∀ k ∈ obN x, w.heap.size ≤ k
theorem row_slx {w : World} {base n : Nat} {e : TypeId} {v : Value} {xs : List Value} (h : w.ownsRow base e 1 v n xs) : ∃ a c, v = .slice a n c := by
 obtain ⟨g, c, rfl⟩ := row_slO h
 exact ⟨_, _, rfl⟩
end Go.Proofs.YtgmahhdnjikdjaaGreat
/- A region that draws its order and ends in stores: a condition on the world that holds up to the first of these. -/
namespace Go.Proofs.YtgmahhdnjikdjaaGreat
open Go.RowKit
set_option linter.unusedVariables false
section
variable {P : Program} {ops : Array Oper} {Q : Exit → Act → World → Prop} {md : Region.Mode} {S : World → Prop} {L : List Nat}
/-- None of L has come up. -/
def Ahead (L : List Nat) (listed : Array Bool) : Prop := ∀ l ∈ L, listed.getD l true = false
/-- Whatever order is picked; S holds behind each operation as long as none of L has come up. -/
def wpAnyL (P : Program) (md : Region.Mode) (ops : Array Oper) (Q : Exit → Act → World → Prop) (S : World → Prop) (L : List Nat) : Nat → Array Bool → Act → World → Prop
 | 0, listed, a, w => Region.ready md ops listed = [] ∧ Q .normal a w
 | f + 1, listed, a, w => (Region.ready md ops listed = [] → Q .normal a w) ∧
  ∀ i ∈ Region.ready md ops listed, wpOp P ops Q i (fun a' w' => ((Ahead L listed ∧ i ∉ L) → S w') ∧ wpAnyL P md ops Q S L f (listed.setIfInBounds i true) a' w') a w
theorem wpAny_of_L : ∀ (f : Nat) (listed : Array Bool) (a : Act) (w : World), wpAnyL P md ops Q S L f listed a w → wpAny P md ops Q f listed a w
 | 0, _, _, _, h => h
 | f + 1, _, _, _, h => ⟨h.1, fun i hi => wpOp_mono (fun a' w' h' => wpAny_of_L f _ a' w' h'.2) (h.2 i hi)⟩
/-- All of C wait for i, or for others of C; L is of them. -/
def chainB (md : Region.Mode) (ops : Array Oper) (C L : List Nat) (i : Nat) : Bool :=
 L.all (fun l => C.contains l) && C.all fun c => c != i && match ops[c]? with
  | none => true
  | some o => o.after.any fun e => Region.binds md e && (e.on == i || C.contains e.on)
theorem chain_not {C : List Nat} {i j : Nat} {listed : Array Bool} (h : chainB md ops C L i = true) (hC : Ahead C listed) (hi : listed.getD i true = false) (hj : j ∈ Region.ready md ops listed) : j ∉ C := by
 intro hjc
 obtain ⟨_, o, ho, hall⟩ := mem_ready.1 hj
 unfold chainB at h
 simp only [Bool.and_eq_true, List.all_eq_true] at h
 have h1 := (h.2 j hjc).2
 rw [ho] at h1
 obtain ⟨k, hk, he⟩ := Array.any_eq_true.1 h1
 simp only [Bool.and_eq_true, Bool.or_eq_true, beq_iff_eq, List.contains_iff_mem] at he
 have h2 := hall _ (Array.getElem_mem hk) he.1
 have hun : ∀ m, listed.getD m true = false → listed.getD m false = true → False := fun m a b => by
  rcases Nat.lt_or_ge m listed.size with h' | h'
  ·simp [h'] at a b; rw [a] at b; cases b
  ·simp [Array.getElem?_eq_none h'] at b
 rcases he.2 with e | e
 ·rw [e] at h2; exact hun i hi h2
 ·exact hun _ (hC _ e) h2
theorem wpAnyL_first {i : Nat} {oi : Oper} {v : Value} {C : List Nat} (hi : ops[i]? = some oi) (hsel : ∀ (j : Nat) (o : Oper) cs b, ops[j]? = some o → o.op ≠ .select cs b)
  (hQ : ∀ c a w, Q (.panic c) (a.put oi.dst v) w → Q (.panic c) a w) (hc : chainB md ops C L i = true) : ∀ (f : Nat) (listed : Array Bool) (a : Act) (w : World),
   (∀ j oj, ops[j]? = some oj → j ≠ i → listed.getD j true = false → (∀ e ∈ oj.after, Region.binds md e = true → e.on ≠ i) → oi.apart ops oj = true) →
   i ∈ Region.ready md ops listed → Ahead C listed → YieldsIf P ops S oi v a → S w →
   wpAnyL P md ops Q S L f (listed.setIfInBounds i true) (a.put oi.dst v) w → wpAnyL P md ops Q S L (f + 1) listed a w := by
 have hLC : ∀ l ∈ L, l ∈ C := fun l hl => by
  unfold chainB at hc
  simp only [Bool.and_eq_true, List.all_eq_true, List.contains_iff_mem] at hc
  exact hc.1 l hl
 have hCi : ∀ c ∈ C, c ≠ i := fun c hcc => by
  unfold chainB at hc
  simp only [Bool.and_eq_true, List.all_eq_true, bne_iff_ne] at hc
  exact (hc.2 c hcc).1
 intro f
 induction f with
 | zero =>
  intro listed a w _ hr _ hy hS H
  refine ⟨fun h => (by rw [h] at hr; cases hr), fun j hj => ?_⟩
  by_cases hji : j = i
  ·subst hji; exact hy.wpOp hi hS ⟨fun _ => hS, H⟩
  ·have h0 := ready_mono hj hji
   rw [H.1] at h0
   cases h0
 | succ f ih =>
  intro listed a w hfree hr hC hy hS H
  refine ⟨fun h => (by rw [h] at hr; cases hr), fun j hj => ?_⟩
  by_cases hji : j = i
  ·subst hji; exact hy.wpOp hi hS ⟨fun _ => hS, H⟩
  ·have hi0 := (mem_ready.1 hr).1
   have hjC := chain_not hc hC hi0 hj
   obtain ⟨hjun, oj, hoj, hall⟩ := mem_ready.1 hj
   have hnot : ∀ e ∈ oj.after, Region.binds md e = true → e.on ≠ i := fun e he hb heq => by
    have h1 := hall e he hb
    rw [heq] at h1
    rcases Nat.lt_or_ge i listed.size with h' | h'
    ·simp [h'] at hi0 h1; rw [hi0] at h1; cases h1
    ·simp [Array.getElem?_eq_none h'] at h1
   have h2 := wpOp_putIf hoj (hfree j oj hoj hji hjun hnot) (fun cs b => hsel i oi cs b hi) (fun cs b => hsel j oj cs b hoj) hQ hy (H.2 j (ready_mono hj hji))
   refine wpOp_mono (fun a' w' h3 => ?_) h2
   have hSw : S w' := h3.2.1 ⟨fun l hl => by rw [getD_set_ne true (Ne.symm (hCi l (hLC l hl)))]; exact hC l (hLC l hl), fun hl => hjC (hLC j hl)⟩
   refine ⟨fun _ => hSw, ih (listed.setIfInBounds j true) a' w' (fun k ok hk hki hun hno => ?_) (ready_mono hr (Ne.symm hji)) (fun c hcc => ?_) h3.1 hSw ?_⟩
   ·refine hfree k ok hk hki ?_ hno
    by_cases hjk : j = k
    ·subst hjk; exact hjun
    ·rw [getD_set_ne true hjk] at hun; exact hun
   ·rw [getD_set_ne true (fun (e : j = c) => hjC (by rw [e]; exact hcc))]; exact hC c hcc
   ·rw [Array.setIfInBounds_comm _ _ hji]; exact h3.2.2
/-- Number i is taken first. -/
theorem wpAnyL_take (C : List Nat) {i : Nat} {oi : Oper} {v : Value} {f : Nat} {listed : Array Bool} {a : Act} {w : World} (hi : ops[i]? = some oi)
  (hs : Region.noSelect ops = true) (hf : Region.free md ops listed i = true) (hr : (Region.ready md ops listed).contains i = true)
  (hc : chainB md ops C L i = true) (hC : C.all (fun c => !(listed.getD c true)) = true)
  (hQ : ∀ c a w, Q (.panic c) (a.put oi.dst v) w → Q (.panic c) a w) (hy : YieldsIf P ops S oi v a) (hS : S w)
  (h : wpAnyL P md ops Q S L f (listed.setIfInBounds i true) (a.put oi.dst v) w) : wpAnyL P md ops Q S L (f + 1) listed a w :=
 wpAnyL_first hi (Region.noSelect_spec hs) hQ hc f listed a w (Region.free_spec hi hf) (by simpa using hr) (fun c hcc => by simpa using List.all_eq_true.1 hC c hcc) hy hS h
def AllReadyL (P : Program) (md : Region.Mode) (ops : Array Oper) (Q : Exit → Act → World → Prop) (S : World → Prop) (L : List Nat) (f : Nat) (listed : Array Bool) (a : Act) (w : World) (rs : List Nat) : Prop :=
 ∀ i ∈ rs, wpOp P ops Q i (fun a' w' => ((Ahead L listed ∧ i ∉ L) → S w') ∧ wpAnyL P md ops Q S L f (listed.setIfInBounds i true) a' w') a w
theorem AllReadyL.nil {f : Nat} {listed : Array Bool} {a : Act} {w : World} : AllReadyL P md ops Q S L f listed a w [] := fun _ h => by cases h
theorem AllReadyL.cons {f : Nat} {listed : Array Bool} {a : Act} {w : World} {i : Nat} {o : Oper} {rs : List Nat} (ho : ops[i]? = some o)
  (h : ∀ K' : Act → World → Prop, Shut (∀ a w, S w → (S w → wpAnyL P md ops Q S L f (listed.setIfInBounds i true) a w) → K' a w) → if Region.wanted o (yielded ops a.tmps) = true then Oper.wp P o a w K' Q else K' (a.put o.dst undef) w)
  (hs : AllReadyL P md ops Q S L f listed a w rs) : AllReadyL P md ops Q S L f listed a w (i :: rs) := fun j hj => by
 rcases List.mem_cons.1 hj with rfl | hj
 ·exact wpOp_step ho (fun K' hK => h K' (fun a w hS hW => hK a w ⟨fun _ => hS, hW hS⟩))
 ·exact hs j hj
/-- One of L, or behind one of L: S is not asked. -/
theorem AllReadyL.late {f : Nat} {listed : Array Bool} {a : Act} {w : World} {i : Nat} {o : Oper} (ho : ops[i]? = some o) (hl : (L.contains i || L.any (fun l => listed.getD l true)) = true)
  (h : ∀ K' : Act → World → Prop, Shut (∀ a w, wpAnyL P md ops Q S L f (listed.setIfInBounds i true) a w → K' a w) → if Region.wanted o (yielded ops a.tmps) = true then Oper.wp P o a w K' Q else K' (a.put o.dst undef) w) :
  AllReadyL P md ops Q S L f listed a w [i] := fun j hj => by
 obtain rfl := List.mem_singleton.1 hj
 refine wpOp_step ho (fun K' hK => h K' (fun a w hW => hK a w ⟨fun hh => ?_, hW⟩))
 exfalso
 rcases Bool.or_eq_true_iff.1 hl with h1 | h1
 ·exact hh.2 (by simpa using h1)
 ·obtain ⟨l, hl, hb⟩ := List.any_eq_true.1 h1
  rw [hh.1 l hl] at hb
  cases hb
theorem wpAnyL_ready {rs : List Nat} {f : Nat} {listed : Array Bool} {a : Act} {w : World} (hr : Region.ready md ops listed = rs) (hne : rs ≠ [])
  (h : AllReadyL P md ops Q S L f listed a w rs) : wpAnyL P md ops Q S L (f + 1) listed a w := ⟨fun h0 => absurd (hr ▸ h0) hne, hr ▸ h⟩
theorem wpAnyL_done {listed : Array Bool} {a : Act} {w : World} (hr : Region.ready md ops listed = []) (h : Q .normal a w) : ∀ f, wpAnyL P md ops Q S L f listed a w
 | 0 => ⟨hr, h⟩
 | _ + 1 => ⟨fun _ => h, by rw [hr]; simp⟩
theorem wp_region_late (L : List Nat) {id : Nat} {a : Act} {w : World} (hm : P.follows .mixedOrders = true) (hS : S w.drew)
  (h : S w.drew → wpAnyL P .any ops Q S L ops.size (Array.replicate ops.size false) a w.drew) : (Code.region id ops true).wp P Q a w :=
 wp_region_any hm (wpAny_of_L _ _ _ _ (h hS))
end
end Go.Proofs.YtgmahhdnjikdjaaGreat
/- slices.Insert at a row's end; cut of a node that is not too long, walked. -/
namespace Go.Proofs.YtgmahhdnjikdjaaGreat
open Go.RowKit Go.Maps Wire
set_option linter.unusedVariables false
set_option linter.unusedSimpArgs false
set_option maxRecDepth 100000 in
set_option maxHeartbeats 6400000 in
theorem sins_end {w : World} {base n : Nat} {v : Value} {xs : List Nat} (h : w.ownsRow base 26 1 v n (qV xs)) (hn1 : 1 ≤ n) (hn : n ≤ 1000) (hb : base ≤ w.heap.size) (b k : Nat) (hk : w.heap[b]? = some (.cells #[.int .u64 (k : Int)] 26 (0, 0))) :
  Calls Tryz.prog 126 #[v, .int .i64 (n : Int), .slice (some ⟨b, 0, none⟩) 1 1] w fun e w' => ∃ v', e = .returned v' ∧ w'.ownsRow base 26 1 v' (n + 1) (qV (xs ++ [k])) ∧ Mods (ob v) w w' ∧ ∀ j ∈ ob v', j ∈ ob v ∨ w.heap.size ≤ j := by
 obtain ⟨g, c, cur, rfl, hg0, hgl, hnc, hcm, hx, hsz, htk⟩ := rowSome h (by omega)
 have HH := Lib.hid h
 have HK := Lib.hid hk
 have HB := Lib.hid hb
 have q1 : (0 : Int) ≤ (n : Int) := by omega
 have q2 : (n : Int) ≤ (n : Int) := by omega
 have q3 : (n : Int) ≤ (c : Int) := by omega
 clear h hk hb hx hsz htk hg0 hgl hcm
 by_cases hcn : n = c
 ·subst hcn
  go_enter Tryz.func126, Tryz.ntmps126
  go_upto_region 7 with fail
  apply wp_region_lit
  iterate 6 go_step
  refine wpL_met (by kernel_rfl) (fun K hK => wp_apps _ _ 157 rfl base 26 (.int .u64 0) 1 8 Tryz.underlying157 infoU64 rfl (by decide) (by decide) (.slice (some ⟨g, 0, none⟩) n _) n (qV xs) rfl HH.out (.slice (some ⟨b, 0, none⟩) 1 1) 1 (qV [k]) rfl (rd_one HK.out) (qV_one _) (by omega) HB.out (fun v' w5 ho hb5 hgr hsn _ => hK _ _ ?_))
  obtain ⟨a5, c5, rfl⟩ := row_slx ho
  have HO := Lib.hid ho
  have HG := Lib.hid hgr
  have HS := Lib.hid hsn
  clear ho hb5 hgr hsn hK K
  go_wp2_with fail
  go_ret
  refine ⟨.slice a5 (n + 1) c5, rfl, ?_, mods_grown HG.out, fun j hj => ?_⟩
  ·rw [show qV (xs ++ [k]) = qV xs ++ qV [k] from by simp [qV]]
   exact HO.out
  ·rcases HS.out with e | ⟨g', e, hg⟩
   ·left
    unfold ob
    rw [← e]
    exact hj
   ·right
    unfold ob at hj
    rw [e] at hj
    simp at hj
    omega
 ·have hcn2 : ¬ c = n := fun e => hcn e.symm
  go_enter Tryz.func126, Tryz.ntmps126
  go_upto_region 7 with fail
  apply wp_region_lit
  iterate 6 go_step
  refine wpL_met (by kernel_rfl) (fun K hK => wp_apps _ _ 157 rfl base 26 (.int .u64 0) 1 8 Tryz.underlying157 infoU64 rfl (by decide) (by decide) (.slice (some ⟨g, 0, none⟩) n _) n (qV xs) rfl HH.out (.slice (some ⟨b, 0, none⟩) 1 1) 1 (qV [k]) rfl (rd_one HK.out) (qV_one _) (by omega) HB.out (fun v' w5 ho hb5 hgr hsn _ => hK _ _ ?_))
  obtain ⟨a5, c5, rfl⟩ := row_slx ho
  have HO := Lib.hid ho
  have HG := Lib.hid hgr
  have HS := Lib.hid hsn
  clear ho hb5 hgr hsn hK K
  go_wp2_with fail
  go_ret
  refine ⟨.slice a5 (n + 1) c5, rfl, ?_, mods_grown HG.out, fun j hj => ?_⟩
  ·rw [show qV (xs ++ [k]) = qV xs ++ qV [k] from by simp [qV]]
   exact HO.out
  ·rcases HS.out with e | ⟨g', e, hg⟩
   ·left
    unfold ob
    rw [← e]
    exact hj
   ·right
    unfold ob at hj
    rw [e] at hj
    simp at hj
    omega
set_option maxRecDepth 100000 in
set_option maxHeartbeats 3200000 in
theorem tcut_no (w : World) (u v kd bb s2 : Value) (q n1 c1 : Nat) (a1 : Option Addr) (hx : w.heap[q]? = some (.cells #[kd, bb, .slice a1 n1 c1, s2] 159 (0, 0))) (h6 : n1 ≤ 6) :
  Calls Tryz.prog 127 #[u, .pointer (some ⟨q, 0, none⟩), v] w fun e w' => e = .returned (.int .i64 0) ∧ w = w' := by
 have d2 := cellOf hx 2 (v := .slice a1 n1 c1) rfl
 have h6' : decide ((n1 : Int) ≤ 6) = true := by simp; omega
 clear hx
 go_enter Tryz.func127, Tryz.ntmps127
 go_wp2_with fail
 go_ret
 exact ⟨rfl, rfl⟩
end Go.Proofs.YtgmahhdnjikdjaaGreat
