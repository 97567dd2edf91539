import Derived.Test.YtgmahhdnjikdjaaGreatPG17
import Derived.Test.YtgmahhdnjikdjaaGreatPG11
set_option linter.unusedVariables false
set_option linter.unusedSimpArgs false
/- block: Of, of what is no node's, walked. (Printed by mkrn1.py.) -/
namespace Go.Proofs.YtgmahhdnjikdjaaGreat
open Go.RowKit Wire
set_option linter.unusedVariables false
set_option linter.unusedSimpArgs false
theorem tag_neB {w : World} {j k : Nat} {cs ds : Array Value} {e f : TypeId} {a b : Nat × Nat} (h1 : w.heap[j]? = some (.cells cs e a)) (h2 : w.heap[k]? = some (.cells ds f b)) (hne : e ≠ f) : j ≠ k := by
 rintro rfl
 rw [h1] at h2
 exact hne (Obj.cells.inj (Option.some.inj h2)).2.1
theorem rdc1 {X : World} {g : Nat} {t : TypeId} {x : Value} (h : X.heap[g]? = some (.cells #[x] t (0, 0))) : Rd X 1 (.slice (some ⟨g, 0, none⟩) 1 1) 1 [x] := by
 have h1 := rdCells (X := X) (g := g) (n := 1) (size := 1) h rfl (by omega)
 exact h1
theorem bget_next {w : World} {qb qa a x : Nat} {R : List UInt8} (h : GetS w qb qa a R) (hn : qb ≠ qa) (hl : R.length = 256) (hak : a + 8 ≤ 256) (hg : getN 8 (R.drop a) = x) :
  Calls Tryz.prog 155 #[.pointer (some ⟨qb, 0, none⟩), .pointer (some ⟨qa, 0, none⟩)] w fun e w' => e = .returned (.int .u64 (x : Int)) ∧ GetS w' qb qa (a + 8) R ∧ Mods [qa] w w' :=
 (bget_at w qb qa a R h.1 hl h.2 hak).mono fun e w' hp => by
  obtain ⟨h1, rfl⟩ := hp
  rw [hg] at h1
  exact ⟨h1, ⟨(Below.heap_setCell w ⟨qa, 0, none⟩ _ qb hn).trans h.1, by
   have := setOf h.2 0 (.int .i64 ((a + 8 : Nat) : Int))
   exact this⟩, (Mods.refl _ _).setCell (p := ⟨qa, 0, none⟩) (List.mem_singleton.2 rfl) _⟩
theorem GetS.below {w w' : World} {qb qa a : Nat} {R : List UInt8} (h : GetS w qb qa a R) (hb : Below w.heap.size w w') : GetS w' qb qa a R :=
 ⟨(hb.block _ (Array.getElem?_eq_some_iff.1 h.1).1).trans h.1, (hb.block _ (Array.getElem?_eq_some_iff.1 h.2).1).trans h.2⟩
/-- What stands behind so many keys and values. -/
def BfS (w0 : Nat) (W : World) (qb qa g a : Nat) (R : List UInt8) (kd bb : Int) (n1 n2 : Nat) : Prop := ∃ v1 v2 L1 L2, GetS W qb qa a R ∧ W.heap[g]? = some (.cells #[.int .i64 kd, .int .u64 bb, v1, v2] 159 (0, 0)) ∧ W.ownsRow w0 26 1 v1 n1 L1 ∧ W.ownsRow w0 26 1 v2 n2 L2 ∧ ∀ k ∈ ob v1, k ∉ ob v2
/-- Behind an append. -/
def BfM (w0 : Nat) (W Z : World) (qb qa a : Nat) (R : List UInt8) (v v' : Value) (n : Nat) : Prop := GetS Z qb qa a R ∧ Mods (qa :: ob v) W Z ∧ (∃ L, Z.ownsRow w0 26 1 v' n L) ∧ ∀ k ∈ ob v', k ∈ ob v ∨ W.heap.size ≤ k
theorem bf_mid {w0 : Nat} {W Y Z : World} {qb qa a n : Nat} {R : List UInt8} {v v' : Value} {L L' : List Value} (ho : W.ownsRow w0 26 1 v n L) (hna : qa ∉ ob v) (hg : GetS Y qb qa a R) (hm : Mods [qa] W Y) (ho' : Z.ownsRow w0 26 1 v' (n + 1) L') (hc : Chg (ob v) Y Z (ob v')) : BfM w0 W Z qb qa a R v v' (n + 1) := by
 have hoY : Y.ownsRow w0 26 1 v n L := ownsRow_at ho (fun k hk => hm.block k (ownsRow_lt ho k hk) (fun hh => hna (by rw [← List.mem_singleton.1 hh]; exact hk)))
 refine ⟨hg.keep hc.1 (ob_tag hoY hg.1 (by decide)) (ob_tag hoY hg.2 (by decide)), ?_, ⟨_, ho'⟩, fun k hk => ?_⟩
 ·exact (hm.mono (fun k hk => by rw [List.mem_singleton.1 hk]; exact List.mem_cons_self ..)).trans hc.1 (fun k hk => .inl (List.mem_cons_of_mem _ hk))
 ·rcases hc.2 k hk with h | h
  ·exact .inl h
  ·exact .inr (Nat.le_trans hm.size h)
theorem bf_below {s W Z : World} {qb qa g a n n0 : Nat} {R : List UInt8} {v v' : Value} {L : List Value} (hb : Below s.heap.size s W) (h : BfM s.heap.size W Z qb qa a R v v' n) (ho : W.ownsRow s.heap.size 26 1 v n0 L) (hq : s.heap.size ≤ qa ∧ s.heap.size ≤ g) (j : Nat) (u : Value) : Below s.heap.size s (Z.setCell ⟨g, j, none⟩ u) := by
 refine (hb.trans (h.2.1.below (fun k hk => ?_) hb.size)).setCell (p := ⟨g, j, none⟩) hq.2 u
 rcases List.mem_cons.1 hk with rfl | hk
 ·exact hq.1
 ·rcases ho.2 with ⟨rfl, _⟩ | ⟨g', cap, cur, rfl, hg, _⟩
  ·simp [ob_nil] at hk
  ·rw [ob_some] at hk
   rw [show k = g' by simpa using hk]
   exact hg
theorem bf_tail {w0 : Nat} {W Z : World} {qb qa g a n n0 n1 n2 : Nat} {R : List UInt8} {kd bb : Int} {v v' vo v1 v2 : Value} {L Lo : List Value} (h : BfM w0 W Z qb qa a R v v' n) (ho : W.ownsRow w0 26 1 v n1 L) (hx : W.heap[g]? = some (.cells #[.int .i64 kd, .int .u64 bb, v1, v2] 159 (0, 0))) (hga : g ∉ qa :: ob v) (hgs : GetS W qb qa n0 R) (hoo : W.ownsRow w0 26 1 vo n2 Lo) (hd : ∀ k ∈ ob vo, k ∉ ob v) (j : Nat) (u : Value) :
  GetS (Z.setCell ⟨g, j, none⟩ u) qb qa a R ∧ (Z.setCell ⟨g, j, none⟩ u).heap[g]? = some (.cells ((#[.int .i64 kd, .int .u64 bb, v1, v2] : Array Value).setIfInBounds j u) 159 (0, 0)) ∧ (∃ L, (Z.setCell ⟨g, j, none⟩ u).ownsRow w0 26 1 v' n L) ∧ (Z.setCell ⟨g, j, none⟩ u).ownsRow w0 26 1 vo n2 Lo ∧ ∀ k ∈ ob v', k ∉ ob vo := by
 obtain ⟨h1, h2, ⟨L', h3⟩, h4⟩ := h
 have hxZ := (h2.block g (Array.getElem?_eq_some_iff.1 hx).1 hga).trans hx
 have hms : Mods [g] Z (Z.setCell ⟨g, j, none⟩ u) := (Mods.refl _ _).setCell (p := ⟨g, j, none⟩) (List.mem_singleton.2 rfl) _
 have hoZ : Z.ownsRow w0 26 1 vo n2 Lo := ownsRow_at hoo (fun k hk => h2.block k (ownsRow_lt hoo k hk) (fun hh => by
  rcases List.mem_cons.1 hh with rfl | hh
  ·exact ob_tag hoo hgs.2 (by decide) hk
  ·exact hd k hk hh))
 have key : ∀ {vv : Value} {nn : Nat} {LL : List Value}, Z.ownsRow w0 26 1 vv nn LL → (Z.setCell ⟨g, j, none⟩ u).ownsRow w0 26 1 vv nn LL := fun {vv nn LL} hh => ownsRow_at hh (fun k hk => hms.block k (ownsRow_lt hh k hk) (fun h9 => ob_tag hh hxZ (by decide) (by rw [← List.mem_singleton.1 h9]; exact hk)))
 refine ⟨h1.keep hms (fun h9 => ?_) (fun h9 => ?_), setOf hxZ j u, ⟨L', key h3⟩, key hoZ, fun k hk hk2 => ?_⟩
 ·exact tag_neB h1.1 hxZ (by decide) (List.mem_singleton.1 h9)
 ·exact tag_neB h1.2 hxZ (by decide) (List.mem_singleton.1 h9)
 ·rcases h4 k hk with h | h
  ·exact hd k hk2 h
  ·have := ownsRow_lt hoo k hk2
   omega
/-- What no node is answers. -/
def ndZL : List Value := [.int .i64 0, .int .u64 0, .slice none 0 0, .slice none 0 0]
theorem res_nd2 {fn : Func} {p u : Tmp} (h : fn.results = #[.cell p 159, .tmp u]) (tmps : Array Value) (w : World) (g : Nat) (L : List Value) (x : Value) (hp : tmps.getD p undef = .pointer (some ⟨g, 0, none⟩)) (hx : tmps.getD u undef = x) (hr : w.rangeAt g 0 L) (hl : (Tryz.prog.info? 159).map (·.size) = some L.length) :
  (results fn tmps).run Tryz.prog w = .ok (.tuple #[.agg L.toArray, x]) w := by
 rw [results_cell_tmp h, hp, hx]
 have := run_loadVar_mid (P := Tryz.prog) w g 0 159 L _ hr Tryz.underlying159 rfl hl
 simp only [asAddr, Sem.run_pure, Result.andThen_ok, this]
set_option maxRecDepth 100000 in
set_option maxHeartbeats 12800000 in
theorem bof_bad (w : World) (no : Int) (R : List UInt8) (hrl : R.length = 256) (k4 k5 : Nat) (h4 : ∃ c, R[4]? = some c ∧ c.toNat = k4) (h5 : ∃ c, R[5]? = some c ∧ c.toNat = k5) (hk : k4 < 1 ∨ 3 < k4) :
  Calls Tryz.prog 112 #[.int .u32 no, bA R] w fun e w' => e = .returned (.tuple #[.agg ndZL.toArray, .int .i64 4]) ∧ Below w.heap.size w w' := by
 have HRL := Lib.hid hrl
 have CBK : Hid (∀ X bb v1 v2, Calls Tryz.prog 110 #[.int .u32 no, .agg #[.int .i64 (k4 : Int), .int .u64 bb, v1, v2]] X fun e w' => e = .returned (.tuple #[bA (zeros 256), .int .i64 2]) ∧ Below X.heap.size X w') := Lib.hid (fun X bb v1 v2 => bblock_no X no k4 (by omega) bb v1 v2)
 obtain ⟨RZ, hRZ⟩ : ∃ x, zeros 256 = x := ⟨_, rfl⟩
 have HZL : Hid (RZ.length = 256) := Lib.hid (by rw [← hRZ]; exact List.length_replicate)
 rw [hRZ] at CBK
 have hk4 : k4 < 256 := by obtain ⟨c, _, rfl⟩ := h4; exact byte_lt c
 have hk5 : k5 < 256 := by obtain ⟨c, _, rfl⟩ := h5; exact byte_lt c
 clear hRZ hrl hk
 obtain ⟨wa, hwa⟩ : ∃ W, w.alloc (.cells (bV R).toArray 78) = W := ⟨_, rfl⟩
 have hba : Below w.heap.size w wa := by rw [← hwa]; exact balloc (Below.refl _ _) _
 have hxa : BoxB wa w.heap.size R := by unfold BoxB; rw [← hwa]; exact heap_alloc_new _ _
 obtain ⟨wb, hwb⟩ : ∃ W, wa.alloc (.cells #[.int .i64 0, .int .u64 0, .slice none 0 0, .slice none 0 0] 159) = W := ⟨_, rfl⟩
 have hbb : Below wa.heap.size wa wb := by rw [← hwb]; exact balloc (Below.refl _ _) _
 have hxb : wb.heap[wa.heap.size]? = some (.cells #[.int .i64 0, .int .u64 0, .slice none 0 0, .slice none 0 0] 159 (0, 0)) := by rw [← hwb]; exact heap_alloc_new _ _
 obtain ⟨wc, hwc⟩ : ∃ W, (wb.alloc (.cells #[.int .i64 20] 3)) = W := ⟨_, rfl⟩
 have hbc : Below wb.heap.size wb wc := by rw [← hwc]; exact balloc (Below.refl _ _) _
 have hxc : wc.heap[wb.heap.size]? = some (.cells #[.int .i64 20] 3 (0, 0)) := by rw [← hwc]; exact heap_alloc_new _ _
 have hmf : ∀ (fn : Fn) (first cap : Array Value) (w : World), (Instr.makeFunc fn first cap).run Tryz.prog w = .ok (.func fn first cap) w := by intros; rfl
 rw [show bA R = .agg (bV R).toArray from rfl]
 go_enter Tryz.func112, Tryz.ntmps112
 go_upto_region 3 with fail
 (try rw [hwa])
 (try rw [hwb])
 (try rw [hwc])
 have hqa := (Array.getElem?_eq_some_iff.1 hxa).1
 have hqb := (Array.getElem?_eq_some_iff.1 hxb).1
 have hgc : GetS wc w.heap.size wb.heap.size 20 R := ⟨(hbc.block _ (by have := hbb.size; omega)).trans ((hbb.block _ hqa).trans hxa), hxc⟩
 have hnc := (hbc.block _ hqb).trans hxb
 have HBC : Hid (Below w.heap.size w wc) := Lib.hid (bthn hba (bthn hbb hbc))
 obtain ⟨qb, hqbe⟩ : ∃ q, w.heap.size = q := ⟨_, rfl⟩
 obtain ⟨g, hge⟩ : ∃ q, wa.heap.size = q := ⟨_, rfl⟩
 obtain ⟨qa, hqae⟩ : ∃ q, wb.heap.size = q := ⟨_, rfl⟩
 rw [hge, hqae] at hqb
 rw [hqbe, hge] at hqa
 rw [hqbe, hqae] at hgc
 rw [hge] at hnc
 have HNQ : Hid (qb ≠ qa) := Lib.hid (by omega)
 have HNG : Hid (g ≠ qa) := Lib.hid (by omega)
 have HNG2 : Hid (qb ≠ g) := Lib.hid (by omega)
 have HQG : Hid (w.heap.size ≤ qa ∧ w.heap.size ≤ g) := Lib.hid (by omega)
 have HGC := Lib.hid hgc
 have HNC := Lib.hid hnc
 have hne := HNG.out
 rw [hqbe, hge, hqae]
 have HQB := Lib.hid hqbe
 clear hqae hge hqa hqb hxa hxb hxc hba hbb hbc hwa hwb hwc hgc hnc hqbe
 have e4 : wc.cell? ⟨qb, 4, none⟩ = some (.int .u8 (k4 : Int)) := by
  obtain ⟨c, hc, rfl⟩ := h4
  exact cellOf HGC.out.1 4 (by simpa using bV_get hc)
 have q0 := cellOf HNC.out 0 (v := .int .i64 0) rfl
 have qf := frozenOf HNC.out 0
 go_upto_region 4 with fail
 obtain ⟨wd, hwd⟩ : ∃ W, wc.setCell ⟨g, 0, none⟩ (.int .i64 (k4 : Int)) = W := ⟨_, rfl⟩
 have hmd : Mods [g] wc wd := by rw [← hwd]; exact (Mods.refl _ _).setCell (p := ⟨g, 0, none⟩) (List.mem_singleton.2 rfl) _
 have hnd : wd.heap[g]? = some (.cells #[.int .i64 (k4 : Int), .int .u64 0, .slice none 0 0, .slice none 0 0] 159 (0, 0)) := by rw [← hwd]; exact setOf HNC.out 0 _
 have hgd := HGC.out.keep hmd (fun h => HNG2.out (List.mem_singleton.1 h)) (fun h => HNG.out (List.mem_singleton.1 h).symm)
 rw [hwd]
 clear hwd e4 q0 qf
 have HGD := Lib.hid hgd
 have HND := Lib.hid hnd
 have HMD := Lib.hid hmd
 have q0 := cellOf hgd.2 0 (v := .int .i64 ((20 : Nat) : Int)) rfl
 have qf := frozenOf hgd.2 0
 clear hgd hnd hmd
 go_upto_region 5 with fail
 obtain ⟨we, hwe⟩ : ∃ W, wd.setCell ⟨qa, 0, none⟩ (.int .i64 12) = W := ⟨_, rfl⟩
 have hme : Mods [qa] wd we := by rw [← hwe]; exact (Mods.refl _ _).setCell (p := ⟨qa, 0, none⟩) (List.mem_singleton.2 rfl) _
 have hge : GetS we qb qa 12 R := ⟨(hme.block _ (Array.getElem?_eq_some_iff.1 HGD.out.1).1 (fun h => HNQ.out (List.mem_singleton.1 h))).trans HGD.out.1, by rw [← hwe]; exact setOf HGD.out.2 0 _⟩
 rw [hwe]
 clear hwe q0 qf
 obtain ⟨bb, hbb⟩ : ∃ x, getN 8 (R.drop 12) = x := ⟨_, rfl⟩
 have CG := bget_next hge HNQ.out HRL.out (by omega) hbb
 have HME := Lib.hid hme
 clear hge hme hbb
 go_wp2_with fail
 refine CG.mono ?_
 rintro e wf ⟨rfl, hgf, hmf2⟩
 have HGF := Lib.hid hgf
 have hnf := (hmf2.block g (by have := HME.out.size; have := (Array.getElem?_eq_some_iff.1 HND.out).1; omega) (fun h => HNG.out (List.mem_singleton.1 h))).trans ((HME.out.block g (Array.getElem?_eq_some_iff.1 HND.out).1 (fun h => HNG.out (List.mem_singleton.1 h))).trans HND.out)
 have HNF := Lib.hid hnf
 have q1 := cellOf hnf 1 (v := .int .u64 0) rfl
 have qf := frozenOf hnf 1
 have HMF := Lib.hid hmf2
 clear CG hgf hnf hmf2
 go_upto_region 6 with fail
 obtain ⟨wg, hwg⟩ : ∃ W, wf.setCell ⟨g, 1, none⟩ (.int .u64 (bb : Int)) = W := ⟨_, rfl⟩
 have hmg : Mods [g] wf wg := by rw [← hwg]; exact (Mods.refl _ _).setCell (p := ⟨g, 1, none⟩) (List.mem_singleton.2 rfl) _
 have hng : wg.heap[g]? = some (.cells #[.int .i64 (k4 : Int), .int .u64 (bb : Int), .slice none 0 0, .slice none 0 0] 159 (0, 0)) := by rw [← hwg]; exact setOf HNF.out 1 _
 have hgg := HGF.out.keep hmg (fun h => HNG2.out (List.mem_singleton.1 h)) (fun h => HNG.out (List.mem_singleton.1 h).symm)
 rw [hwg]
 clear hwg q1 qf
 have HB0 : Hid (BfS w.heap.size wg qb qa g (20 + 16 * 0) R (k4 : Int) (bb : Int) 0 0) := Lib.hid ⟨_, _, [], [], hgg, hng, World.ownsRow_nil _ _ _ _, World.ownsRow_nil _ _ _ _, fun k hk => (by cases hk)⟩
 have HBG : Hid (Below w.heap.size w wg) := Lib.hid (by
  have h1 := HBC.out.trans (HMD.out.below (fun k hk => by rw [List.mem_singleton.1 hk]; exact HQG.out.2) HBC.out.size)
  have h2 := h1.trans (HME.out.below (fun k hk => by rw [List.mem_singleton.1 hk]; exact HQG.out.1) h1.size)
  have h3 := h2.trans (HMF.out.below (fun k hk => by rw [List.mem_singleton.1 hk]; exact HQG.out.1) h2.size)
  exact h3.trans (hmg.below (fun k hk => by rw [List.mem_singleton.1 hk]; exact HQG.out.2) h3.size))
 have e5 : wg.cell? ⟨qb, 5, none⟩ = some (.int .u8 (k5 : Int)) := by
  obtain ⟨c, hc, rfl⟩ := h5
  exact cellOf hgg.1 5 (by simpa using bV_get hc)
 obtain ⟨m, hm⟩ : ∃ m, min k5 6 = m := ⟨_, rfl⟩
 have hm6 : m ≤ 6 := by omega
 have hmin : min (k5 : Int) 6 = (m : Int) := by omega
 clear hmg hng hgg hm
 go_wp2_with fail
 (try rw [hmin])
 clear e5 hmin
 go_loopw [22] (fun v wr => ∃ i : Nat, i ≤ m ∧ v = .int .i64 (i : Int) ∧ BfS w.heap.size wr qb qa g (20 + 16 * i) R (k4 : Int) (bb : Int) i i ∧ Below w.heap.size w wr) (fun v _ => m - (Go.RowKit.intOf v).toNat)
 case atStart => exact ⟨0, by omega, rfl, HB0.out, HBG.out⟩
 case round =>
  obtain ⟨i, hi, rfl, hbs, hbw⟩ := hrel
  obtain ⟨v1, v2, L1, L2, hgs, hx, ho1, ho2, hdj⟩ := hbs
  have HGS := Lib.hid hgs
  have HX := Lib.hid hx
  have HO1 := Lib.hid ho1
  have HO2 := Lib.hid ho2
  have HDJ := Lib.hid hdj
  have HBW := Lib.hid hbw
  clear hgs hx ho1 ho2 hdj hbw
  by_cases hlt : i < m
  ·go_upto_region 8 with fail
   obtain ⟨aS, cS, eS⟩ := rowSl HO1.out
   subst eS
   obtain ⟨x, hxg⟩ : ∃ x, getN 8 (R.drop (20 + 16 * i)) = x := ⟨_, rfl⟩
   have CG : Hid (∀ X, GetS X qb qa (20 + 16 * i) R → Calls Tryz.prog 155 #[.pointer (some ⟨qb, 0, none⟩), .pointer (some ⟨qa, 0, none⟩)] X fun e w' => e = .returned (.int .u64 (x : Int)) ∧ GetS w' qb qa (20 + 16 * i + 8) R ∧ Mods [qa] X w') := Lib.hid (fun X hX => bget_next hX HNQ.out HRL.out (by omega) hxg)
   have HNA : Hid (qa ∉ ob (.slice aS (i) cS)) := Lib.hid (ob_tag HO1.out HGS.out.2 (by decide))
   have HGA : Hid (g ∉ qa :: ob (.slice aS (i) cS)) := Lib.hid (fun hh => by
    rcases List.mem_cons.1 hh with h | h
    ·exact HNG.out h
    ·exact ob_tag HO1.out HX.out (by decide) h)
   have HBN : Hid ((i + 1) * 8 ≤ 140737488355328) := Lib.hid (by omega)
   clear hxg
   have HSS : Hid (∀ X, Mods (qa :: ob (.slice aS (i) cS)) wr X → (X.cell? ⟨g, 2, none⟩ = some (.slice aS (i) cS)) ∧ Mods (qa :: ob (.slice aS (i) cS)) wr X) := Lib.hid (fun X hb => ⟨(World.cell?_of_block (hb.block _ ((Array.getElem?_eq_some_iff.1 HX.out).1) (HGA.out))).trans (cellOf HX.out 2 rfl), hb⟩)
   refine wp_region_late (S := fun X => (X.cell? ⟨g, 2, none⟩ = some (.slice aS (i) cS)) ∧ Mods (qa :: ob (.slice aS (i) cS)) wr X) [7] (by kernel_rfl) (HSS.out _ (Mods.of_below (Below.refl _ _).drew)) (fun hHeld => ?_)
   have hbe : Below wr.heap.size wr wr.drew := (Below.refl _ _).drew
   obtain ⟨wd, hwd⟩ : ∃ y, wr.drew = y := ⟨_, rfl⟩
   rw [hwd] at hHeld hbe ⊢
   have HBE := Lib.hid hbe
   have HS0 : Hid (wr.heap.size ≤ wd.heap.size) := Lib.hid HBE.out.size
   clear hwd hbe
   have HMD := Lib.hid (Mods.of_below (F := (qa :: ob (.slice aS (i) cS))) HBE.out)
   refine wpAnyL_take [1, 5, 6, 7] (i := 0) (v := ?_) rfl (by kernel_rfl) (by kernel_rfl) (by kernel_rfl) (by kernel_rfl) (by kernel_rfl) (fun _ _ _ h => h) (Or.inl ⟨by rfl, ?_⟩) (by assumption) ?_
   rotate_left
   ·(intro w hSw; (try dsimp only at hSw); simp only [List.getElem_toArray, List.getElem_cons_zero, List.getElem_cons_succ]; go_simp; first | done | with_reducible rfl)
   simp only [List.getElem_toArray, List.getElem_cons_zero, List.getElem_cons_succ, Act.put, List.setIfInBounds_toArray, List.set_cons_zero, List.set_cons_succ]
   refine wpAnyL_take [3, 4, 5, 6, 7] (i := 2) (v := ?_) rfl (by kernel_rfl) (by kernel_rfl) (by kernel_rfl) (by kernel_rfl) (by kernel_rfl) (fun _ _ _ h => h) (Or.inl ⟨by rfl, ?_⟩) (by assumption) ?_
   rotate_left
   ·(intro w hSw; (try dsimp only at hSw); simp only [List.getElem_toArray, List.getElem_cons_zero, List.getElem_cons_succ]; go_simp; first | done | with_reducible rfl)
   simp only [List.getElem_toArray, List.getElem_cons_zero, List.getElem_cons_succ, Act.put, List.setIfInBounds_toArray, List.set_cons_zero, List.set_cons_succ]
   refine wpAnyL_take [5, 6, 7] (i := 1) (v := ?_) rfl (by kernel_rfl) (by kernel_rfl) (by kernel_rfl) (by kernel_rfl) (by kernel_rfl) (fun _ _ _ h => h) (Or.inl ⟨by rfl, ?_⟩) (by assumption) ?_
   rotate_left
   ·(intro w hSw; (try dsimp only at hSw); simp only [List.getElem_toArray, List.getElem_cons_zero, List.getElem_cons_succ]; go_simp; first | done | with_reducible rfl)
   simp only [List.getElem_toArray, List.getElem_cons_zero, List.getElem_cons_succ, Act.put, List.setIfInBounds_toArray, List.set_cons_zero, List.set_cons_succ]
   refine wpAnyL_ready (rs := [3]) (by kernel_rfl) (by simp) ?_
   refine AllReadyL.cons rfl (fun K hK => ?_) (AllReadyL.nil)
   simp only [List.getElem_toArray, List.getElem_cons_zero, List.getElem_cons_succ]
   go_simp
   refine (CG.out _ (HGS.out.below HBE.out)).mono ?_
   rintro e w3 ⟨rfl, hgs, hm3⟩
   dsimp only
   refine hK.out _ _ ?_ (fun hHeld => ?_)
   ·exact HSS.out _ ((Mods.of_below HBE.out).trans hm3 (fun k hk => .inl (by rw [List.mem_singleton.1 hk]; exact List.mem_cons_self ..)))
   clear hK K
   try simp only [Act.put, List.setIfInBounds_toArray, List.set_cons_zero, List.set_cons_succ]
   have HMQ : Hid (Mods [qa] wr w3) := Lib.hid ((Mods.of_below HBE.out).trans hm3 (fun k hk => .inl hk))
   have HMD : Hid (Mods (qa :: ob (.slice aS (i) cS)) wr w3) := Lib.hid (HMQ.out.mono (fun k hk => by rw [List.mem_singleton.1 hk]; exact List.mem_cons_self ..))
   have HG3 := Lib.hid hgs
   clear hgs hm3
   refine wpAnyL_ready (rs := [4]) (by kernel_rfl) (by simp) ?_
   refine AllReadyL.cons rfl (fun K hK => ?_) (AllReadyL.nil)
   simp only [List.getElem_toArray, List.getElem_cons_zero, List.getElem_cons_succ]
   go_simp
   obtain ⟨b4, hw4⟩ : ∃ b, w3.heap.size = b := ⟨_, rfl⟩
   obtain ⟨y4, hy4⟩ : ∃ y, w3.alloc (.cells #[.int .u64 (x : Int)] 26) = y := ⟨_, rfl⟩
   rw [hy4, hw4]
   have hx4 : Below w3.heap.size w3 y4 := by rw [← hy4]; exact balloc (Below.refl _ _) _
   have HN4 : Hid (y4.heap[b4]? = some (.cells #[.int .u64 (x : Int)] 26 (0, 0))) := Lib.hid (by rw [← hy4, ← hw4]; exact heap_alloc_new _ _)
   have HG4 : Hid (wr.heap.size ≤ b4) := Lib.hid (by have := HMD.out.size; omega)
   clear hy4 hw4
   have HMD := Lib.hid (HMD.out.thenBelow hx4)
   have hSp := HSS.out _ HMD.out
   clear hHeld
   refine hK.out _ _ hSp (fun hHeld => ?_)
   clear hSp hK K
   try simp only [Act.put, List.setIfInBounds_toArray, List.set_cons_zero, List.set_cons_succ]
   have HG3 := Lib.hid (HG3.out.below hx4)
   have HMQ := Lib.hid (HMQ.out.thenBelow hx4)
   clear hx4
   refine wpAnyL_ready (rs := [5]) (by kernel_rfl) (by simp) ?_
   refine AllReadyL.cons rfl (fun K hK => ?_) (AllReadyL.nil)
   simp only [List.getElem_toArray, List.getElem_cons_zero, List.getElem_cons_succ]
   rw [if_pos (by rfl)]
   refine wp_apps _ _ 157 rfl w.heap.size 26 (.int .u64 0) 1 8 Tryz.underlying157 infoU64 rfl (by decide) (by decide) (.slice aS (i) cS) (i) L1 (by rfl) (ownsRow_at HO1.out (fun k hk => HMQ.out.block k (ownsRow_lt HO1.out k hk) (fun hh => HNA.out (by rw [← List.mem_singleton.1 hh]; exact hk)))) (.slice (some ⟨b4, 0, none⟩) 1 1) 1 [.int .u64 (x : Int)] (by rfl) (rdc1 HN4.out) (by intro u hu; rw [List.mem_singleton.1 hu]; rfl) HBN.out (Nat.le_trans HBW.out.size HMQ.out.size) ?_
   intro v5 z5 ho5 hb5 hg5 hs5 hn5
   refine hK.out _ _ ?_ (fun hHeld => ?_)
   ·exact HSS.out _ (HMD.out.trans (Chg.of_grown hg5 hs5).1 (fun k hk => .inl (List.mem_cons_of_mem _ hk)))
   clear hK K
   try simp only [Act.put, List.setIfInBounds_toArray, List.set_cons_zero, List.set_cons_succ]
   obtain ⟨a5, c5, e5⟩ := rowSl ho5
   subst e5
   have HEN : Hid (BfM w.heap.size wr z5 qb qa (20 + 16 * i + 8) R (.slice aS (i) cS) (.slice a5 (i + 1) c5) (i + 1)) := Lib.hid (bf_mid HO1.out HNA.out HG3.out HMQ.out ho5 (Chg.of_grown hg5 hs5))
   clear ho5 hb5 hg5 hs5 hn5
   refine wpAnyL_take [7] (i := 6) (v := ?_) rfl (by kernel_rfl) (by kernel_rfl) (by kernel_rfl) (by kernel_rfl) (by kernel_rfl) (fun _ _ _ h => h) (Or.inl ⟨by rfl, ?_⟩) (by assumption) ?_
   rotate_left
   ·(intro w hSw; (try dsimp only at hSw); simp only [List.getElem_toArray, List.getElem_cons_zero, List.getElem_cons_succ]; go_simp; first | done | with_reducible rfl)
   simp only [List.getElem_toArray, List.getElem_cons_zero, List.getElem_cons_succ, Act.put, List.setIfInBounds_toArray, List.set_cons_zero, List.set_cons_succ]
   refine wpAnyL_ready (rs := [7]) (by kernel_rfl) (by simp) ?_
   refine AllReadyL.late rfl (by kernel_rfl) (fun K hK => ?_)
   clear hHeld
   have hx7 := (HEN.out.2.1.block g (Array.getElem?_eq_some_iff.1 HX.out).1 HGA.out).trans HX.out
   have hc7 := cellOf hx7 2 (v := .slice aS (i) cS) rfl
   have hf7 := frozenOf hx7 2
   simp only [List.getElem_toArray, List.getElem_cons_zero, List.getElem_cons_succ]
   go_simp
   refine hK.out _ _ ?_
   clear hK K
   try simp only [Act.put, List.setIfInBounds_toArray, List.set_cons_zero, List.set_cons_succ]
   obtain ⟨z8, hz7⟩ : ∃ W, z5.setCell ⟨g, 2, none⟩ (.slice a5 (i + 1) c5) = W := ⟨_, rfl⟩
   rw [hz7]
   clear hx7 hc7 hf7
   refine wpAnyL_done (by kernel_rfl) ?_ _
   have hbz : Below w.heap.size w z8 := by rw [← hz7]; exact bf_below HBW.out HEN.out HO1.out HQG.out 2 _
   have htl := bf_tail HEN.out HO1.out HX.out HGA.out HGS.out HO2.out (fun k hk hh => HDJ.out k hh hk) 2 (.slice a5 (i + 1) c5)
   rw [hz7] at htl
   obtain ⟨hgs, hx, ⟨L1', ho1⟩, ho2, hdj⟩ := htl
   simp only [List.setIfInBounds_toArray, List.set_cons_zero, List.set_cons_succ] at hx
   have HGS := Lib.hid hgs
   have HX := Lib.hid hx
   have HO1 := Lib.hid ho1
   have HO2 := Lib.hid ho2
   have HDJ := Lib.hid hdj
   have HBW := Lib.hid hbz
   clear HSS HEN HNA HGA HBN CG hgs hx ho1 ho2 hdj hbz hz7 HMQ HMD HG3 HN4 HG4
   go_upto_region 9 with fail
   obtain ⟨aS, cS, eS⟩ := rowSl HO2.out
   subst eS
   obtain ⟨x, hxg⟩ : ∃ x, getN 8 (R.drop (20 + 16 * i + 8)) = x := ⟨_, rfl⟩
   have CG : Hid (∀ X, GetS X qb qa (20 + 16 * i + 8) R → Calls Tryz.prog 155 #[.pointer (some ⟨qb, 0, none⟩), .pointer (some ⟨qa, 0, none⟩)] X fun e w' => e = .returned (.int .u64 (x : Int)) ∧ GetS w' qb qa (20 + 16 * i + 8 + 8) R ∧ Mods [qa] X w') := Lib.hid (fun X hX => bget_next hX HNQ.out HRL.out (by omega) hxg)
   have HNA : Hid (qa ∉ ob (.slice aS (i) cS)) := Lib.hid (ob_tag HO2.out HGS.out.2 (by decide))
   have HGA : Hid (g ∉ qa :: ob (.slice aS (i) cS)) := Lib.hid (fun hh => by
    rcases List.mem_cons.1 hh with h | h
    ·exact HNG.out h
    ·exact ob_tag HO2.out HX.out (by decide) h)
   have HBN : Hid ((i + 1) * 8 ≤ 140737488355328) := Lib.hid (by omega)
   clear hxg
   have HSS : Hid (∀ X, Mods (qa :: ob (.slice aS (i) cS)) z8 X → (X.cell? ⟨g, 3, none⟩ = some (.slice aS (i) cS)) ∧ Mods (qa :: ob (.slice aS (i) cS)) z8 X) := Lib.hid (fun X hb => ⟨(World.cell?_of_block (hb.block _ ((Array.getElem?_eq_some_iff.1 HX.out).1) (HGA.out))).trans (cellOf HX.out 3 rfl), hb⟩)
   refine wp_region_late (S := fun X => (X.cell? ⟨g, 3, none⟩ = some (.slice aS (i) cS)) ∧ Mods (qa :: ob (.slice aS (i) cS)) z8 X) [7] (by kernel_rfl) (HSS.out _ (Mods.of_below (Below.refl _ _).drew)) (fun hHeld => ?_)
   have hbe : Below z8.heap.size z8 z8.drew := (Below.refl _ _).drew
   obtain ⟨wd, hwd⟩ : ∃ y, z8.drew = y := ⟨_, rfl⟩
   rw [hwd] at hHeld hbe ⊢
   have HBE := Lib.hid hbe
   have HS0 : Hid (z8.heap.size ≤ wd.heap.size) := Lib.hid HBE.out.size
   clear hwd hbe
   have HMD := Lib.hid (Mods.of_below (F := (qa :: ob (.slice aS (i) cS))) HBE.out)
   refine wpAnyL_take [1, 5, 6, 7] (i := 0) (v := ?_) rfl (by kernel_rfl) (by kernel_rfl) (by kernel_rfl) (by kernel_rfl) (by kernel_rfl) (fun _ _ _ h => h) (Or.inl ⟨by rfl, ?_⟩) (by assumption) ?_
   rotate_left
   ·(intro w hSw; (try dsimp only at hSw); simp only [List.getElem_toArray, List.getElem_cons_zero, List.getElem_cons_succ]; go_simp; first | done | with_reducible rfl)
   simp only [List.getElem_toArray, List.getElem_cons_zero, List.getElem_cons_succ, Act.put, List.setIfInBounds_toArray, List.set_cons_zero, List.set_cons_succ]
   refine wpAnyL_take [3, 4, 5, 6, 7] (i := 2) (v := ?_) rfl (by kernel_rfl) (by kernel_rfl) (by kernel_rfl) (by kernel_rfl) (by kernel_rfl) (fun _ _ _ h => h) (Or.inl ⟨by rfl, ?_⟩) (by assumption) ?_
   rotate_left
   ·(intro w hSw; (try dsimp only at hSw); simp only [List.getElem_toArray, List.getElem_cons_zero, List.getElem_cons_succ]; go_simp; first | done | with_reducible rfl)
   simp only [List.getElem_toArray, List.getElem_cons_zero, List.getElem_cons_succ, Act.put, List.setIfInBounds_toArray, List.set_cons_zero, List.set_cons_succ]
   refine wpAnyL_take [5, 6, 7] (i := 1) (v := ?_) rfl (by kernel_rfl) (by kernel_rfl) (by kernel_rfl) (by kernel_rfl) (by kernel_rfl) (fun _ _ _ h => h) (Or.inl ⟨by rfl, ?_⟩) (by assumption) ?_
   rotate_left
   ·(intro w hSw; (try dsimp only at hSw); simp only [List.getElem_toArray, List.getElem_cons_zero, List.getElem_cons_succ]; go_simp; first | done | with_reducible rfl)
   simp only [List.getElem_toArray, List.getElem_cons_zero, List.getElem_cons_succ, Act.put, List.setIfInBounds_toArray, List.set_cons_zero, List.set_cons_succ]
   refine wpAnyL_ready (rs := [3]) (by kernel_rfl) (by simp) ?_
   refine AllReadyL.cons rfl (fun K hK => ?_) (AllReadyL.nil)
   simp only [List.getElem_toArray, List.getElem_cons_zero, List.getElem_cons_succ]
   go_simp
   refine (CG.out _ (HGS.out.below HBE.out)).mono ?_
   rintro e w3 ⟨rfl, hgs, hm3⟩
   dsimp only
   refine hK.out _ _ ?_ (fun hHeld => ?_)
   ·exact HSS.out _ ((Mods.of_below HBE.out).trans hm3 (fun k hk => .inl (by rw [List.mem_singleton.1 hk]; exact List.mem_cons_self ..)))
   clear hK K
   try simp only [Act.put, List.setIfInBounds_toArray, List.set_cons_zero, List.set_cons_succ]
   have HMQ : Hid (Mods [qa] z8 w3) := Lib.hid ((Mods.of_below HBE.out).trans hm3 (fun k hk => .inl hk))
   have HMD : Hid (Mods (qa :: ob (.slice aS (i) cS)) z8 w3) := Lib.hid (HMQ.out.mono (fun k hk => by rw [List.mem_singleton.1 hk]; exact List.mem_cons_self ..))
   have HG3 := Lib.hid hgs
   clear hgs hm3
   refine wpAnyL_ready (rs := [4]) (by kernel_rfl) (by simp) ?_
   refine AllReadyL.cons rfl (fun K hK => ?_) (AllReadyL.nil)
   simp only [List.getElem_toArray, List.getElem_cons_zero, List.getElem_cons_succ]
   go_simp
   obtain ⟨b4, hw4⟩ : ∃ b, w3.heap.size = b := ⟨_, rfl⟩
   obtain ⟨y4, hy4⟩ : ∃ y, w3.alloc (.cells #[.int .u64 (x : Int)] 26) = y := ⟨_, rfl⟩
   rw [hy4, hw4]
   have hx4 : Below w3.heap.size w3 y4 := by rw [← hy4]; exact balloc (Below.refl _ _) _
   have HN4 : Hid (y4.heap[b4]? = some (.cells #[.int .u64 (x : Int)] 26 (0, 0))) := Lib.hid (by rw [← hy4, ← hw4]; exact heap_alloc_new _ _)
   have HG4 : Hid (z8.heap.size ≤ b4) := Lib.hid (by have := HMD.out.size; omega)
   clear hy4 hw4
   have HMD := Lib.hid (HMD.out.thenBelow hx4)
   have hSp := HSS.out _ HMD.out
   clear hHeld
   refine hK.out _ _ hSp (fun hHeld => ?_)
   clear hSp hK K
   try simp only [Act.put, List.setIfInBounds_toArray, List.set_cons_zero, List.set_cons_succ]
   have HG3 := Lib.hid (HG3.out.below hx4)
   have HMQ := Lib.hid (HMQ.out.thenBelow hx4)
   clear hx4
   refine wpAnyL_ready (rs := [5]) (by kernel_rfl) (by simp) ?_
   refine AllReadyL.cons rfl (fun K hK => ?_) (AllReadyL.nil)
   simp only [List.getElem_toArray, List.getElem_cons_zero, List.getElem_cons_succ]
   rw [if_pos (by rfl)]
   refine wp_apps _ _ 157 rfl w.heap.size 26 (.int .u64 0) 1 8 Tryz.underlying157 infoU64 rfl (by decide) (by decide) (.slice aS (i) cS) (i) L2 (by rfl) (ownsRow_at HO2.out (fun k hk => HMQ.out.block k (ownsRow_lt HO2.out k hk) (fun hh => HNA.out (by rw [← List.mem_singleton.1 hh]; exact hk)))) (.slice (some ⟨b4, 0, none⟩) 1 1) 1 [.int .u64 (x : Int)] (by rfl) (rdc1 HN4.out) (by intro u hu; rw [List.mem_singleton.1 hu]; rfl) HBN.out (Nat.le_trans HBW.out.size HMQ.out.size) ?_
   intro v5 z5 ho5 hb5 hg5 hs5 hn5
   refine hK.out _ _ ?_ (fun hHeld => ?_)
   ·exact HSS.out _ (HMD.out.trans (Chg.of_grown hg5 hs5).1 (fun k hk => .inl (List.mem_cons_of_mem _ hk)))
   clear hK K
   try simp only [Act.put, List.setIfInBounds_toArray, List.set_cons_zero, List.set_cons_succ]
   obtain ⟨a5, c5, e5⟩ := rowSl ho5
   subst e5
   have HEN : Hid (BfM w.heap.size z8 z5 qb qa (20 + 16 * i + 8 + 8) R (.slice aS (i) cS) (.slice a5 (i + 1) c5) (i + 1)) := Lib.hid (bf_mid HO2.out HNA.out HG3.out HMQ.out ho5 (Chg.of_grown hg5 hs5))
   clear ho5 hb5 hg5 hs5 hn5
   refine wpAnyL_take [7] (i := 6) (v := ?_) rfl (by kernel_rfl) (by kernel_rfl) (by kernel_rfl) (by kernel_rfl) (by kernel_rfl) (fun _ _ _ h => h) (Or.inl ⟨by rfl, ?_⟩) (by assumption) ?_
   rotate_left
   ·(intro w hSw; (try dsimp only at hSw); simp only [List.getElem_toArray, List.getElem_cons_zero, List.getElem_cons_succ]; go_simp; first | done | with_reducible rfl)
   simp only [List.getElem_toArray, List.getElem_cons_zero, List.getElem_cons_succ, Act.put, List.setIfInBounds_toArray, List.set_cons_zero, List.set_cons_succ]
   refine wpAnyL_ready (rs := [7]) (by kernel_rfl) (by simp) ?_
   refine AllReadyL.late rfl (by kernel_rfl) (fun K hK => ?_)
   clear hHeld
   have hx7 := (HEN.out.2.1.block g (Array.getElem?_eq_some_iff.1 HX.out).1 HGA.out).trans HX.out
   have hc7 := cellOf hx7 3 (v := .slice aS (i) cS) rfl
   have hf7 := frozenOf hx7 3
   simp only [List.getElem_toArray, List.getElem_cons_zero, List.getElem_cons_succ]
   go_simp
   refine hK.out _ _ ?_
   clear hK K
   try simp only [Act.put, List.setIfInBounds_toArray, List.set_cons_zero, List.set_cons_succ]
   obtain ⟨z9, hz7⟩ : ∃ W, z5.setCell ⟨g, 3, none⟩ (.slice a5 (i + 1) c5) = W := ⟨_, rfl⟩
   rw [hz7]
   clear hx7 hc7 hf7
   refine wpAnyL_done (by kernel_rfl) ?_ _
   have hbz : Below w.heap.size w z9 := by rw [← hz7]; exact bf_below HBW.out HEN.out HO2.out HQG.out 3 _
   have htl := bf_tail HEN.out HO2.out HX.out HGA.out HGS.out HO1.out (fun k hk hh => HDJ.out k hk hh) 3 (.slice a5 (i + 1) c5)
   rw [hz7] at htl
   obtain ⟨hgs, hx, ⟨L2', ho2⟩, ho1, hdj⟩ := htl
   simp only [List.setIfInBounds_toArray, List.set_cons_zero, List.set_cons_succ] at hx
   have HBS : Hid (BfS w.heap.size z9 qb qa g (20 + 16 * i + 8 + 8) R (k4 : Int) (bb : Int) (i + 1) (i + 1)) := Lib.hid ⟨_, _, _, _, hgs, hx, ho1, ho2, fun k hk hh => hdj k hh hk⟩
   have HBW := Lib.hid hbz
   clear HSS HEN HNA HGA HBN CG hgs hx ho1 ho2 hdj hbz hz7 HMQ HMD HG3 HN4 HG4 HX HO1 HO2 HDJ HGS
   go_wp2_with fail
   go_roundw
   case rel => exact ⟨i + 1, by omega, by go_num, by
    have h9 := HBS.out
    rw [show 20 + 16 * i + 8 + 8 = 20 + 16 * (i + 1) by omega] at h9
    exact h9, HBW.out⟩
   case measure => simp [Go.RowKit.intOf]; omega
  ·obtain rfl : i = m := by omega
   have CB := CBK.out wr (bb : Int) v1 v2
   have c0 := cellOf HX.out 0 (v := .int .i64 (k4 : Int)) rfl
   have c1 := cellOf HX.out 1 (v := .int .u64 (bb : Int)) rfl
   have c2 := cellOf HX.out 2 (v := v1) rfl
   have c3 := cellOf HX.out 3 (v := v2) rfl
   go_wp2_with fail
   refine CB.mono ?_
   rintro e x19 ⟨rfl, hb19⟩
   dsimp only
   have HB19 := Lib.hid hb19
   have HN19 : Hid (x19.heap[g]? = some (.cells #[.int .i64 (k4 : Int), .int .u64 (bb : Int), v1, v2] 159 (0, 0))) := Lib.hid ((hb19.block _ (Array.getElem?_eq_some_iff.1 HX.out).1).trans HX.out)
   have hrb : (bV RZ).toArray.size = 256 := by rw [List.size_toArray, bV_len, HZL.out]
   have hst := run_storeNew (P := Tryz.prog) x19 78 Tryz.zeroCells78 (bV RZ).toArray (by rw [hrb]; kernel_rfl) (fun u hu => bV_one RZ u (by simpa using hu))
   have hb20 : Below x19.heap.size x19 (x19.alloc (.cells (bV RZ).toArray 78)) := balloc (Below.refl _ _) _
   have HS20 : Hid ((x19.alloc (.cells (bV RZ).toArray 78)).heap[g]? = some (.cells #[.int .i64 (k4 : Int), .int .u64 (bb : Int), v1, v2] 159 (0, 0))) := Lib.hid ((hb20.block _ (Array.getElem?_eq_some_iff.1 HN19.out).1).trans HN19.out)
   have HB20 := Lib.hid hb20
   rw [show bA RZ = .agg (bV RZ).toArray from rfl]
   clear CB hb19 hb20 hmf c0 c1 c2 c3
   go_upto_region 13 with fail
   apply wp_region_lit
   refine wpL_build0 (by kernel_rfl) 159 rfl ndZL.toArray (by kernel_rfl) ?_
   refine wpList_store_mid rfl 159 _ _ rfl g 0 ndZL.toArray rfl rfl ?_ ?_ ?_ ?_
   ·exact thereOf HS20.out (by show 4 ≤ 4; omega)
   ·kernel_rfl
   ·kernel_rfl
   repeat go_step
   refine bodyPost_ret (v := .tuple #[.agg ndZL.toArray, .int .i64 4]) (res_nd2 rfl _ _ g ndZL _ rfl rfl (World.rangeAt_setCells_same _ _ _ _ (thereOf HS20.out (by show 4 ≤ 4; omega))) (by kernel_rfl)) rfl ⟨rfl, ?_⟩
   exact belowSets HQG.out.2 _ _ _ (bthn HBW.out (bthn HB19.out HB20.out))
end Go.Proofs.YtgmahhdnjikdjaaGreat
