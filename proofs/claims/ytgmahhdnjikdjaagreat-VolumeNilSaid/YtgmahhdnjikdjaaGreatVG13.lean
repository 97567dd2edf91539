import Derived.Test.YtgmahhdnjikdjaaGreatVG12
import Derived.Test.YtgmahhdnjikdjaaGreatVG1
import Derived.BigQuiet
set_option linter.unusedVariables false
set_option linter.unusedSimpArgs false
/- store: Format, walked. -/
namespace Go.Proofs.YtgmahhdnjikdjaaGreat
open Go.RowKit Wire
set_option linter.unusedVariables false
set_option linter.unusedSimpArgs false
section
variable {P : Program} {ops : Array Oper} {Q : Exit → Act → World → Prop} {a : Act} {w : World} {rest : List Oper} {o : Oper}
/-- A struct is built. -/
theorem wpL_build (hw : Region.wanted o (yielded ops a.tmps) = true) (ty : TypeId) (ps : Array (Nat × Operand)) (ho : o.op = .build ty ps) (vs : Array (Nat × Value)) (hv : (ps.map fun (p : Nat × Operand) => (p.1, a.eval p.2)) = vs) (cells : Array Value) (hb : P.built ty vs.toList = some cells)
  (h : wpList P ops Q rest (a.put o.dst (.agg cells)) w) : wpList P ops Q (o :: rest) a w := by
 refine wpL_met hw fun K hK => ?_
 have hr := run_build (P := P) w ty vs cells hb
 unfold Oper.wp execOp
 simp only [ho, hv, Sem.run_bind, hr, Result.andThen_ok, Sem.run_pure]
 exact hK _ _ h
end
/-- The pages' numbers, and the counts, of a new pool, behind so many pages. -/
def pgK (i : Nat) : List Nat := (List.range i).map (· + 1) ++ List.replicate (6 - i) 0
def ctK (m i : Nat) : List Nat := List.replicate (i + 1) 1 ++ List.replicate (m - i - 1) 0
def suF (m k i : Nat) : Su := ⟨1, m, k, pgK i, 0, 0, 0, 0, 0, 0, 0, 0, 0, false⟩
theorem suF_set (m k : Nat) {i : Nat} (hi : i < 6) : (suL (suF m k i)).toArray.setIfInBounds (3 + i) (.int .u32 ((i : Int) + 1)) = (suL (suF m k (i + 1))).toArray := by
 rcases (show i = 0 ∨ i = 1 ∨ i = 2 ∨ i = 3 ∨ i = 4 ∨ i = 5 by omega) with rfl | rfl | rfl | rfl | rfl | rfl <;> rfl
theorem pgK_get {P i : Nat} (hP : P ≤ 6) (hi : i < P) : (pgK P).getD i 0 = i + 1 := by
 unfold pgK
 rw [List.getD_eq_getElem?_getD, List.getElem?_append_left (by simpa using hi)]
 simp [hi]
theorem pgK_le {P : Nat} (hP : P ≤ 6) (i : Nat) : (pgK P).getD i 0 ≤ 6 := by
 by_cases hi : i < P
 ·rw [pgK_get hP hi]; omega
 ·unfold pgK
  rw [List.getD_eq_getElem?_getD, List.getElem?_append_right (by simp; omega)]
  simp only [List.getElem?_replicate]
  split <;> simp
theorem pgK_len {P : Nat} (hP : P ≤ 6) : (pgK P).length = 6 := by unfold pgK; simp; omega
theorem pgK_mem {P : Nat} (hP : P ≤ 6) {n : Nat} (h : n ∈ pgK P) : n ≤ P := by
 unfold pgK at h
 rcases List.mem_append.1 h with h | h
 ·obtain ⟨j, hj, rfl⟩ := List.mem_map.1 h
  have := List.mem_range.1 hj
  omega
 ·rw [List.eq_of_mem_replicate h]; omega
theorem suF_wf (m k : Nat) {P : Nat} (hP : P ≤ 6) : (suF m k P).Wf := by
 refine ⟨by show (1 : Nat) < _; omega, pgK_len hP, fun n hn => ?_, ?_, ?_, ?_, ?_, ?_, ?_, ?_, ?_⟩
 ·have := pgK_mem hP hn; omega
 all_goals (show (0 : Nat) < _; omega)
theorem suF_may {m k P : Nat} (h1 : 16 ≤ m) (h2 : m ≤ 240) (h3 : 1 ≤ k) (h4 : k ≤ 480) (hP : P ≤ 6) (hPm : P < m) : (suF m k P).May := by
 refine ⟨by show (16 : Int) ≤ (m : Int); omega, by show (m : Int) ≤ 240; omega, by show (1 : Int) ≤ (k : Int); omega, by show (k : Int) ≤ 480; omega, by show 1 ≤ 1; omega, by show 1 ≤ _; omega, Int.le_refl _, by show (0 : Int) < (k : Int); omega, fun n hn => ?_⟩
 have hn2 : n ∈ pgK P ++ [0, 0, 0] := hn
 show (n : Int) < (m : Int)
 rcases List.mem_append.1 hn2 with h | h
 ·have := pgK_mem hP h; omega
 ·simp at h; omega
theorem ctK_len {m i : Nat} (h : i < m) : (ctK m i).length = m := by unfold ctK; simp; omega
theorem ctK_set {m i : Nat} (h : i + 1 < m) : (ctK m i).set (i + 1) 1 = ctK m (i + 1) := by
 unfold ctK
 have e : m - i - 1 = (m - (i + 1) - 1) + 1 := by omega
 rw [e, List.replicate_succ (n := m - (i + 1) - 1), List.replicate_succ' (n := i + 1)]
 have h2 := setL_mid [1] (List.replicate (i + 1) 1) [0] (List.replicate (m - (i + 1) - 1) 0) rfl
 rw [List.length_replicate] at h2
 rw [List.append_assoc]
 exact h2
theorem ctK_0 {m : Nat} (h : 1 ≤ m) : (List.replicate m 0).set 0 1 = ctK m 0 := by
 obtain ⟨k, rfl⟩ : ∃ k, m = k + 1 := ⟨m - 1, by omega⟩
 unfold ctK
 rw [List.replicate_succ]
 simp
theorem ctK_lt (m i : Nat) : ∀ c ∈ ctK m i, c < 65536 := fun c hc => by
 unfold ctK at hc
 rcases List.mem_append.1 hc with h | h <;> rw [List.eq_of_mem_replicate h] <;> omega
/-- All is settled. -/
def Dk.fl (d : Dk) : Dk := { d with jr := [] }
/-- A disk behind its format. -/
def Dk.fmt (d : Dk) (m k : Nat) : Dk := (((d.wpN (pgK (pagesN m + pagesN k)) (ctK m (pagesN m + pagesN k)) (List.replicate k 0) (pagesN m + pagesN k)).fl).wrK 0 (zeros 256)).saved (suF m k (pagesN m + pagesN k))
theorem made16 (n : Nat) : (madeCells (Value.int .u16 0).cells (n * 1)).toList = cV (List.replicate n 0) := by
 have h := made_rep (.int .u16 0) 1 (n * 1) (by omega)
 rw [Nat.mul_one] at h ⊢
 rw [show (Value.int .u16 0).cells = (List.replicate 1 (Value.int .u16 0)).toArray from rfl, h]
 unfold cV
 rw [List.map_replicate]
 rfl
theorem run_mk16 (W : World) (n : Nat) (hn : n ≤ 1000000) : (Instr.makeSlice 188 (.int .i64 (n : Int)) (.int .i64 (n : Int))).run Tryz.prog W = .ok (.slice (some ⟨W.heap.size, 0, none⟩) n n) (W.alloc (.cells (cV (List.replicate n 0)).toArray 172)) := by
 obtain ⟨i0, hi, hz0, hz1, hz2⟩ := info_parts infoU16
 have h := run_makeSlice (P := Tryz.prog) W 188 172 i0 _ Tryz.underlying188 hi hz0 .i64 .i64 (n : Int) (n : Int) (by omega) (Int.le_refl _) (by rw [hz1]; simp; omega) (by rw [hz2]; omega) (by omega)
 simp only [Int.toNat_natCast] at h
 rw [h, hz1]
 have e := made16 n
 rw [← e, Array.toArray_toList]
theorem own_of_box {w : World} {g n : Nat} {cs : List Nat} (h : BoxC w g cs) (hl : cs.length = n) (hn : n ≤ 1000000) : w.ownsRow 0 172 1 (.slice (some ⟨g, 0, none⟩) n n) n (cV cs) :=
 ⟨by rw [cV_len, hl, Nat.mul_one], .inr ⟨g, n, _, rfl, Nat.zero_le _, h, Nat.le_refl _, by unfold maxLen; omega, by rw [List.size_toArray, cV_len, hl, Nat.mul_one], List.take_of_length_le (by rw [cV_len, hl, Nat.mul_one]; exact Nat.le_refl _)⟩⟩
theorem Dk.wrK_img (d : Dk) (k : Nat) (b : List UInt8) : (d.wrK k b).img = wrB d.img k b := (Dk.wrN_at d k b 4).1
theorem rd_wpN_other (d : Dk) (pg mcs dcs : List Nat) {j : Nat} (hj : j * 4 + 4 ≤ d.img.length) : ∀ i, (∀ a, a < i → j ≠ 2 + pg.getD a 0) → rdB (d.wpN pg mcs dcs i).img j = rdB d.img j
 | 0, _ => rfl
 | i + 1, h => by
  show rdB ((d.wpN pg mcs dcs i).wrK _ _).img j = _
  rw [Dk.wrK_img, rd_wr_other (by rw [(d.wpN_at pg mcs dcs i).1]; exact hj) (h i (by omega)), rd_wpN_other d pg mcs dcs hj i (fun a ha => h a (by omega))]
def nilS : Value := .slice none 0 0
theorem chg_flush {B : Nat} {iv jv : Value} {w w' : World} (h : Mods [B] w w') : Chg (dF B iv jv) w w' (dF B iv (.slice none 0 0)) :=
 ⟨h.mono (fun k hk => by rw [List.mem_singleton.1 hk]; exact List.mem_cons_self ..), fun k hk => by
  rcases List.mem_cons.1 hk with rfl | hk
  ·exact .inl (List.mem_cons_self ..)
  ·rcases List.mem_append.1 hk with hk | hk
   ·exact .inl (List.mem_cons_of_mem _ (List.mem_append_left _ hk))
   ·cases hk⟩
set_option maxRecDepth 100000 in
set_option maxHeartbeats 12800000 in
theorem sfmt_at (n0 : Nat) (w : World) (B : Nat) (iv jv : Value) (d : Dk) (h : DkAt n0 w B iv jv d) (hn0 : n0 ≤ w.heap.size) (hl : d.left < 0) (hd : d.dead = false) (m k : Nat) (h1 : 16 ≤ m) (h2 : m ≤ 240) (h3 : 1 ≤ k) (h4 : k ≤ 480) (hP6 : pagesN m + pagesN k ≤ 6) (hsec : 4 * (2 + m + k) ≤ d.img.length) (hn : d.img.length ≤ 1000000) (hj : d.jr.length ≤ 700000) (ZL : List Value) (er : Int) (ho : OfC (rdB d.img 1) ZL er) :
  Calls Tryz.prog 47 #[.pointer (some ⟨B, 0, none⟩), .int .i64 (m : Int), .int .i64 (k : Int)] w fun e w' => e = .returned (.int .i64 0) ∧ DkAt n0 w' B iv (.slice none 0 0) (d.fmt m k) ∧ Chg (dF B iv jv) w w' (dF B iv (.slice none 0 0)) := by
 have HFM : Hid (d.fmt m k = (((d.wpN (pgK (pagesN m + pagesN k)) (ctK m (pagesN m + pagesN k)) (List.replicate k 0) (pagesN m + pagesN k)).fl).wrK 0 (zeros 256)).saved (suF m k (pagesN m + pagesN k))) := Lib.hid rfl
 have HPM := Lib.hid (stpages_any (a := m) (b := k) · (by omega) (by omega))
 obtain ⟨P, hP⟩ : ∃ P, pagesN m + pagesN k = P := ⟨_, rfl⟩
 rw [hP] at HFM HPM hP6
 obtain ⟨D1, hD1⟩ : ∃ x, d.wpN (pgK P) (ctK m P) (List.replicate k 0) P = x := ⟨_, rfl⟩
 have hcl : (ctK m P).length = m := ctK_len (by omega)
 have hrl : (List.replicate k 0).length = k := List.length_replicate
 obtain ⟨e1, e2, e3, e4⟩ := d.wpN_at (pgK P) (ctK m P) (List.replicate k 0) P
 have ho3 : rdB d.img 1 = rdB D1.img 1 := by
  rw [← hD1]
  exact (rd_wpN_other d _ _ _ (by omega) P (fun a ha => by rw [pgK_get hP6 ha]; omega)).symm
 rw [hD1] at e1 e2 e3 e4 HFM
 obtain ⟨SP, hSP⟩ : ∃ L, suL (suF m k P) = L := ⟨_, rfl⟩
 have HSP := Lib.hid hSP
 have HIP : Hid ((Tryz.prog.info? 72).map (·.size) = some SP.length) := Lib.hid (by rw [← hSP]; exact infoSup)
 have CWP : Hid (∀ X g g2, DkAt n0 X B iv jv d → n0 ≤ X.heap.size → BoxC X g (ctK m P) → BoxC X g2 (List.replicate k 0) → Calls Tryz.prog 92 #[.pointer (some ⟨B, 0, none⟩), .agg SP.toArray, .slice (some ⟨g, 0, none⟩) m m, .slice (some ⟨g2, 0, none⟩) k k] X fun e w' => e = .returned (.int .i64 0) ∧ ∃ jv', DkAt n0 w' B iv jv' D1 ∧ Chg (dF B iv jv) X w' (dF B iv jv')) := Lib.hid (fun X g g2 hX hXn hg hg2 => by
  have h9 := swp_at n0 X B iv jv d hX hXn hl hd (suF m k P) (fun i => by have := pgK_le hP6 i; show (pgK P).getD i 0 < _; omega) (.slice (some ⟨g, 0, none⟩) m m) (.slice (some ⟨g2, 0, none⟩) k k) 0 0 (ctK m P) (List.replicate k 0) (by rw [hcl]; exact own_of_box hg hcl (by omega)) (by rw [hrl]; exact own_of_box hg2 hrl (by omega)) (by omega) (by omega) (ctK_lt m P) (fun c hc => by rw [List.eq_of_mem_replicate hc]; omega) P (by rw [hcl, hrl]; exact hP) hP6 (fun i hi => by
   show (2 + (pgK P).getD i 0) * 4 + 4 ≤ _
   rw [pgK_get hP6 hi]; omega) hn (by omega)
  rw [suL_v, hSP] at h9
  rw [show (suF m k P).pages = pgK P from rfl, hD1] at h9
  exact h9)
 have CFL : Hid (∀ X jv', DkAt n0 X B iv jv' D1 → Calls Tryz.prog 60 #[.pointer (some ⟨B, 0, none⟩)] X fun e w' => e = .returned (.int .i64 0) ∧ DkAt n0 w' B iv (.slice none 0 0) D1.fl ∧ Mods [B] X w') := Lib.hid (fun X jv' hX => dflush_at n0 X B iv jv' D1 hX (by rw [e2]; exact hl) (by rw [e3]; exact hd) (by omega))
 have CW0 : Hid (∀ X, DkAt n0 X B iv (.slice none 0 0) D1.fl → n0 ≤ X.heap.size → Calls Tryz.prog 29 #[.pointer (some ⟨B, 0, none⟩), .int .i64 0, .agg (bV (zeros 256)).toArray] X fun e w' => e = .returned (.int .i64 0) ∧ ∃ jv', DkAt n0 w' B iv jv' (D1.fl.wrK 0 (zeros 256)) ∧ Chg (dF B iv (.slice none 0 0)) X w' (dF B iv jv')) := Lib.hid (fun X hX hXn => swrite_at n0 X B iv _ D1.fl hX hXn (by show D1.left < 0; rw [e2]; exact hl) (by show D1.dead = false; rw [e3]; exact hd) 0 (zeros 256) List.length_replicate (by show 0 * 4 + 4 ≤ D1.img.length; omega) (by show D1.img.length ≤ _; omega) (by show (0 : Nat) ≤ _; omega))
 have CSV : Hid (∀ X jv', DkAt n0 X B iv jv' (D1.fl.wrK 0 (zeros 256)) → n0 ≤ X.heap.size → Calls Tryz.prog 28 #[.pointer (some ⟨B, 0, none⟩), .agg SP.toArray] X fun e w' => e = .returned (.int .i64 0) ∧ DkAt n0 w' B iv (.slice none 0 0) (d.fmt m k) ∧ Chg (dF B iv jv') X w' (dF B iv (.slice none 0 0))) := Lib.hid (fun X jv' hX hXn => by
  obtain ⟨f1, f2, f3, f4⟩ := Dk.wrN_at D1.fl 0 (zeros 256) 4
  have hil : (D1.fl.wrK 0 (zeros 256)).img.length = d.img.length := by
   rw [Dk.wrK_img, wrB_len]
   exact e1
  have h9 := ssave_at n0 X B iv jv' _ hX hXn (by show (Dk.wrN _ _ _ 4).left < 0; rw [f2]; show D1.left < 0; rw [e2]; exact hl) (by show (Dk.wrN _ _ _ 4).dead = false; rw [f3]; show D1.dead = false; rw [e3]; exact hd) (suF m k P) (suF_wf m k hP6) (suF_may h1 h2 h3 h4 hP6 (by omega)) (by rw [hil]; omega) (by rw [hil]; omega) (by show (Dk.wrN _ _ _ 4).jr.length ≤ _; rw [f4]; show 0 + 4 ≤ _; omega) ZL er (by
   show OfC (rdB (D1.fl.wrK 0 (zeros 256)).img 1) ZL er
   rw [Dk.wrK_img, rd_wr_other (by show 1 * 4 + 4 ≤ D1.img.length; omega) (by omega)]
   show OfC (rdB D1.img 1) ZL er
   rw [← ho3]
   exact ho)
  rw [suL_v, hSP, ← HFM.out] at h9
  exact h9)
 have CMY : Hid (∀ X, Calls Tryz.prog 89 #[.agg (suL (suF m k 0)).toArray] X fun e w' => e = .returned (.bool true) ∧ Below X.heap.size X w') := Lib.hid (fun X => smay_yes X (suF m k 0) (suF_wf m k (by omega)) (suF_may h1 h2 h3 h4 (by omega) (by omega)))
 have CBL : Hid (∀ X, Calls Tryz.prog 91 #[.int .i64 (m : Int), .int .i64 (k : Int)] X fun e w' => e = .returned (.int .i64 (2 + (m : Int) + (k : Int))) ∧ X = w') := Lib.hid (fun X => sblocks_any X m k (by omega) (by omega))
 have CSC : Hid (∀ X, DkAt n0 X B iv jv d → Calls Tryz.prog 66 #[.pointer (some ⟨B, 0, none⟩)] X fun e w' => e = .returned (.int .i64 (d.img.length : Int)) ∧ X = w') := Lib.hid (fun X hX => dsec_at n0 X B iv jv d hX)
 have HDK := Lib.hid h
 have HNB := Lib.hid hn0
 obtain ⟨n, hnn⟩ : ∃ n, d.img.length = n := ⟨_, rfl⟩
 rw [hnn] at CSC hsec hn
 have HNN := Lib.hid hnn
 clear h hn0 hl hd hj ho hcl hrl e1 e2 e3 e4 ho3 hSP hD1 HFM hP hnn
 obtain ⟨SL, hSL⟩ : ∃ L, suL (suF m k 0) = L := ⟨_, rfl⟩
 rw [hSL] at CMY
 have HS19 : Hid (SL.length = 19) := Lib.hid (by rw [← hSL]; rfl)
 have HS1 : Hid (∀ u ∈ SL, u.oneCell' = true) := Lib.hid (by rw [← hSL]; exact suL_one _)
 have HBU : Hid (Tryz.prog.built 72 [(0, .int .u64 1), (1, .int .i64 (m : Int)), (2, .int .i64 (k : Int))] = some SL.toArray) := Lib.hid (by rw [← hSL]; kernel_rfl)
 have HSE := Lib.hid hSL
 have hss : SL.toArray.size = 19 := by rw [List.size_toArray, HS19.out]
 have HIS : Hid ((Tryz.prog.info? 72).map (·.size) = some SL.length) := Lib.hid (by rw [HS19.out]; exact infoSup)
 have hbz : ∀ W, (Instr.build 78 #[]).run Tryz.prog W = .ok (.agg (bV (zeros 256)).toArray) W := fun W => run_build W 78 #[] _ (by kernel_rfl)
 have HBZ := Lib.hid hbz
 clear hSL hbz
 go_enter Tryz.func47, Tryz.ntmps47
 go_upto_region 1 with fail
 apply wp_region_lit
 iterate 6 go_step
 refine wpL_build (by kernel_rfl) 72 _ rfl #[(0, .int .u64 1), (1, .int .i64 (m : Int)), (2, .int .i64 (k : Int))] (by simp only [List.map_toArray, List.map_cons, List.map_nil]; rfl) SL.toArray HBU.out ?_
 repeat (first
  | (refine wpList_store_mid rfl 72 _ _ rfl w.heap.size 0 SL.toArray rfl rfl (thereOf (heap_alloc_new w _) (by rw [hss]; simp)) (by rw [hss]; exact infoSup) (Array.all_eq_true_iff_forall_mem.2 (fun v hv => HS1.out v (by simpa using hv))) ?_; refine Hid.out ?_)
  | go_step)
 refine Lib.hid ?_
 simp only [List.toList_toArray]
 obtain ⟨w1, hw1⟩ : ∃ W, (w.alloc (.cells #[.int .u64 0, .int .i64 0, .int .i64 0, .int .u32 0, .int .u32 0, .int .u32 0, .int .u32 0, .int .u32 0, .int .u32 0, .int .u32 0, .int .u32 0, .int .u32 0, .int .i64 0, .int .u64 0, .int .u64 0, .int .u64 0, .int .u64 0, .int .u64 0, .bool false] 72)).setCells w.heap.size 0 SL = W := ⟨_, rfl⟩
 have HB1 : Hid (Below w.heap.size w w1) := Lib.hid (by rw [← hw1]; exact belowSets (Nat.le_refl _) _ _ _ (balloc (Below.refl _ _) _))
 have HX1 : Hid (w1.heap[w.heap.size]? = some (.cells SL.toArray 72 (0, 0))) := Lib.hid (by rw [← hw1]; exact sets_all (heap_alloc_new _ _) (by rw [HS19.out]; rfl))
 rw [hw1]
 have CS1 := CSC.out w1 (HDK.out.below HB1.out)
 have hz : ((n : Int) == 0) = false := by simp; omega
 clear hw1 hss
 go_wp2_with fail
 refine CS1.mono ?_
 rintro e w2 ⟨rfl, rfl⟩
 clear CS1
 go_upto_region 4 with fail
 apply wp_region_lit
 repeat (first
  | (refine wpList_load_mid rfl 72 _ rfl w.heap.size 0 rfl SL _ (rangeOf HX1.out) Tryz.underlying72 rfl HIS.out ?_)
  | go_step)
 refine (CMY.out w1).mono ?_
 rintro e w2 ⟨rfl, hb2⟩
 dsimp only
 have HB2 := Lib.hid (bthn HB1.out hb2)
 have HX2 : Hid (w2.heap[w.heap.size]? = some (.cells SL.toArray 72 (0, 0))) := Lib.hid ((hb2.block _ (Array.getElem?_eq_some_iff.1 HX1.out).1).trans HX1.out)
 have CP := HPM.out w2
 have CB := CBL.out w2
 have CS := CSC.out w2 (HDK.out.below HB2.out)
 have CP2 := CP
 have q1 : decide ((6 : Int) < (P : Int)) = false := decide_eq_false (by omega)
 have q2 : decide ((m : Int) ≤ (P : Int)) = false := decide_eq_false (by omega)
 have q3 : decide (m ≤ P) = false := decide_eq_false (by omega)
 have q4 : decide ((n : Int) < 4 * (2 + (m : Int) + (k : Int))) = false := decide_eq_false (by omega)
 clear hb2
 go_wp2_with fail
 refine CP.mono ?_
 rintro e x2 ⟨rfl, rfl⟩
 clear CP
 go_wp2_with fail
 refine CP2.mono ?_
 rintro e x2 ⟨rfl, rfl⟩
 clear CP2
 go_wp2_with fail
 refine CS.mono ?_
 rintro e x2 ⟨rfl, rfl⟩
 clear CS
 go_wp2_with fail
 refine CB.mono ?_
 rintro e x2 ⟨rfl, rfl⟩
 clear CB
 have hmk : ∀ W, (Instr.makeSlice 188 (.int .i64 (m : Int)) (.int .i64 (m : Int))).run Tryz.prog W = .ok (.slice (some ⟨W.heap.size, 0, none⟩) m m) (W.alloc (.cells (cV (List.replicate m 0)).toArray 172)) := fun W => run_mk16 W m (by omega)
 obtain ⟨g, hg⟩ : ∃ g, w2.heap.size = g := ⟨_, rfl⟩
 obtain ⟨w3, hw3⟩ : ∃ W, w2.alloc (.cells (cV (List.replicate m 0)).toArray 172) = W := ⟨_, rfl⟩
 have hb3 : Below w2.heap.size w2 w3 := by rw [← hw3]; exact balloc (Below.refl _ _) _
 have hx3 : BoxC w3 g (List.replicate m 0) := by unfold BoxC; rw [← hw3, ← hg]; exact heap_alloc_new _ _
 obtain ⟨hc3, hf3⟩ := hx3.cell (j := 0) (by rw [List.length_replicate]; omega)
 have HB3 : Hid (Below w.heap.size w (w3.setCell ⟨g, 0, none⟩ (.int .u16 1))) := Lib.hid ((bthn HB2.out hb3).setCell (p := ⟨g, 0, none⟩) (by rw [← hg]; exact HB2.out.size) _)
 have HXC3 : Hid (BoxC (w3.setCell ⟨g, 0, none⟩ (.int .u16 1)) g (ctK m 0)) := Lib.hid (by rw [← ctK_0 (by omega)]; exact hx3.set 0 1)
 have HGN : Hid (w.heap.size < g) := Lib.hid (by rw [← hg]; exact (Array.getElem?_eq_some_iff.1 HX2.out).1)
 have HX3 : Hid ((w3.setCell ⟨g, 0, none⟩ (.int .u16 1)).heap[w.heap.size]? = some (.cells (suL (suF m k 0)).toArray 72 (0, 0))) := Lib.hid ((Below.heap_setCell w3 ⟨g, 0, none⟩ _ _ (by have := HGN.out; show w.heap.size ≠ g; omega)).trans ((hb3.block _ (Array.getElem?_eq_some_iff.1 HX2.out).1).trans (by rw [HSE.out]; exact HX2.out)))
 clear hb3 hx3 q1 q2 q3 q4 hz
 go_upto_region 8 with fail
 (try rw [hw3])
 (try rw [hg])
 clear hmk hw3 hg hc3 hf3
 obtain ⟨w4, hw4⟩ : ∃ W, w3.setCell ⟨g, 0, none⟩ (.int .u16 1) = W := ⟨_, rfl⟩
 rw [hw4] at HB3 HXC3 HX3
 rw [hw4]
 clear hw4
 have CP := HPM.out w4
 go_wp2_with fail
 refine CP.mono ?_
 rintro e x2 ⟨rfl, rfl⟩
 clear CP
 go_wp2_with fail
 go_loopw [53] (fun v wr => ∃ i : Nat, i ≤ P ∧ v = .int .i64 (i : Int) ∧ Below w.heap.size w wr ∧ wr.heap[w.heap.size]? = some (.cells (suL (suF m k i)).toArray 72 (0, 0)) ∧ BoxC wr g (ctK m i)) (fun v _ => P - (Go.RowKit.intOf v).toNat)
 case atStart => exact ⟨0, by omega, rfl, HB3.out, HX3.out, HXC3.out⟩
 case round =>
  obtain ⟨i, hi, rfl, hbw, hxs, hxc⟩ := hrel
  have HBW := Lib.hid hbw
  have HXS := Lib.hid hxs
  have HXC := Lib.hid hxc
  clear hbw hxs hxc
  by_cases hlt : i < P
  ·have hi6 : (i : Int) < 6 := by omega
   have hw1 : IntKind.u32.wrap ((i : Int) + 1) = (i : Int) + 1 := by rw [IntKind.wrap_u32]; omega
   have hc0 := cellOf HXS.out (3 + i) (v := .int .u32 (((suF m k i).pages.getD i 0 : Nat) : Int)) (by rw [List.getElem?_toArray]; exact suL_pg _ (by omega))
   have hf0 := frozenOf HXS.out (3 + i)
   go_upto_region 12 with fail
   clear hc0 hf0
   obtain ⟨x1, hx1⟩ : ∃ W, wr.setCell ⟨w.heap.size, 3 + i, none⟩ (.int .u32 ((i : Int) + 1)) = W := ⟨_, rfl⟩
   have hsx := setOf HXS.out (3 + i) (.int .u32 ((i : Int) + 1))
   rw [suF_set m k (by omega), hx1] at hsx
   have hcx : BoxC x1 g (ctK m i) := by rw [← hx1]; exact (Below.heap_setCell wr ⟨w.heap.size, 3 + i, none⟩ _ g (by have := HGN.out; show g ≠ w.heap.size; omega)).trans HXC.out
   have HBX : Hid (Below w.heap.size w x1) := Lib.hid (by rw [← hx1]; exact HBW.out.setCell (p := ⟨w.heap.size, 3 + i, none⟩) (Nat.le_refl _) _)
   rw [hx1]
   clear hx1
   have HSX := Lib.hid hsx
   have HCX := Lib.hid hcx
   obtain ⟨hc1, hf1⟩ := hcx.cell (j := i + 1) (by rw [ctK_len (by omega)]; omega)
   have him : (i : Int) + 1 < (m : Int) := by omega
   have htn : ((i : Int) + 1).toNat = i + 1 := by omega
   clear hsx hcx
   go_wp2_with fail
   go_roundw
   case rel => exact ⟨i + 1, by omega, by go_num, HBX.out.setCell (p := ⟨g, i + 1, none⟩) (Nat.le_of_lt HGN.out) _, (Below.heap_setCell x1 ⟨g, i + 1, none⟩ _ _ (by have := HGN.out; show w.heap.size ≠ g; omega)).trans HSX.out, by rw [← ctK_set (by omega)]; exact HCX.out.set (i + 1) 1⟩
   case measure => simp [Go.RowKit.intOf]; omega
  ·obtain rfl : i = P := by omega
   go_wp2_with fail
   have hxs := HXS.out
   rw [HSP.out] at hxs
   have HXP := Lib.hid hxs
   have HDW := Lib.hid (HDK.out.below HBW.out)
   have HRP : Hid (wr.rangeAt w.heap.size 0 SP) := Lib.hid (rangeOf HXP.out)
   have HPL : Hid (w.heap.size < wr.heap.size ∧ w.heap.size ∉ dF B iv jv) := Lib.hid ⟨(Array.getElem?_eq_some_iff.1 HXP.out).1, HDW.out.apart HXP.out (by decide) (by decide) (by decide)⟩
   clear hxs
   have HSS : Hid (∀ X, Mods (dF B iv jv) wr X → (X.rangeAt w.heap.size 0 SP) ∧ Mods (dF B iv jv) wr X) := Lib.hid (fun X hb => ⟨(fun j u hj => (World.cell?_of_block (a := ⟨w.heap.size, 0 + j, none⟩) (hb.block w.heap.size HPL.out.1 HPL.out.2)).trans (HRP.out j u hj)), hb⟩)
   refine wp_region_held_drew (S := fun X => (X.rangeAt w.heap.size 0 SP) ∧ Mods (dF B iv jv) wr X) (by kernel_rfl) (HSS.out _ (Mods.of_below (Below.refl _ _).drew)) (fun hHeld => ?_)
   have hbe : Below wr.heap.size wr wr.drew := (Below.refl _ _).drew
   obtain ⟨wd, hwd⟩ : ∃ y, wr.drew = y := ⟨_, rfl⟩
   rw [hwd] at hHeld hbe ⊢
   have HBE := Lib.hid hbe
   have HS0 : Hid (wr.heap.size ≤ wd.heap.size) := Lib.hid HBE.out.size
   clear hwd hbe
   refine wpAnyH_take (i := 0) (v := ?_) rfl (by kernel_rfl) (by kernel_rfl) (by kernel_rfl) (fun _ _ _ h => h) (Or.inl ⟨by rfl, ?_⟩) (by assumption) ?_
   rotate_left
   ·(intro w hSw; (try dsimp only at hSw); simp only [List.getElem_toArray, List.getElem_cons_zero, List.getElem_cons_succ]; go_simp; first | done | with_reducible rfl)
   simp only [List.getElem_toArray, List.getElem_cons_zero, List.getElem_cons_succ, Act.put, List.setIfInBounds_toArray, List.set_cons_zero, List.set_cons_succ]
   refine wpAnyH_take (i := 1) (v := _) rfl (by kernel_rfl) (by kernel_rfl) (by kernel_rfl) (fun _ _ _ h => h) (yieldsIf_load_mid (by rfl) 72 _ rfl (w.heap.size) (0) rfl (SP) _ (fun w hSw => hSw.1) (Tryz.underlying72) rfl (HIP.out)) (by assumption) ?_
   simp only [List.getElem_toArray, List.getElem_cons_zero, List.getElem_cons_succ, Act.put, List.setIfInBounds_toArray, List.set_cons_zero, List.set_cons_succ]
   refine wpAnyH_take (i := 2) (v := ?_) rfl (by kernel_rfl) (by kernel_rfl) (by kernel_rfl) (fun _ _ _ h => h) (Or.inl ⟨by rfl, ?_⟩) (by assumption) ?_
   rotate_left
   ·(intro w hSw; (try dsimp only at hSw); simp only [List.getElem_toArray, List.getElem_cons_zero, List.getElem_cons_succ]; go_simp; first | done | with_reducible rfl)
   simp only [List.getElem_toArray, List.getElem_cons_zero, List.getElem_cons_succ, Act.put, List.setIfInBounds_toArray, List.set_cons_zero, List.set_cons_succ]
   refine wpAnyH_take (i := 3) (v := ?_) rfl (by kernel_rfl) (by kernel_rfl) (by kernel_rfl) (fun _ _ _ h => h) (Or.inl ⟨by rfl, ?_⟩) (by assumption) ?_
   rotate_left
   ·(intro w hSw; (try dsimp only at hSw); simp only [List.getElem_toArray, List.getElem_cons_zero, List.getElem_cons_succ]; go_simp; first | done | with_reducible rfl)
   simp only [List.getElem_toArray, List.getElem_cons_zero, List.getElem_cons_succ, Act.put, List.setIfInBounds_toArray, List.set_cons_zero, List.set_cons_succ]
   refine wpAnyH_ready (rs := [4]) (by kernel_rfl) (by simp) ?_
   refine AllReadyH.cons rfl (fun K hK => ?_) (AllReadyH.nil)
   obtain ⟨w14, hw14⟩ : ∃ W, wd.alloc (.cells (cV (List.replicate k 0)).toArray 172) = W := ⟨_, rfl⟩
   obtain ⟨g2, hg2⟩ : ∃ g, wd.heap.size = g := ⟨_, rfl⟩
   have hmk := run_mk16 wd k (by omega)
   rw [hw14, hg2] at hmk
   have hb14 : Below wd.heap.size wd w14 := by rw [← hw14]; exact balloc (Below.refl _ _) _
   have HBC2 : Hid (BoxC w14 g2 (List.replicate k 0)) := Lib.hid (by unfold BoxC; rw [← hw14, ← hg2]; exact heap_alloc_new _ _)
   have HBE := Lib.hid (bthn HBE.out hb14)
   clear hw14 hb14
   simp only [List.getElem_toArray, List.getElem_cons_zero, List.getElem_cons_succ]
   go_simp
   refine hK.out _ _ ?_ (fun hHeld => ?_)
   ·exact HSS.out _ (Mods.of_below HBE.out)
   clear hK K
   try simp only [Act.put, List.setIfInBounds_toArray, List.set_cons_zero, List.set_cons_succ]
   clear hmk hg2
   refine wpAnyH_ready (rs := [5]) (by kernel_rfl) (by simp) ?_
   refine AllReadyH.cons rfl (fun K hK => ?_) (AllReadyH.nil)
   simp only [List.getElem_toArray, List.getElem_cons_zero, List.getElem_cons_succ]
   go_simp
   refine (CWP.out _ g g2 (HDW.out.below HBE.out) (Nat.le_trans HNB.out (Nat.le_trans HBW.out.size HBE.out.size)) ((HBE.out.block _ (Array.getElem?_eq_some_iff.1 HXC.out).1).trans HXC.out) HBC2.out).mono ?_
   rintro e w9 ⟨rfl, jv1, hd9, hc9⟩
   dsimp only
   refine hK.out _ _ ?_ (fun hHeld => ?_)
   ·exact HSS.out _ ((Mods.of_below HBE.out).trans hc9.1 (fun i hi => .inl hi))
   clear hK K
   try simp only [Act.put, List.setIfInBounds_toArray, List.set_cons_zero, List.set_cons_succ]
   have HD9 := Lib.hid hd9
   have HC9 : Hid (Chg (dF B iv jv) w w9 (dF B iv jv1)) := Lib.hid (Chg.pre (bthn HBW.out HBE.out) hc9)
   have HX9 : Hid (w9.heap[w.heap.size]? = some (.cells SP.toArray 72 (0, 0))) := Lib.hid ((hc9.1.block _ (Nat.lt_of_lt_of_le HPL.out.1 HBE.out.size) HPL.out.2).trans ((HBE.out.block _ HPL.out.1).trans HXP.out))
   clear hd9 hc9
   refine wpAnyH_take (i := 6) (v := ?_) rfl (by kernel_rfl) (by kernel_rfl) (by kernel_rfl) (fun _ _ _ h => h) (Or.inl ⟨by rfl, ?_⟩) (by assumption) ?_
   rotate_left
   ·(intro w hSw; (try dsimp only at hSw); simp only [List.getElem_toArray, List.getElem_cons_zero, List.getElem_cons_succ]; go_simp; first | done | with_reducible rfl)
   simp only [List.getElem_toArray, List.getElem_cons_zero, List.getElem_cons_succ, Act.put, List.setIfInBounds_toArray, List.set_cons_zero, List.set_cons_succ]
   refine wpAnyH_done (by kernel_rfl) ?_ _
   have HEND := Lib.hid hHeld.2
   have HSE := Lib.hid hHeld.1
   clear hHeld
   clear HSS HSE HEND
   have CF := CFL.out w9 jv1 HD9.out
   go_wp2_with fail
   refine CF.mono ?_
   rintro e w10 ⟨rfl, hd10, hm10⟩
   have HC10 : Hid (Chg (dF B iv jv) w w10 (dF B iv (.slice none 0 0))) := Lib.hid (HC9.out.trans (chg_flush hm10))
   have C0 := CW0.out w10 hd10 (Nat.le_trans HNB.out HC10.out.size)
   have HX10 : Hid (w10.heap[w.heap.size]? = some (.cells SP.toArray 72 (0, 0))) := Lib.hid ((hm10.block _ (Array.getElem?_eq_some_iff.1 HX9.out).1 (fun hh => HD9.out.apart HX9.out (by decide) (by decide) (by decide) (by rw [List.mem_singleton.1 hh]; exact List.mem_cons_self ..))).trans HX9.out)
   have HD10 := Lib.hid hd10
   have hb0 := HBZ.out
   clear CF hd10 hm10
   go_wp2_with fail
   refine C0.mono ?_
   rintro e w11 ⟨rfl, jv2, hd11, hc11⟩
   dsimp only
   have HC11 := Lib.hid (HC10.out.trans hc11)
   have HX11 : Hid (w11.heap[w.heap.size]? = some (.cells SP.toArray 72 (0, 0))) := Lib.hid ((hc11.1.block _ (Array.getElem?_eq_some_iff.1 HX10.out).1 (HD10.out.apart HX10.out (by decide) (by decide) (by decide))).trans HX10.out)
   have CS := CSV.out w11 jv2 hd11 (Nat.le_trans HNB.out HC11.out.size)
   clear C0 hd11 hc11 hb0
   go_upto_region 23 with fail
   apply wp_region_lit
   repeat (first
    | (refine wpList_load_mid rfl 72 _ rfl w.heap.size 0 rfl SP _ (rangeOf HX11.out) Tryz.underlying72 rfl HIP.out ?_)
    | go_step)
   refine CS.mono ?_
   rintro e w12 ⟨rfl, hd12, hc12⟩
   dsimp only
   have HD12 := Lib.hid hd12
   have HC12 := Lib.hid (HC11.out.trans hc12)
   clear CS hd12 hc12
   go_wp2_with fail
   go_ret
   exact ⟨rfl, HD12.out, HC12.out⟩
end Go.Proofs.YtgmahhdnjikdjaaGreat
/- The two kinds of area in memory: a struct of two slices and two numbers; what stays, what a store leaves. -/
namespace Go.Proofs.YtgmahhdnjikdjaaGreat
open Go.RowKit
set_option linter.unusedVariables false
/-- An area's numbers. -/
structure M where
 now : List Nat
 was : List Nat
 at_ : Nat
 kept : Nat
/-- Counts as cells. -/
def kV (kd : IntKind) (l : List Nat) : List Value := l.map fun (k : Nat) => .int kd (k : Int)
theorem kV_len (kd : IntKind) (l : List Nat) : (kV kd l).length = l.length := by simp [kV]
theorem kV_get {kd : IntKind} {l : List Nat} {j k : Nat} (h : l[j]? = some k) : (kV kd l)[j]? = some (.int kd (k : Int)) := by simp [kV, h]
theorem kV_one (kd : IntKind) (l : List Nat) : ∀ u ∈ kV kd l, u.oneCell' = true := by
 intro u hu
 obtain ⟨b, _, rfl⟩ := List.mem_map.1 hu
 rfl
theorem kV_set (kd : IntKind) (l : List Nat) (i k : Nat) : kV kd (l.set i k) = (kV kd l).set i (.int kd (k : Int)) := by simp [kV, List.map_set]
/-- A slice that holds counts, its row block g of cells; full: the block has just the slice's room. -/
def Row (E : TypeId) (kd : IntKind) (w : World) (g n cap : Nat) (xs : List Nat) : Prop :=
 ∃ cs, w.heap[g]? = some (.cells cs E (0, 0)) ∧ xs.length = n ∧ n ≤ cap ∧ cap ≤ maxLen ∧ cap ≤ cs.size ∧ cs.toList.take n = kV kd xs
theorem Row.lt {E : TypeId} {kd : IntKind} {w : World} {g n cap : Nat} {xs : List Nat} (h : Row E kd w g n cap xs) : g < w.heap.size := by
 obtain ⟨cs, hh, _⟩ := h
 exact (Array.getElem?_eq_some_iff.1 hh).1
theorem Row.same {E : TypeId} {kd : IntKind} {w w' : World} {g n cap : Nat} {xs : List Nat} (h : Row E kd w g n cap xs) (hs : w'.heap[g]? = w.heap[g]?) : Row E kd w' g n cap xs := by
 obtain ⟨cs, hh, r⟩ := h
 exact ⟨cs, hs.trans hh, r⟩
theorem Row.cell {E : TypeId} {kd : IntKind} {w : World} {g n cap : Nat} {xs : List Nat} (h : Row E kd w g n cap xs) {i k : Nat} (hk : xs[i]? = some k) : w.cell? ⟨g, i, none⟩ = some (.int kd (k : Int)) := by
 obtain ⟨cs, hh, hl, hn, hm, hc, ht⟩ := h
 refine cellOf hh i ?_
 have hi : i < n := by rw [← hl]; exact (List.getElem?_eq_some_iff.1 hk).1
 have := kV_get (kd := kd) hk
 rw [← ht, List.getElem?_take, if_pos hi] at this
 simpa using this
theorem Row.frozen {E : TypeId} {kd : IntKind} {w : World} {g n cap : Nat} {xs : List Nat} (h : Row E kd w g n cap xs) (i : Nat) : w.frozen? ⟨g, i, none⟩ = false := by
 obtain ⟨cs, hh, _⟩ := h
 exact frozenOf hh i
theorem Row.rd {E : TypeId} {kd : IntKind} {w : World} {g n cap : Nat} {xs : List Nat} (h : Row E kd w g n cap xs) : Rd w 1 (.slice (some ⟨g, 0, none⟩) n cap) n (kV kd xs) := by
 have h2 := h
 obtain ⟨cs, hh, hl, hn, hm, hc, ht⟩ := h2
 refine ⟨_, _, rfl, by simp [kV_len, hl], by omega, ⟨(fun e => by cases e), hn, hm⟩, fun j u hj => ⟨g, 0, rfl, h.lt, ?_⟩⟩
 simp only [kV, List.getElem?_map, Option.map_eq_some_iff] at hj
 obtain ⟨k, hk, rfl⟩ := hj
 rw [Nat.zero_add]
 exact h.cell hk
theorem Row.of_own {E : TypeId} {kd : IntKind} {w : World} {base n : Nat} {v : Value} {xs : List Nat} (h : w.ownsRow base E 1 v n (kV kd xs)) (hn : v ≠ .slice none 0 0) : ∃ g cap, v = .slice (some ⟨g, 0, none⟩) n cap ∧ base ≤ g ∧ Row E kd w g n cap xs := by
 have h1 := h.1
 rcases h.2 with ⟨rfl, rfl⟩ | ⟨g, cap, cur, rfl, hb, hg, hnc, hcm, hcs, ht⟩
 ·exact absurd rfl hn
 ·exact ⟨g, cap, rfl, hb, cur, hg, by simpa [kV_len] using h1, hnc, hcm, by omega, by simpa using ht⟩
theorem Row.set {E : TypeId} {kd : IntKind} {w : World} {g n cap : Nat} {xs : List Nat} (h : Row E kd w g n cap xs) (i k : Nat) : Row E kd (w.setCell ⟨g, i, none⟩ (.int kd (k : Int))) g n cap (xs.set i k) := by
 obtain ⟨cs, hh, hl, hn, hm, hc, ht⟩ := h
 refine ⟨_, setOf hh i _, by simpa using hl, hn, hm, by simpa using hc, ?_⟩
 rw [kV_set, ← ht, Array.toList_setIfInBounds]
 exact List.take_set ..
/-- An area lies at block p: F are its blocks. -/
structure ArAt (T E : TypeId) (kd : IntKind) (w : World) (p g1 g2 n1 c1 n2 c2 : Nat) (A : M) : Prop where
 here : w.heap[p]? = some (.cells #[.slice (some ⟨g1, 0, none⟩) n1 c1, .slice (some ⟨g2, 0, none⟩) n2 c2, .int .i64 (A.at_ : Int), .int .i64 (A.kept : Int)] T (0, 0))
 r1 : Row E kd w g1 n1 c1 A.now
 r2 : Row E kd w g2 n2 c2 A.was
 ne : g1 ≠ g2
 np1 : p ≠ g1
 np2 : p ≠ g2
namespace ArAt
variable {T E : TypeId} {kd : IntKind} {w w' : World} {p g1 g2 n1 c1 n2 c2 : Nat} {A : M} (h : ArAt T E kd w p g1 g2 n1 c1 n2 c2 A)
include h
theorem k0 : w.cell? ⟨p, 0, none⟩ = some (.slice (some ⟨g1, 0, none⟩) n1 c1) := cellOf h.here 0 rfl
theorem k1 : w.cell? ⟨p, 1, none⟩ = some (.slice (some ⟨g2, 0, none⟩) n2 c2) := cellOf h.here 1 rfl
theorem k2 : w.cell? ⟨p, 2, none⟩ = some (.int .i64 (A.at_ : Int)) := cellOf h.here 2 rfl
theorem k3 : w.cell? ⟨p, 3, none⟩ = some (.int .i64 (A.kept : Int)) := cellOf h.here 3 rfl
theorem fr (i : Nat) : w.frozen? ⟨p, i, none⟩ = false := frozenOf h.here i
theorem lt : p < w.heap.size := (Array.getElem?_eq_some_iff.1 h.here).1
theorem same (hs : SameAt [p, g1, g2] w w') : ArAt T E kd w' p g1 g2 n1 c1 n2 c2 A :=
 ⟨(hs p (by simp)).trans h.here, h.r1.same (hs g1 (by simp)), h.r2.same (hs g2 (by simp)), h.ne, h.np1, h.np2⟩
theorem below (hb : Below w.heap.size w w') : ArAt T E kd w' p g1 g2 n1 c1 n2 c2 A :=
 h.same (fun k hk => by
  have : k < w.heap.size := by
   simp only [List.mem_cons, List.not_mem_nil, or_false] at hk
   rcases hk with rfl | rfl | rfl
   ·exact h.lt
   ·exact h.r1.lt
   ·exact h.r2.lt
  exact hb.block k this)
theorem setNow (i k : Nat) : ArAt T E kd (w.setCell ⟨g1, i, none⟩ (.int kd (k : Int))) p g1 g2 n1 c1 n2 c2 { A with now := A.now.set i k } :=
 ⟨(setOther _ _ h.np1).trans h.here, h.r1.set i k, h.r2.same (setOther _ _ (Ne.symm h.ne)), h.ne, h.np1, h.np2⟩
theorem setAt (k : Nat) : ArAt T E kd (w.setCell ⟨p, 2, none⟩ (.int .i64 (k : Int))) p g1 g2 n1 c1 n2 c2 { A with at_ := k } :=
 ⟨setOf h.here 2 _, h.r1.same (setOther _ _ (Ne.symm h.np1)), h.r2.same (setOther _ _ (Ne.symm h.np2)), h.ne, h.np1, h.np2⟩
theorem setKept (k : Nat) : ArAt T E kd (w.setCell ⟨p, 3, none⟩ (.int .i64 (k : Int))) p g1 g2 n1 c1 n2 c2 { A with kept := k } :=
 ⟨setOf h.here 3 _, h.r1.same (setOther _ _ (Ne.symm h.np1)), h.r2.same (setOther _ _ (Ne.symm h.np2)), h.ne, h.np1, h.np2⟩
end ArAt
/-- An area at block p, whose blocks are F. -/
def Ar (T E : TypeId) (kd : IntKind) (w : World) (p : Nat) (A : M) (F : List Nat) : Prop := ∃ g1 g2 c1 c2, F = [p, g1, g2] ∧ ArAt T E kd w p g1 g2 A.now.length c1 A.was.length c2 A
theorem Ar.same {T E : TypeId} {kd : IntKind} {w w' : World} {p : Nat} {A : M} {F : List Nat} (h : Ar T E kd w p A F) (hs : SameAt F w w') : Ar T E kd w' p A F := by
 obtain ⟨g1, g2, c1, c2, rfl, h⟩ := h
 exact ⟨g1, g2, c1, c2, rfl, h.same hs⟩
theorem Ar.lt {T E : TypeId} {kd : IntKind} {w : World} {p : Nat} {A : M} {F : List Nat} (h : Ar T E kd w p A F) : ∀ k ∈ F, k < w.heap.size := by
 obtain ⟨g1, g2, c1, c2, rfl, h⟩ := h
 intro k hk
 simp only [List.mem_cons, List.not_mem_nil, or_false] at hk
 rcases hk with rfl | rfl | rfl
 ·exact h.lt
 ·exact h.r1.lt
 ·exact h.r2.lt
/-- What a call that changes an area leaves of the world. -/
def Left (F : List Nat) (w w' : World) (F' : List Nat) : Prop := Mods F w w' ∧ ∀ k ∈ F', k ∈ F ∨ w.heap.size ≤ k
theorem Left.refl (F : List Nat) (w : World) : Left F w w F := ⟨Mods.refl F w, fun k h => .inl h⟩
theorem Left.trans {F G H : List Nat} {a b c : World} (h : Left F a b G) (k : Left G b c H) : Left F a c H :=
 ⟨h.1.trans k.1 h.2, fun i hi => by
  rcases k.2 i hi with h1 | h1
  ·exact h.2 i h1
  ·exact .inr (Nat.le_trans h.1.size h1)⟩
/-- What is right of an area. -/
structure M.Ok (A : M) : Prop where
 pos : 0 < A.now.length
 max : A.now.length ≤ 1000
 len : A.was.length = A.now.length
 at_ : A.at_ < A.now.length
 kept : A.kept < A.now.length
 now : ∀ k ∈ A.now, k < 65536
 was : ∀ k ∈ A.was, k < 65536
theorem infoC16 : (Tryz.prog.info? 172).map (fun i => (i.zero, i.size, i.bytes)) = some (some (.int .u16 0), 1, 2) := by kernel_rfl
set_option maxRecDepth 100000 in
set_option maxHeartbeats 400000 in
/-- slices.Clone at []uint16. -/
theorem clone16 (v : Value) (n : Nat) (bs : List Nat) (w : World) (h : Rd w 1 v n (kV .u16 bs)) (hn : n ≤ 1000000) :
  Calls Tryz.prog 170 #[v] w fun e w' => ∃ v', e = .returned v' ∧ w'.ownsRow w.heap.size 172 1 v' n (kV .u16 bs) ∧ Below w.heap.size w w' := by
 have hrd := h
 obtain ⟨ao, cap, rfl, hl, hm, hcap, hc⟩ := h
 cases ao with
 | none =>
  obtain rfl := hcap.1 rfl
  have hb : bs = [] := by
   cases bs with
   | nil => rfl
   | cons y ys => obtain ⟨b, off, h0, _⟩ := hc 0 _ (kV_get rfl); cases h0
  subst hb
  obtain rfl : n = 0 := by simpa [kV] using hl.symm
  clear hl hm hcap hc hrd
  have he := fun w a n c => Lib.run_eql_slice_nil (P := Tryz.prog) w 188 172 a n c 0 0 Tryz.underlying188
  go_enter Tryz.func170, Tryz.ntmps170
  go_wp2
  go_ret
  exact ⟨_, rfl, World.ownsRow_nil _ _ _ _, Below.refl _ _⟩
 | some ad =>
  clear hl hm hcap hc
  have he := fun w a n c => Lib.run_eql_slice_nil (P := Tryz.prog) w 188 172 a n c 0 0 Tryz.underlying188
  have ho0 : (w.alloc (.cells #[] 172)).ownsRow w.heap.size 172 1 (.slice (some ⟨w.heap.size, 0, none⟩) 0 0) 0 [] := World.ownsRow_made w #[] 0 (Nat.le_refl _) (by decide) rfl
  have hrd2 := hrd.below (balloc (Below.refl _ w) (.cells #[] 172))
  go_enter Tryz.func170, Tryz.ntmps170
  go_wp2_with (at_builtin; go_must (refine wpList_apps rfl _ _ 188 rfl w.heap.size 172 _ 1 2 Tryz.underlying188 infoC16 rfl (by decide) (by decide) _ 0 [] rfl ho0 _ n (kV .u16 bs) rfl hrd2 (kV_one _ bs) (by omega) (by simp) ?_); intro v' w1 ho1 hb1 _ _ _)
  go_ret
  exact ⟨_, rfl, by simpa using ho1, (balloc (Below.refl _ w) _).trans hb1⟩
end Go.Proofs.YtgmahhdnjikdjaaGreat
/- The methods of count.Area, walked: those that read. -/
namespace Go.Proofs.YtgmahhdnjikdjaaGreat
open Go.RowKit
set_option linter.unusedVariables false
abbrev IAt (w : World) (p g1 g2 n1 c1 n2 c2 : Nat) (A : M) : Prop := ArAt 244 172 .u16 w p g1 g2 n1 c1 n2 c2 A
abbrev IA (w : World) (p : Nat) (A : M) (F : List Nat) : Prop := Ar 244 172 .u16 w p A F
def pt (p : Nat) : Value := .pointer (some ⟨p, 0, none⟩)
def ctN (l : List Nat) (i : Nat) : Nat := l.getD i 0
theorem ctN_get {l : List Nat} {i : Nat} (h : i < l.length) : l[i]? = some (ctN l i) := by simp [ctN, List.getD, h]
def freeB (A : M) (i : Nat) : Bool := ctN A.now i == 0 && ctN A.was i == 0
set_option maxRecDepth 100000 in
set_option maxHeartbeats 400000 in
theorem len_any {w : World} {p g1 g2 n1 c1 n2 c2 : Nat} {A : M} (h : IAt w p g1 g2 n1 c1 n2 c2 A) :
  Calls Tryz.prog 140 #[pt p] w fun e w' => e = .returned (.int .i64 (n1 : Int)) ∧ w' = w := by
 have k0 := h.k0
 unfold pt
 go_enter Tryz.func140, Tryz.ntmps140
 go_wp2
 go_ret
 exact ⟨rfl, rfl⟩
set_option maxRecDepth 100000 in
set_option maxHeartbeats 800000 in
theorem free_any {w : World} {p g1 g2 n1 c1 n2 c2 : Nat} {A : M} (h : IAt w p g1 g2 n1 c1 n2 c2 A) (i : Nat) (h1 : i < A.now.length) (h2 : i < A.was.length) (hm : i ≤ 100000) :
  Calls Tryz.prog 141 #[pt p, .int .i64 (i : Int)] w fun e w' => e = .returned (.bool (freeB A i)) ∧ w' = w := by
 have k0 := h.k0
 have k1 := h.k1
 have e1 : n1 = A.now.length := by obtain ⟨cs, _, hl, _⟩ := h.r1; exact hl.symm
 have e2 : n2 = A.was.length := by obtain ⟨cs, _, hl, _⟩ := h.r2; exact hl.symm
 have q1 := h.r1.cell (ctN_get h1)
 have q2 := h.r2.cell (ctN_get h2)
 unfold pt freeB
 obtain ⟨x, hx⟩ : ∃ x, x = ctN A.now i := ⟨_, rfl⟩
 obtain ⟨y, hy⟩ : ∃ y, y = ctN A.was i := ⟨_, rfl⟩
 rw [← hx] at q1 ⊢
 rw [← hy] at q2 ⊢
 rw [← e1] at h1
 rw [← e2] at h2
 clear e1 e2 hx hy h
 by_cases hx : x = 0
 ·subst hx
  by_cases hy : y = 0
  ·subst hy
   go_enter Tryz.func141, Tryz.ntmps141
   go_wp2
   go_ret
   exact ⟨rfl, rfl⟩
  ·have hyi : ((y : Int) == 0) = false := by simpa using hy
   go_enter Tryz.func141, Tryz.ntmps141
   go_wp2
   go_ret
   exact ⟨by simp [hy], rfl⟩
 ·have hxi : ((x : Int) == 0) = false := by simpa using hx
  go_enter Tryz.func141, Tryz.ntmps141
  go_wp2
  go_ret
  exact ⟨by simp [hx], rfl⟩
/-- What 'has' says. -/
def ctE (n1 : Nat) (k : Int) : Int := if k < 0 ∨ (n1 : Int) ≤ k then 2 else 0
set_option maxRecDepth 100000 in
set_option maxHeartbeats 800000 in
theorem has_any {w : World} {p g1 g2 n1 c1 n2 c2 : Nat} {A : M} (h : IAt w p g1 g2 n1 c1 n2 c2 A) (hn : 0 < n1) (k : Int) :
  Calls Tryz.prog 132 #[pt p, .int .i64 k] w fun e w' => e = .returned (.int .i64 (ctE n1 k)) ∧ w' = w := by
 have k0 := h.k0
 have L := len_any h
 have h0 : ((n1 : Int) == 0) = false := by simp; omega
 unfold pt at L ⊢
 clear h
 by_cases h1 : k < 0
 ·have e1 : ctE n1 k = 2 := by simp [ctE, h1]
  rw [e1]
  clear e1
  go_enter Tryz.func132, Tryz.ntmps132
  go_wp2_with fail
  refine L.mono ?_
  rintro e w' ⟨rfl, rfl⟩
  go_wp2_with fail
  go_ret
  exact ⟨rfl, rfl⟩
 ·by_cases h2 : (n1 : Int) ≤ k
  ·have e1 : ctE n1 k = 2 := by simp [ctE, h2]
   rw [e1]
   clear e1
   go_enter Tryz.func132, Tryz.ntmps132
   go_wp2_with fail
   refine L.mono ?_
   rintro e w' ⟨rfl, rfl⟩
   go_wp2_with fail
   go_ret
   exact ⟨rfl, rfl⟩
  ·have e1 : ctE n1 k = 0 := by simp [ctE, h1, h2]
   rw [e1]
   clear e1
   go_enter Tryz.func132, Tryz.ntmps132
   go_wp2_with fail
   refine L.mono ?_
   rintro e w' ⟨rfl, rfl⟩
   go_wp2_with fail
   go_ret
   exact ⟨rfl, rfl⟩
end Go.Proofs.YtgmahhdnjikdjaaGreat
