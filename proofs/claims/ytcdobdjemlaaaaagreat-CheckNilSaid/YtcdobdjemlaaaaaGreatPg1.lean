/- page: Of (of a page that was made so), walked. -/
import Derived.Test.YtcdobdjemlaaaaaGreatPg0
namespace Go.Proofs.YtcdobdjemlaaaaaGreat
open Go.RowKit Wire
set_option linter.unusedVariables false
set_option linter.unusedSimpArgs false

section
variable {P : Program} {ops : Array Oper} {Q : Exit → Act → World → Prop} {a : Act} {w : World} {rest : List Oper} {o : Oper}
theorem wpL_met (hw : Region.wanted o (yielded ops a.tmps) = true) (h : ∀ K : Act → World → Prop, (∀ a w, wpList P ops Q rest a w → K a w) → o.wp P a w K Q) : wpList P ops Q (o :: rest) a w :=
  wpList_step fun K hK => by simp only [hw, if_true]; exact h K hK
/-- A load of many cells, behind a guard that is met. -/
theorem wpL_load_met (hw : Region.wanted o (yielded ops a.tmps) = true) (ty : TypeId) (x : Operand) (ho : o.op = .load ty x) (b of : Nat) (hx : a.eval x = .pointer (some ⟨b, of, none⟩)) (cs : List Value) (d : TypeDesc) (hc : w.rangeAt b of cs)
    (hu : P.underlying ty = some d) (hd : d.isRow = true) (hi : (P.info? ty).map (·.size) = some cs.length)
    (h : wpList P ops Q rest (a.put o.dst (.agg cs.toArray)) w) : wpList P ops Q (o :: rest) a w := by
  refine wpL_met hw fun K hK => ?_
  unfold Oper.wp execOp
  simp only [ho, hx, Instr.loadAt, Instr.sureAddr, Sem.run_bind, Sem.run_pure, Result.andThen_ok, run_loadVar_mid w b of ty cs d hc hu hd hi]
  exact hK _ _ h
end
theorem bits_or_u16_nat (a b : Nat) (ha : a < 65536) (hb : b < 65536) : bits .or .u16 (a : Int) (b : Int) = ((a ||| b : Nat) : Int) := by
  have hx : a ||| b < 2 ^ 16 := Nat.or_lt_two_pow (by omega) (by omega)
  have h1 : (BitVec.ofInt 16 (a : Int)).toNat = a := by
    rw [BitVec.ofInt_natCast, BitVec.toNat_ofNat]; exact Nat.mod_eq_of_lt (by omega)
  have h2 : (BitVec.ofInt 16 (b : Int)).toNat = b := by
    rw [BitVec.ofInt_natCast, BitVec.toNat_ofNat]; exact Nat.mod_eq_of_lt (by omega)
  show IntKind.u16.wrap ((BitVec.ofInt 16 (a : Int) ||| BitVec.ofInt 16 (b : Int)).toNat : Int) = _
  rw [BitVec.toNat_or, h1, h2, IntKind.wrap_u16]
  omega
theorem or16 (lo hi : Nat) (h1 : lo < 256) (h2 : hi < 256) : bits .or .u16 (lo : Int) ((hi : Int) * 256) = ((lo + 256 * hi : Nat) : Int) := by
  rw [show ((hi : Int) * 256) = ((2 ^ 8 * hi : Nat) : Int) by omega, bits_or_u16_nat _ _ (by omega) (by omega), Nat.or_comm, ← Nat.two_pow_add_eq_or_of_lt (i := 8) (b := lo) (by omega) hi]
  congr 1
  omega
/-- Counts in a block. -/
def BoxC (w : World) (q : Nat) (cs : List Nat) : Prop := w.heap[q]? = some (.cells (cV cs).toArray 60 (0, 0))
theorem BoxC.cell {w : World} {q : Nat} {cs : List Nat} (h : BoxC w q cs) {j : Nat} (hj : j < cs.length) : w.cell? ⟨q, j, none⟩ = some (.int .u16 ((cs[j]'hj : Nat) : Int)) ∧ w.frozen? ⟨q, j, none⟩ = false :=
  ⟨cellOf h j (by simpa using cV_get (List.getElem?_eq_getElem hj)), frozenOf h j⟩
theorem BoxC.set {w : World} {q : Nat} {cs : List Nat} (h : BoxC w q cs) (j c : Nat) : BoxC (w.setCell ⟨q, j, none⟩ (.int .u16 (c : Int))) q (cs.set j c) := by
  have h1 := setOf h j (.int .u16 (c : Int))
  unfold BoxC
  rw [h1]
  congr 2
  apply Array.toList_inj.1
  simp [cV, List.map_set]
theorem BoxC.rd {w : World} {q n : Nat} {cs : List Nat} (h : BoxC w q cs) (hl : cs.length = n) (hn : n ≤ 1000000) : Rd w 1 (.slice (some ⟨q, 0, none⟩) n n) n (cV cs) := by
  have h1 := rdCells (n := n) (size := 1) h (by rw [List.size_toArray, cV_len, hl, Nat.mul_one]) hn
  exact h1
theorem putNs_at : ∀ {cs : List Nat} {i c : Nat}, cs[i]? = some c → (putNs (cs2 cs))[2 * i]? = some (UInt8.ofNat (c % 256)) ∧ (putNs (cs2 cs))[2 * i + 1]? = some (UInt8.ofNat (c / 256 % 256))
  | x :: cs, 0, c, h => by
    obtain rfl := Option.some.inj h
    exact ⟨rfl, rfl⟩
  | x :: cs, i + 1, c, h => by
    obtain ⟨h1, h2⟩ := putNs_at (cs := cs) (i := i) (c := c) (by simpa using h)
    have e : putNs (cs2 (x :: cs)) = UInt8.ofNat (x % 256) :: UInt8.ofNat (x / 256 % 256) :: putNs (cs2 cs) := rfl
    rw [e, show 2 * (i + 1) = 2 * i + 1 + 1 by omega]
    exact ⟨h1, h2⟩
theorem page_drop16 (no index : Nat) (cs : List Nat) : (pageB no index cs).drop 16 = putNs (cs2 cs) ++ zeros (240 - 2 * cs.length) := by
  unfold pageB
  rw [show (16 : Nat) = 4 + 12 from rfl, ← List.drop_drop, sealB_drop]
  unfold pageBody cs2
  have h3 : ([80, 71, UInt8.ofNat index, 0] ++ low no 4 ++ zeros 4 : List UInt8).length = 12 := by
    rw [List.length_append, List.length_append, low_len]; rfl
  have := List.drop_left (l₁ := ([80, 71, UInt8.ofNat index, 0] ++ low no 4 ++ zeros 4 : List UInt8)) (l₂ := putNs (cs.map fun n => (n, 2)) ++ zeros (240 - 2 * cs.length))
  rwa [h3] at this
theorem page_at {no index : Nat} {cs : List Nat} {i c : Nat} (h : cs[i]? = some c) : (pageB no index cs)[16 + 2 * i]? = some (UInt8.ofNat (c % 256)) ∧ (pageB no index cs)[16 + 2 * i + 1]? = some (UInt8.ofNat (c / 256 % 256)) := by
  obtain ⟨h1, h2⟩ := putNs_at h
  have hi := (List.getElem?_eq_some_iff.1 h).1
  have hl := cs2_len cs
  have e : ∀ j, j < 2 * cs.length → (pageB no index cs)[16 + j]? = (putNs (cs2 cs))[j]? := fun j hj => by
    rw [← List.getElem?_drop, page_drop16, List.getElem?_append_left (by omega)]
  rw [e _ (by omega), show 16 + 2 * i + 1 = 16 + (2 * i + 1) by omega, e _ (by omega)]
  exact ⟨h1, h2⟩
/-- Ahead of a count: the counts so far. -/
def POf (w wr : World) (q g : Nat) (b : List UInt8) (cs : List Nat) (i : Nat) : Prop := Below w.heap.size w wr ∧ BoxB wr q b ∧ BoxC wr g (setL (List.replicate 120 0) 0 (cs.take i))
theorem pof_next {w wr X : World} {q g : Nat} {b : List UInt8} {cs : List Nat} {i c : Nat} (h : POf w wr q g b cs i) (hX : Below wr.heap.size wr X) (hc : cs[i]? = some c) (hq : q ≠ g) (hg : w.heap.size ≤ g) : POf w (X.setCell ⟨g, i, none⟩ (.int .u16 (c : Int))) q g b cs (i + 1) := by
  obtain ⟨h1, h2, h3⟩ := h
  have hi := (List.getElem?_eq_some_iff.1 hc).1
  have h4 : BoxC X g (setL (List.replicate 120 0) 0 (cs.take i)) := (hX.block _ (Array.getElem?_eq_some_iff.1 h3).1).trans h3
  have h5 : BoxB X q b := (hX.block _ (Array.getElem?_eq_some_iff.1 h2).1).trans h2
  refine ⟨(bthn h1 hX).setCell (p := ⟨g, i, none⟩) hg _, (Below.heap_setCell X ⟨g, i, none⟩ _ q hq).trans h5, ?_⟩
  have h6 := h4.set i c
  rw [List.take_add_one, hc]
  show BoxC _ _ (setL _ _ (cs.take i ++ [c]))
  rw [setL_snoc, List.length_take, Nat.min_eq_left (Nat.le_of_lt hi), Nat.zero_add]
  exact h6
set_option maxRecDepth 100000 in
set_option maxHeartbeats 6400000 in
theorem pof_at (w : World) (no idx : Nat) (hno : no < 4294967296) (hidx : idx ≤ 255) (cs : List Nat) (hl : cs.length = 120) (hcs : ∀ c ∈ cs, c < 65536) :
    Calls Tryz.prog 122 #[.int .u32 (no : Int), .int .i64 (idx : Int), bA (pageB no idx cs)] w fun e w' => ∃ g, e = .returned (.tuple #[.slice (some ⟨g, 0, none⟩) 120 120, .int .i64 0]) ∧ BoxC w' g cs ∧ w.heap.size ≤ g ∧ Below w.heap.size w w' := by
  have HBL : Hid ((pageB no idx cs).length = 256) := Lib.hid (pageB_len (by omega))
  have HPA : Hid (∀ i c, cs[i]? = some c → (pageB no idx cs)[16 + 2 * i]? = some (UInt8.ofNat (c % 256)) ∧ (pageB no idx cs)[16 + 2 * i + 1]? = some (UInt8.ofNat (c / 256 % 256))) := Lib.hid (fun i c h => page_at h)
  have CBK : Hid (∀ X v, Rd X 1 v 120 (cV cs) → Calls Tryz.prog 125 #[.int .u32 (no : Int), .int .i64 (idx : Int), v] X fun e w' => e = .returned (.tuple #[bA (pageB no idx cs), .int .i64 0]) ∧ Below X.heap.size X w') := Lib.hid (fun X v hv => pblock_at X no idx hno hidx v 120 cs hv (by omega) hcs)
  obtain ⟨b, hb⟩ : ∃ b, pageB no idx cs = b := ⟨_, rfl⟩
  rw [hb] at HBL HPA CBK ⊢
  obtain ⟨q, hq⟩ : ∃ q, w.heap.size = q := ⟨_, rfl⟩
  obtain ⟨w1, hw1⟩ : ∃ W, w.alloc (.cells (bV b).toArray 50) = W := ⟨_, rfl⟩
  have hb1 : Below w.heap.size w w1 := by rw [← hw1]; exact balloc (Below.refl _ _) _
  have hx1 : BoxB w1 q b := by unfold BoxB; rw [← hw1, ← hq]; exact heap_alloc_new _ _
  obtain ⟨w2, hw2⟩ : ∃ W, w1.alloc (.cells (cV (List.replicate 120 0)).toArray 60) = W := ⟨_, rfl⟩
  have hb2 : Below w1.heap.size w1 w2 := by rw [← hw2]; exact balloc (Below.refl _ _) _
  obtain ⟨g, hg⟩ : ∃ g, w1.heap.size = g := ⟨_, rfl⟩
  have hmk : (Instr.makeSlice 119 (.int .i64 120) (.int .i64 120)).run Tryz.prog w1 = .ok (.slice (some ⟨g, 0, none⟩) 120 120) w2 := by
    rw [← hw2, ← hg]; kernel_rfl
  have HPO : Hid (POf w w2 q g b cs 0) := Lib.hid ⟨bthn hb1 hb2, (hb2.block _ (Array.getElem?_eq_some_iff.1 hx1).1).trans hx1, by
    show BoxC w2 g (List.replicate 120 0)
    unfold BoxC; rw [← hw2, ← hg]; exact heap_alloc_new _ _⟩
  have HQG : Hid (q ≠ g ∧ w.heap.size ≤ g) := Lib.hid ⟨by have := (Array.getElem?_eq_some_iff.1 hx1).1; omega, by rw [← hg]; exact hb1.size⟩
  have HLN := Lib.hid hl
  rw [show bA b = .agg (bV b).toArray from rfl]
  clear hb hb1 hx1 hw2 hb2 hg hl
  go_enter Tryz.func122, Tryz.ntmps122
  go_wp2_with fail
  (try rw [hw1, hq])
  clear hw1
  go_loopw [21] (fun v wr => ∃ i : Nat, i ≤ 120 ∧ v = .int .i64 (i : Int) ∧ POf w wr q g b cs i) (fun v _ => 120 - (Go.RowKit.intOf v).toNat)
  case atStart => exact ⟨0, by omega, rfl, HPO.out⟩
  case round =>
    obtain ⟨i, hi, rfl, hpo⟩ := hrel
    have HPO := Lib.hid hpo
    by_cases hlt : i < 120
    · obtain ⟨c, hc⟩ : ∃ c, cs[i]? = some c := ⟨_, List.getElem?_eq_getElem (by rw [HLN.out]; exact hlt)⟩
      have HC := Lib.hid hc
      obtain ⟨hp1, hp2⟩ := HPA.out i c hc
      have hcb := hcs c (List.mem_of_getElem? hc)
      obtain ⟨lo, hlo⟩ : ∃ x, c % 256 = x := ⟨_, rfl⟩
      obtain ⟨hi8, hhi⟩ : ∃ x, c / 256 = x := ⟨_, rfl⟩
      have hl1 : lo < 256 := by omega
      have hl2 : hi8 < 256 := by omega
      have HOR : Hid (bits .or .u16 (lo : Int) ((hi8 : Int) * 256) = (c : Int)) := Lib.hid (by rw [or16 lo hi8 hl1 hl2]; omega)
      have HE1 : Hid (wr.cell? ⟨q, 16 + 2 * i, none⟩ = some (.int .u8 (lo : Int))) := Lib.hid (cellOf hpo.2.1 (16 + 2 * i) (by have h := bV_get hp1; rw [ofNat_to, hlo] at h; simpa using h))
      have HE2 : Hid (wr.cell? ⟨q, 16 + 2 * i + 1, none⟩ = some (.int .u8 (hi8 : Int))) := Lib.hid (cellOf hpo.2.1 (16 + 2 * i + 1) (by have h := bV_get hp2; rw [ofNat_to, hhi, Nat.mod_eq_of_lt hl2] at h; simpa using h))
      have HQL : Hid (q < wr.heap.size ∧ q ∉ [g]) := Lib.hid ⟨(Array.getElem?_eq_some_iff.1 hpo.2.1).1, fun h => HQG.out.1 (List.mem_singleton.1 h)⟩
      clear hpo hc hp1 hp2 hlo hhi
      have hw1 : IntKind.i64.wrap (2 * (i : Int)) = 2 * (i : Int) := IntWalk.i64_in _ ⟨by omega, by omega⟩
      have hw2 : IntKind.i64.wrap (16 + 2 * (i : Int)) = 16 + 2 * (i : Int) := IntWalk.i64_in _ ⟨by omega, by omega⟩
      have hw3 : IntKind.i64.wrap (16 + 2 * (i : Int) + 1) = 16 + 2 * (i : Int) + 1 := IntWalk.i64_in _ ⟨by omega, by omega⟩
      have hi1 : 0 ≤ 16 + 2 * (i : Int) ∧ 16 + 2 * (i : Int) < 256 := ⟨by omega, by omega⟩
      have hi2 : 0 ≤ 16 + 2 * (i : Int) + 1 ∧ 16 + 2 * (i : Int) + 1 < 256 := ⟨by omega, by omega⟩
      have ht1 : (16 + 2 * (i : Int)).toNat = 16 + 2 * i := by omega
      have ht2 : (16 + 2 * (i : Int) + 1).toNat = 16 + 2 * i + 1 := by omega
      have hm1 : IntKind.u16.wrap (lo : Int) = (lo : Int) := by rw [IntKind.wrap_u16]; omega
      have hm2 : IntKind.u16.wrap (hi8 : Int) = (hi8 : Int) := by rw [IntKind.wrap_u16]; omega
      have hm3 : IntKind.u16.wrap ((hi8 : Int) * 256) = (hi8 : Int) * 256 := by rw [IntKind.wrap_u16]; omega
      go_wp2_with fail
      have HSS : Hid (∀ X, Mods [g] wr X → (X.cell? ⟨q, 16 + 2 * i, none⟩ = some (.int .u8 (lo : Int)) ∧ X.cell? ⟨q, 16 + 2 * i + 1, none⟩ = some (.int .u8 (hi8 : Int))) ∧ Mods [g] wr X) := Lib.hid (fun X hb => ⟨⟨(World.cell?_of_block (hb.block _ (HQL.out.1) (HQL.out.2))).trans (HE1.out), (World.cell?_of_block (hb.block _ (HQL.out.1) (HQL.out.2))).trans (HE2.out)⟩, hb⟩)
      refine wp_region_held_drew (S := fun X => (X.cell? ⟨q, 16 + 2 * i, none⟩ = some (.int .u8 (lo : Int)) ∧ X.cell? ⟨q, 16 + 2 * i + 1, none⟩ = some (.int .u8 (hi8 : Int))) ∧ Mods [g] wr X) (by kernel_rfl) (HSS.out _ (Mods.of_below (Below.refl _ _).drew)) (fun hHeld => ?_)
      have hbe : Below wr.heap.size wr wr.drew := (Below.refl _ _).drew
      obtain ⟨wd, hwd⟩ : ∃ y, wr.drew = y := ⟨_, rfl⟩
      rw [hwd] at hHeld hbe ⊢
      have HBE := Lib.hid hbe
      have HS0 : Hid (wr.heap.size ≤ wd.heap.size) := Lib.hid HBE.out.size
      clear hwd hbe
      refine wpAnyH_take (i := 0) (v := ?_) rfl (by kernel_rfl) (by kernel_rfl) (by kernel_rfl) (fun _ _ _ h => h) (Or.inl ⟨by rfl, ?_⟩) (by assumption) ?_
      rotate_left
      · (intro w hSw; (try dsimp only at hSw); simp only [List.getElem_toArray, List.getElem_cons_zero, List.getElem_cons_succ]; go_simp; first | done | with_reducible rfl)
      simp only [List.getElem_toArray, List.getElem_cons_zero, List.getElem_cons_succ, Act.put, List.setIfInBounds_toArray, List.set_cons_zero, List.set_cons_succ]
      refine wpAnyH_take (i := 1) (v := ?_) rfl (by kernel_rfl) (by kernel_rfl) (by kernel_rfl) (fun _ _ _ h => h) (Or.inl ⟨by rfl, ?_⟩) (by assumption) ?_
      rotate_left
      · (intro w hSw; (try dsimp only at hSw); simp only [List.getElem_toArray, List.getElem_cons_zero, List.getElem_cons_succ]; go_simp; first | done | with_reducible rfl)
      simp only [List.getElem_toArray, List.getElem_cons_zero, List.getElem_cons_succ, Act.put, List.setIfInBounds_toArray, List.set_cons_zero, List.set_cons_succ]
      refine wpAnyH_take (i := 2) (v := ?_) rfl (by kernel_rfl) (by kernel_rfl) (by kernel_rfl) (fun _ _ _ h => h) (Or.inl ⟨by rfl, ?_⟩) (by assumption) ?_
      rotate_left
      · (intro w hSw; (try dsimp only at hSw); simp only [List.getElem_toArray, List.getElem_cons_zero, List.getElem_cons_succ]; go_simp; first | done | with_reducible rfl)
      simp only [List.getElem_toArray, List.getElem_cons_zero, List.getElem_cons_succ, Act.put, List.setIfInBounds_toArray, List.set_cons_zero, List.set_cons_succ]
      refine wpAnyH_take (i := 8) (v := ?_) rfl (by kernel_rfl) (by kernel_rfl) (by kernel_rfl) (fun _ _ _ h => h) (Or.inl ⟨by rfl, ?_⟩) (by assumption) ?_
      rotate_left
      · (intro w hSw; (try dsimp only at hSw); simp only [List.getElem_toArray, List.getElem_cons_zero, List.getElem_cons_succ]; go_simp; first | done | with_reducible rfl)
      simp only [List.getElem_toArray, List.getElem_cons_zero, List.getElem_cons_succ, Act.put, List.setIfInBounds_toArray, List.set_cons_zero, List.set_cons_succ]
      refine wpAnyH_take (i := 3) (v := ?_) rfl (by kernel_rfl) (by kernel_rfl) (by kernel_rfl) (fun _ _ _ h => h) (Or.inl ⟨by rfl, ?_⟩) (by assumption) ?_
      rotate_left
      · (intro w hSw; (try dsimp only at hSw); simp only [List.getElem_toArray, List.getElem_cons_zero, List.getElem_cons_succ]; go_simp; first | done | with_reducible rfl)
      simp only [List.getElem_toArray, List.getElem_cons_zero, List.getElem_cons_succ, Act.put, List.setIfInBounds_toArray, List.set_cons_zero, List.set_cons_succ]
      refine wpAnyH_take (i := 9) (v := ?_) rfl (by kernel_rfl) (by kernel_rfl) (by kernel_rfl) (fun _ _ _ h => h) (Or.inl ⟨by rfl, ?_⟩) (by assumption) ?_
      rotate_left
      · (intro w hSw; (try dsimp only at hSw); simp only [List.getElem_toArray, List.getElem_cons_zero, List.getElem_cons_succ]; go_simp; first | done | with_reducible rfl)
      simp only [List.getElem_toArray, List.getElem_cons_zero, List.getElem_cons_succ, Act.put, List.setIfInBounds_toArray, List.set_cons_zero, List.set_cons_succ]
      refine wpAnyH_take (i := 4) (v := ?_) rfl (by kernel_rfl) (by kernel_rfl) (by kernel_rfl) (fun _ _ _ h => h) (Or.inl ⟨by rfl, ?_⟩) (by assumption) ?_
      rotate_left
      · (intro w hSw; (try dsimp only at hSw); simp only [List.getElem_toArray, List.getElem_cons_zero, List.getElem_cons_succ]; go_simp; first | done | with_reducible rfl)
      simp only [List.getElem_toArray, List.getElem_cons_zero, List.getElem_cons_succ, Act.put, List.setIfInBounds_toArray, List.set_cons_zero, List.set_cons_succ]
      refine wpAnyH_take (i := 10) (v := ?_) rfl (by kernel_rfl) (by kernel_rfl) (by kernel_rfl) (fun _ _ _ h => h) (Or.inl ⟨by rfl, ?_⟩) (by assumption) ?_
      rotate_left
      · (intro w hSw; (try dsimp only at hSw); simp only [List.getElem_toArray, List.getElem_cons_zero, List.getElem_cons_succ]; go_simp; first | done | with_reducible rfl)
      simp only [List.getElem_toArray, List.getElem_cons_zero, List.getElem_cons_succ, Act.put, List.setIfInBounds_toArray, List.set_cons_zero, List.set_cons_succ]
      refine wpAnyH_take (i := 5) (v := ?_) rfl (by kernel_rfl) (by kernel_rfl) (by kernel_rfl) (fun _ _ _ h => h) (Or.inl ⟨by rfl, ?_⟩) (by assumption) ?_
      rotate_left
      · (intro w hSw; (try dsimp only at hSw); simp only [List.getElem_toArray, List.getElem_cons_zero, List.getElem_cons_succ]; go_simp; first | done | with_reducible rfl)
      simp only [List.getElem_toArray, List.getElem_cons_zero, List.getElem_cons_succ, Act.put, List.setIfInBounds_toArray, List.set_cons_zero, List.set_cons_succ]
      refine wpAnyH_take (i := 11) (v := ?_) rfl (by kernel_rfl) (by kernel_rfl) (by kernel_rfl) (fun _ _ _ h => h) (Or.inl ⟨by rfl, ?_⟩) (by assumption) ?_
      rotate_left
      · (intro w hSw; (try dsimp only at hSw); simp only [List.getElem_toArray, List.getElem_cons_zero, List.getElem_cons_succ]; go_simp; first | done | with_reducible rfl)
      simp only [List.getElem_toArray, List.getElem_cons_zero, List.getElem_cons_succ, Act.put, List.setIfInBounds_toArray, List.set_cons_zero, List.set_cons_succ]
      refine wpAnyH_take (i := 6) (v := ?_) rfl (by kernel_rfl) (by kernel_rfl) (by kernel_rfl) (fun _ _ _ h => h) (Or.inl ⟨by rfl, ?_⟩) (by assumption) ?_
      rotate_left
      · (intro w hSw; (try dsimp only at hSw); simp only [List.getElem_toArray, List.getElem_cons_zero, List.getElem_cons_succ]; go_simp; first | done | with_reducible rfl)
      simp only [List.getElem_toArray, List.getElem_cons_zero, List.getElem_cons_succ, Act.put, List.setIfInBounds_toArray, List.set_cons_zero, List.set_cons_succ]
      refine wpAnyH_take (i := 12) (v := ?_) rfl (by kernel_rfl) (by kernel_rfl) (by kernel_rfl) (fun _ _ _ h => h) (Or.inl ⟨by rfl, ?_⟩) (by assumption) ?_
      rotate_left
      · (intro w hSw; (try dsimp only at hSw); simp only [List.getElem_toArray, List.getElem_cons_zero, List.getElem_cons_succ]; go_simp; first | done | with_reducible rfl)
      simp only [List.getElem_toArray, List.getElem_cons_zero, List.getElem_cons_succ, Act.put, List.setIfInBounds_toArray, List.set_cons_zero, List.set_cons_succ]
      refine wpAnyH_take (i := 7) (v := ?_) rfl (by kernel_rfl) (by kernel_rfl) (by kernel_rfl) (fun _ _ _ h => h) (Or.inl ⟨by rfl, ?_⟩) (by assumption) ?_
      rotate_left
      · (intro w hSw; (try dsimp only at hSw); simp only [List.getElem_toArray, List.getElem_cons_zero, List.getElem_cons_succ]; go_simp; first | done | with_reducible rfl)
      simp only [List.getElem_toArray, List.getElem_cons_zero, List.getElem_cons_succ, Act.put, List.setIfInBounds_toArray, List.set_cons_zero, List.set_cons_succ]
      refine wpAnyH_take (i := 13) (v := ?_) rfl (by kernel_rfl) (by kernel_rfl) (by kernel_rfl) (fun _ _ _ h => h) (Or.inl ⟨by rfl, ?_⟩) (by assumption) ?_
      rotate_left
      · (intro w hSw; (try dsimp only at hSw); simp only [List.getElem_toArray, List.getElem_cons_zero, List.getElem_cons_succ]; go_simp; first | done | with_reducible rfl)
      simp only [List.getElem_toArray, List.getElem_cons_zero, List.getElem_cons_succ, Act.put, List.setIfInBounds_toArray, List.set_cons_zero, List.set_cons_succ]
      refine wpAnyH_take (i := 14) (v := ?_) rfl (by kernel_rfl) (by kernel_rfl) (by kernel_rfl) (fun _ _ _ h => h) (Or.inl ⟨by rfl, ?_⟩) (by assumption) ?_
      rotate_left
      · (intro w hSw; (try dsimp only at hSw); simp only [List.getElem_toArray, List.getElem_cons_zero, List.getElem_cons_succ]; go_simp; first | done | with_reducible rfl)
      simp only [List.getElem_toArray, List.getElem_cons_zero, List.getElem_cons_succ, Act.put, List.setIfInBounds_toArray, List.set_cons_zero, List.set_cons_succ]
      refine wpAnyH_take (i := 15) (v := ?_) rfl (by kernel_rfl) (by kernel_rfl) (by kernel_rfl) (fun _ _ _ h => h) (Or.inl ⟨by rfl, ?_⟩) (by assumption) ?_
      rotate_left
      · (intro w hSw; (try dsimp only at hSw); simp only [List.getElem_toArray, List.getElem_cons_zero, List.getElem_cons_succ]; go_simp; first | done | with_reducible rfl)
      simp only [List.getElem_toArray, List.getElem_cons_zero, List.getElem_cons_succ, Act.put, List.setIfInBounds_toArray, List.set_cons_zero, List.set_cons_succ]
      refine wpAnyH_take (i := 16) (v := .int .u16 (c : Int)) rfl (by kernel_rfl) (by kernel_rfl) (by kernel_rfl) (fun _ _ _ h => h) (Or.inl ⟨by rfl, ?_⟩) (by assumption) ?_
      · (intro w hSw; simp only [List.getElem_toArray, List.getElem_cons_zero, List.getElem_cons_succ]; (have hor := HOR.out; go_simp; first | done | exact hor | (trace_state; omega)))
      simp only [List.getElem_toArray, List.getElem_cons_zero, List.getElem_cons_succ, Act.put, List.setIfInBounds_toArray, List.set_cons_zero, List.set_cons_succ]
      refine wpAnyH_take (i := 17) (v := ?_) rfl (by kernel_rfl) (by kernel_rfl) (by kernel_rfl) (fun _ _ _ h => h) (Or.inl ⟨by rfl, ?_⟩) (by assumption) ?_
      rotate_left
      · (intro w hSw; (try dsimp only at hSw); simp only [List.getElem_toArray, List.getElem_cons_zero, List.getElem_cons_succ]; go_simp; first | done | with_reducible rfl)
      simp only [List.getElem_toArray, List.getElem_cons_zero, List.getElem_cons_succ, Act.put, List.setIfInBounds_toArray, List.set_cons_zero, List.set_cons_succ]
      refine wpAnyH_ready (rs := [18]) (by kernel_rfl) (by simp) ?_
      refine AllReadyH.cons rfl (fun K hK => ?_) (AllReadyH.nil)
      obtain ⟨hc18, hf18⟩ := (show BoxC wd g (setL (List.replicate 120 0) 0 (cs.take i)) from (HBE.out.block _ (Array.getElem?_eq_some_iff.1 HPO.out.2.2).1).trans HPO.out.2.2).cell (j := i) (by rw [setL_len, List.length_replicate]; exact hlt)
      simp only [List.getElem_toArray, List.getElem_cons_zero, List.getElem_cons_succ]
      go_simp
      refine hK.out _ _ ?_ (fun hHeld => ?_)
      · exact HSS.out _ ((Mods.of_below HBE.out).setCell (p := ⟨g, i, none⟩) (List.mem_singleton.2 rfl) _)
      clear hK K
      try simp only [Act.put, List.setIfInBounds_toArray, List.set_cons_zero, List.set_cons_succ]
      refine wpAnyH_done (by kernel_rfl) ?_ _
      have HEND := Lib.hid hHeld.2
      have HSE := Lib.hid hHeld.1
      clear hHeld
      clear HSE HSS HEND
      have HFN := Lib.hid (pof_next HPO.out HBE.out HC.out HQG.out.1 HQG.out.2)
      go_wp2_with fail
      go_roundw
      case rel => exact ⟨i + 1, by omega, by go_num, HFN.out⟩
      case measure => simp [Go.RowKit.intOf]; omega
    · obtain rfl : i = 120 := by omega
      have hcx : setL (List.replicate 120 0) 0 (cs.take 120) = cs := by
        rw [List.take_of_length_le (by rw [HLN.out]; exact Nat.le_refl _)]
        have e := setL_mid cs [] (List.replicate 120 0) [] (by rw [List.length_replicate, HLN.out])
        rw [List.append_nil, List.append_nil] at e
        exact e
      have HCX : Hid (BoxC wr g cs) := Lib.hid (by have h := hpo.2.2; rw [hcx] at h; exact h)
      have HBX : Hid (BoxB wr q b) := Lib.hid hpo.2.1
      have HBW := Lib.hid hpo.1
      have CB := CBK.out wr _ (HCX.out.rd HLN.out (by omega))
      clear hpo hcx HPO
      go_wp2_with fail
      refine CB.mono ?_
      rintro e w5 ⟨rfl, hb5⟩
      dsimp only
      have HB5 := Lib.hid (bthn HBW.out hb5)
      have HCX5 : Hid (BoxC w5 g cs) := Lib.hid ((hb5.block _ (Array.getElem?_eq_some_iff.1 HCX.out).1).trans HCX.out)
      have HBX5 : Hid (BoxB w5 q b) := Lib.hid ((hb5.block _ (Array.getElem?_eq_some_iff.1 HBX.out).1).trans HBX.out)
      have hrb : (bV b).toArray.size = 256 := by rw [List.size_toArray, bV_len, HBL.out]
      have hne : ∀ W, (binOp .neq 50 (bA b) (bA b)).run Tryz.prog W = .ok (.bool false) W := fun W => by
        have h := run_neq_bytes (P := Tryz.prog) W (t := 50) (e := 5) (n := 256) Tryz.underlying50 Tryz.underlying5 rfl rfl b b HBL.out HBL.out
        simpa using h
      rw [show bA b = .agg (bV b).toArray from rfl] at hne ⊢
      have HIB : Hid ((Tryz.prog.info? 50).map (·.size) = some (bV b).length) := Lib.hid (by rw [bV_len, HBL.out]; exact infoBlk)
      clear CB hb5
      have hst := run_storeNew (P := Tryz.prog) w5 50 Tryz.zeroCells50 (bV b).toArray (by rw [hrb]; kernel_rfl) (fun u hu => bV_one b u (by simpa using hu))
      have hb6 : Below w5.heap.size w5 (w5.alloc (.cells (bV b).toArray 50)) := balloc (Below.refl _ _) _
      have HR6 : Hid ((w5.alloc (.cells (bV b).toArray 50)).rangeAt w5.heap.size 0 (bV b)) := Lib.hid (rangeOf (heap_alloc_new w5 _))
      have HQ6 : Hid ((w5.alloc (.cells (bV b).toArray 50)).rangeAt q 0 (bV b)) := Lib.hid (rangeSt (rangeOf HBX5.out) (Array.getElem?_eq_some_iff.1 HBX5.out).1 hb6)
      have HB6 := Lib.hid hb6
      clear hb6
      go_wp2_with (first
        | (refine wpL_load_met (by kernel_rfl) 50 _ rfl w5.heap.size 0 rfl (bV b) _ HR6.out Tryz.underlying50 rfl HIB.out ?_)
        | (refine wpL_load_met (by kernel_rfl) 50 _ rfl q 0 rfl (bV b) _ HQ6.out Tryz.underlying50 rfl HIB.out ?_))
      go_ret2
      rw [← hq]
      exact ⟨g, rfl, (HB6.out.block _ (Array.getElem?_eq_some_iff.1 HCX5.out).1).trans HCX5.out, HQG.out.2, bthn HB5.out HB6.out⟩
end Go.Proofs.YtcdobdjemlaaaaaGreat
