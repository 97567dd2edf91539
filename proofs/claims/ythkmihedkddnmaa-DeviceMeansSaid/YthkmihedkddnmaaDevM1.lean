/- Two devices side by side; the law's cuts, walked. -/
import Derived.Test.YthkmihedkddnmaaDevM0
import Derived.Test.YthkmihedkddnmaaDevOp
namespace Go.Proofs.Ythkmihedkddnmaa
open Go.RowKit Go.Maps Wire Cmd
set_option linter.unusedVariables false
set_option linter.unusedSimpArgs false

theorem DevAt.from_ {n0 m : Nat} {w : World} {B Ba : Nat} {l : List (Nat × (Vl × Nat))} (h : DevAt m w B Ba l) (hn : n0 ≤ m) : DevAt n0 w B Ba l :=
  ⟨h.box, h.all, h.vol, h.ok, ⟨Nat.le_trans hn h.ge.1, Nat.le_trans hn h.ge.2.1, fun p hp => Nat.le_trans hn (h.ge.2.2 p hp)⟩, h.ne, h.apart⟩
theorem DevAt.isMap {n0 : Nat} {w : World} {B Ba : Nat} {l : List (Nat × (Vl × Nat))} (h : DevAt n0 w B Ba l) : ∀ k ∈ dF Ba l, ∃ es clock, w.heap[k]? = some (.map es clock) := by
  intro k hk
  rcases List.mem_cons.1 hk with rfl | hk
  · exact h.all.isMap
  · obtain ⟨p, hp, rfl⟩ := List.mem_map.1 hk
    exact (h.vol p hp).isMap
theorem DevAt.box_out {n0 n1 : Nat} {w : World} {B Ba C Ca : Nat} {l m : List (Nat × (Vl × Nat))} (h : DevAt n0 w B Ba l) (k : DevAt n1 w C Ca m) : B ∉ dF Ca m := fun hk => by
  obtain ⟨es, clock, e⟩ := k.isMap B hk
  rw [h.box] at e
  cases e
/-- Two devices that share nothing. -/
structure Two (n0 : Nat) (w : World) (B Ba : Nat) (l : List (Nat × (Vl × Nat))) (C Ca : Nat) (m : List (Nat × (Vl × Nat))) : Prop where
  a : DevAt n0 w B Ba l
  b : DevAt n0 w C Ca m
  ne : ∀ k ∈ dF Ba l, k ∉ dF Ca m
theorem Two.swap {n0 : Nat} {w : World} {B Ba C Ca : Nat} {l m : List (Nat × (Vl × Nat))} (h : Two n0 w B Ba l C Ca m) : Two n0 w C Ca m B Ba l := ⟨h.b, h.a, fun k hk hk2 => h.ne k hk2 hk⟩
theorem Two.below {n0 : Nat} {w w' : World} {B Ba C Ca : Nat} {l m : List (Nat × (Vl × Nat))} (h : Two n0 w B Ba l C Ca m) (hb : Below w.heap.size w w') : Two n0 w' B Ba l C Ca m := ⟨h.a.below hb, h.b.below hb, h.ne⟩
theorem Two.step {n0 : Nat} {w w' : World} {B Ba C Ca : Nat} {l m l' : List (Nat × (Vl × Nat))} (h : Two n0 w B Ba l C Ca m) (hd : DevAt n0 w' B Ba l') (hc : Chg (dF Ba l) w w' (dF Ba l')) : Two n0 w' B Ba l' C Ca m :=
  ⟨hd, h.b.kept hc.1 (h.b.box_out h.a) (fun k hk hk2 => h.ne k hk2 hk), fun k hk hk2 => by
    rcases hc.2 k hk with h1 | h1
    · exact h.ne k h1 hk2
    · have := h.b.lt_all k hk2; omega⟩
theorem Two.step2 {n0 : Nat} {w w' : World} {B Ba C Ca : Nat} {l m m' : List (Nat × (Vl × Nat))} (h : Two n0 w B Ba l C Ca m) (hd : DevAt n0 w' C Ca m') (hc : Chg (dF Ca m) w w' (dF Ca m')) : Two n0 w' B Ba l C Ca m' := (h.swap.step hd hc).swap
theorem Two.copied {n0 : Nat} {w w' : World} {B Ba C Ca : Nat} {l m : List (Nat × (Vl × Nat))} (h : DevAt n0 w B Ba l) (hn : n0 ≤ w.heap.size) (hd : DevAt w.heap.size w' C Ca m) (hb : Below w.heap.size w w') : Two n0 w' B Ba l C Ca m :=
  ⟨h.below hb, hd.from_ hn, fun k hk hk2 => by
    have h1 := h.lt_all k hk
    rcases List.mem_cons.1 hk2 with rfl | hk2
    · have := hd.ge.2.1; omega
    · obtain ⟨p, hp, rfl⟩ := List.mem_map.1 hk2
      have := hd.ge.2.2 p hp; omega⟩
/-- An operation is done whose answer is known. -/
theorem ddo_c (n0 : Nat) (w : World) (B Ba : Nat) (l : List (Nat × (Vl × Nat))) (h : DevAt n0 w B Ba l) (o : Op0) (ok : o.Ok) (ao : Option Addr) (cap : Nat) (hd : Rd w 1 (.slice ao o.data.length cap) o.data.length (bV o.data))
    (c d : Int) (ds : List UInt8) (L : List (Nat × Vl)) (hr : stepD (strip l) o 1024 = (⟨c, d, ds⟩, L)) :
    Calls Try.prog 8 #[.pointer (some ⟨B, 0, none⟩), .agg #[.int .i64 o.k, .int .u64 (o.vol : Int), .int .u64 (o.to : Int), .int .i64 o.size, .int .i64 o.pl, .int .i64 o.count, .slice ao o.data.length cap]] w fun e w' =>
      ∃ sa cp l', e = .returned (.agg #[.int .i64 c, .int .i64 d, .slice sa ds.length cp]) ∧ DevAt n0 w' B Ba l' ∧ strip l' = L ∧ w'.ownsRow w.heap.size 5 1 (.slice sa ds.length cp) ds.length (bV ds) ∧ Chg (dF Ba l) w w' (dF Ba l') := by
  refine (ddo_at n0 w B Ba l h o ok ao cap hd).mono fun e w' hP => ?_
  obtain ⟨sa, cp, l', h1, h2, h3, h4, h5⟩ := hP.chg
  rw [hr] at h1 h3 h4
  exact ⟨sa, cp, l', h1, h2, h3, h4, h5⟩
theorem ok_rd {n : Nat} {s c : Int} (hn : n < 4294967296) (hs : 0 ≤ s ∧ s ≤ 1048576) (hc : 0 ≤ c ∧ c ≤ 1048576) : (rdOp n s c).Ok := by constructor <;> simp [rdOp] <;> omega
theorem ok_sn {n t : Nat} (hn : n < 4294967296) (ht : t < 4294967296) : (snOp n t).Ok := by constructor <;> simp [snOp] <;> omega
theorem ok_ds {n : Nat} {c : Int} (hn : n < 4294967296) (hc : 0 ≤ c ∧ c ≤ 1048576) : (dsOp n c).Ok := by constructor <;> simp [dsOp] <;> omega
theorem ok_rs {n : Nat} {s : Int} (hn : n < 4294967296) (hs : 0 ≤ s ∧ s ≤ 1048576) : (rsOp n s).Ok := by constructor <;> simp [rsOp] <;> omega
theorem run_mk0 (W : World) (L : Int) (n : Nat) (hL : L = (n : Int)) (hn : n ≤ 1000000) : ∃ w', (Instr.makeSlice 25 (.int .i64 L) (.int .i64 L)).run Try.prog W = .ok (.slice (some ⟨W.heap.size, 0, none⟩) n n) w' ∧ Rd w' 1 (.slice (some ⟨W.heap.size, 0, none⟩) n n) n (bV (List.replicate n 0)) ∧ Below W.heap.size W w' := by
  subst hL
  obtain ⟨i0, hi, hz0, hz1, hz2⟩ := info_parts (infoByte)
  obtain ⟨w', h1, h2, h3⟩ := run_make_full (P := Try.prog) W W.heap.size 25 5 i0 (.int .u8 0) 1 Try.underlying25 hi hz0 hz1 .i64 .i64 n (by rw [hz2]; omega) (by unfold maxLen; omega) (Nat.le_refl _)
  refine ⟨w', h1, ?_, (Below.refl _ W).grown h3 (Nat.le_refl _) (fun _ h => by cases h)⟩
  have e : (madeCells (Value.int .u8 0).cells (n * 1)).toList = bV (List.replicate n 0) := by
    rw [Nat.mul_one, show (Value.int .u8 0).cells = #[.int .u8 0] from rfl, toList_madeCells_one]
    unfold bV
    rw [List.map_replicate]
    rfl
  rw [e] at h2
  exact Rd.of_own h2
theorem fldA (c d : Int) (so : Value) (W : World) : (Instr.field 35 (.agg #[.int .i64 c, .int .i64 d, so]) 0).run Try.prog W = .ok (.int .i64 c) W := by kernel_rfl
theorem fldA2 (c d : Int) (so : Option Addr) (n cp : Nat) (W : World) : (Instr.field 35 (.agg #[.int .i64 c, .int .i64 d, .slice so n cp]) 2).run Try.prog W = .ok (.slice so n cp) W := by kernel_rfl
set_option maxRecDepth 100000 in
set_option maxHeartbeats 1600000 in
theorem cuts_in (w0 w : World) (hbw : Below w0.heap.size w0 w) (B Ba : Nat) (l : List (Nat × (Vl × Nat))) (h : DevAt w0.heap.size w B Ba l) (n : Nat) (hn : 1 ≤ n ∧ n < 4294967296) (v : Vl) (hg : getA n (strip l) = some v) (hv : v.Ok) :
    Calls Try.prog 14 #[.pointer (some ⟨B, 0, none⟩), .int .u64 (n : Int), .int .i64 (v.size : Int)] w fun e w' => e = .returned (.bool true) ∧ Below w0.heap.size w0 w' := by
  have HV := Lib.hid hv
  have HN := Lib.hid hn
  have HH := Lib.hid h
  have HG := Lib.hid hg
  have HB0 := Lib.hid hbw
  have CC := dcopy_at w0.heap.size w B Ba l h
  have hsz := hv.size
  clear h hbw hg hv hn
  go_enter Try.func14, Try.ntmps14
  go_wp2_with fail
  refine CC.mono ?_
  rintro e w1 ⟨C, Ca, m, rfl, hd1, hs1, hb1⟩
  have HT1 := Lib.hid (Two.copied HH.out HB0.out.size hd1 hb1)
  have HB1 := Lib.hid (HB0.out.trans (hb1.mono HB0.out.size))
  have HS1 := Lib.hid hs1
  clear hd1 hb1 hs1 CC
  by_cases h0 : v.size = 0
  · have q : ((v.size : Int) == 0) = true := by simp [h0]
    clear h0
    go_wp2_with fail
    go_ret
    exact ⟨rfl, HB1.out⟩
  have q : ((v.size : Int) == 0) = false := by simp [h0]
  have H0 : Hid (1 ≤ v.size) := Lib.hid (by omega)
  have C1 := ddo_c _ w1 B Ba l HT1.out.a (dsOp n v.size) (ok_ds HN.out.2 (by omega)) none 0 (rd_nil _) 0 0 [] _ (step_ds HG.out HN.out HV.out H0.out)
  have HS1b := HS1
  change Calls _ _ #[_, .agg #[.int .i64 7, .int .u64 (n : Int), .int .u64 0, .int .i64 0, .int .i64 0, .int .i64 (v.size : Int), .slice none 0 0]] _ _ at C1
  have hfl := fldA
  clear h0
  go_wp2_with fail
  refine C1.mono ?_
  rintro e w2 ⟨sa2, cp2, l2, rfl, hd2, hs2, _, hc2⟩
  dsimp only
  have HT2 := Lib.hid (HT1.out.step hd2 hc2)
  have HB2 := Lib.hid (HT1.out.a.own HB1.out hc2)
  have HS2 := Lib.hid hs2
  clear C1 hd2 hc2 hs2
  have CN := num14_b 0 w2
  go_wp2_with fail
  refine CN.mono ?_
  rintro e w3 ⟨rfl, hb3⟩
  have HT3 := Lib.hid (HT2.out.below hb3)
  have HB3 := Lib.hid (HB2.out.trans (hb3.mono HB2.out.size))
  clear CN hb3
  have C2 := ddo_c _ w3 C Ca m HT3.out.b (rsOp n 0) (ok_rs HN.out.2 (by omega)) none 0 (rd_nil _) 0 0 [] (putA n ⟨0, []⟩ (strip l)) (by
    show stepD (strip m) (rsOp n ((0 : Nat) : Int)) 1024 = _
    rw [HS1.out, step_rs (s := 0) HG.out HN.out (by omega), show ((0 : Nat) : Int) = 0 from rfl, cut_same HV.out])
  change Calls _ _ #[_, .agg #[.int .i64 3, .int .u64 (n : Int), .int .u64 0, .int .i64 0, .int .i64 0, .int .i64 0, .slice none 0 0]] _ _ at C2
  go_wp2_with fail
  refine C2.mono ?_
  rintro e w4 ⟨sa4, cp4, m4, rfl, hd4, hs4, _, hc4⟩
  dsimp only
  have HT4 := Lib.hid (HT3.out.step2 hd4 hc4)
  have HB4 := Lib.hid (HT3.out.b.own HB3.out hc4)
  have HS4 := Lib.hid hs4
  clear C2 hd4 hc4 hs4
  have CN := num14_b 0 w4
  go_wp2_with fail
  refine CN.mono ?_
  rintro e w5 ⟨rfl, hb5⟩
  have HT5 := Lib.hid (HT4.out.below hb5)
  have HB5 := Lib.hid (HB4.out.trans (hb5.mono HB4.out.size))
  clear CN hb5
  have HG4 : Hid (getA n (strip m4) = some ⟨0, []⟩) := Lib.hid (by rw [HS4.out, getA_put, if_pos rfl])
  have C3 := ddo_c _ w5 C Ca m4 HT5.out.b (rdOp n 0 1) (ok_rd HN.out.2 (by omega) (by omega)) none 0 (rd_nil _) 5 0 [] (strip m4) (by
    rw [step_rd HG4.out HN.out (by omega) (by omega), if_pos (by decide)])
  change Calls _ _ #[_, .agg #[.int .i64 9, .int .u64 (n : Int), .int .u64 0, .int .i64 0, .int .i64 0, .int .i64 1, .slice none 0 0]] _ _ at C3
  go_wp2_with fail
  refine C3.mono ?_
  rintro e w6 ⟨sa6, cp6, m6, rfl, hd6, hs6, _, hc6⟩
  dsimp only
  have HT6 := Lib.hid (HT5.out.step2 hd6 hc6)
  have HB6 := Lib.hid (HT5.out.b.own HB5.out hc6)
  have HS6 := Lib.hid (hs6.trans HS4.out)
  clear C3 hd6 hc6 hs6
  have CN := num14_b 5 w6
  go_wp2_with fail
  refine CN.mono ?_
  rintro e w7 ⟨rfl, hb7⟩
  have HT7 := Lib.hid (HT6.out.below hb7)
  have HB7 := Lib.hid (HB6.out.trans (hb7.mono HB6.out.size))
  clear CN hb7
  have HG6 : Hid (getA n (strip m6) = some ⟨0, []⟩) := Lib.hid (by rw [HS6.out, getA_put, if_pos rfl])
  have C4 := ddo_c _ w7 C Ca m6 HT7.out.b (rsOp n v.size) (ok_rs HN.out.2 (by omega)) none 0 (rd_nil _) 0 0 [] (putA n ⟨v.size, []⟩ (strip l)) (by
    rw [step_rs HG6.out HN.out hsz, HS6.out, putA_putA]
    rfl)
  change Calls _ _ #[_, .agg #[.int .i64 3, .int .u64 (n : Int), .int .u64 0, .int .i64 (v.size : Int), .int .i64 0, .int .i64 0, .slice none 0 0]] _ _ at C4
  go_wp2_with fail
  refine C4.mono ?_
  rintro e w8 ⟨sa8, cp8, m8, rfl, hd8, hs8, _, hc8⟩
  dsimp only
  have HT8 := Lib.hid (HT7.out.step2 hd8 hc8)
  have HB8 := Lib.hid (HT7.out.b.own HB7.out hc8)
  have HS8 := Lib.hid hs8
  clear C4 hd8 hc8 hs8 HB7
  have CN := num14_b 0 w8
  go_wp2_with fail
  refine CN.mono ?_
  rintro e w9 ⟨rfl, hb9⟩
  have HT9 := Lib.hid (HT8.out.below hb9)
  have HB9 := Lib.hid (HB8.out.trans (hb9.mono HB8.out.size))
  clear CN hb9
  have HG2 : Hid (getA n (strip l2) = some ⟨v.size, []⟩) := Lib.hid (by rw [HS2.out, getA_put, if_pos rfl])
  obtain ⟨zs, hzs⟩ : ∃ zs : List UInt8, List.replicate (256 * v.size) 0 = zs := ⟨_, rfl⟩
  have HZS := Lib.hid hzs
  have C5 := ddo_c _ w9 B Ba l2 HT9.out.a (rdOp n 0 (4 * (v.size : Int))) (ok_rd HN.out.2 (by omega) (by omega)) none 0 (rd_nil _) 0 0 zs (strip l2) (by
    rw [step_rd HG2.out HN.out (by omega) (by have := H0.out; omega), if_neg (by simp), ← HZS.out]
    show (Ans0.mk 0 0 (readM [] (pSpansI 0 (4 * (v.size : Int)))), _) = _
    rw [read_all ⟨H0.out, hsz⟩])
  change Calls _ _ #[_, .agg #[.int .i64 9, .int .u64 (n : Int), .int .u64 0, .int .i64 0, .int .i64 0, .int .i64 (4 * (v.size : Int)), .slice none 0 0]] _ _ at C5
  have hwr : IntKind.i64.wrap (4 * (v.size : Int)) = 4 * (v.size : Int) := IntWalk.i64_in _ (by omega)
  clear hzs
  go_wp2_with fail
  refine C5.mono ?_
  rintro e w10 ⟨sa10, cp10, l10, rfl, hd10, hs10, ho10, hc10⟩
  dsimp only
  have HT10 := Lib.hid (HT9.out.step hd10 hc10)
  have HB10 := Lib.hid (HT9.out.a.own HB9.out hc10)
  have HS10 := Lib.hid hs10
  have HO10 := Lib.hid ho10
  clear C5 hd10 hc10 hs10 ho10 hwr
  obtain ⟨w11, hw11⟩ : ∃ y, w10.alloc (.cells #[.int .i64 0, .int .i64 0, .slice sa10 zs.length cp10] 35) = y := ⟨_, rfl⟩
  have hb11 : Below w10.heap.size w10 w11 := by rw [← hw11]; exact balloc (Below.refl _ _) _
  have HX11 : Hid (w11.heap[w10.heap.size]? = some (.cells #[.int .i64 0, .int .i64 0, .slice sa10 zs.length cp10] 35 (0, 0))) := Lib.hid (by rw [← hw11]; exact heap_alloc_new w10 _)
  have HT11 := Lib.hid (HT10.out.below hb11)
  have HB11 := Lib.hid (HB10.out.trans (hb11.mono HB10.out.size))
  have HB1011 := Lib.hid hb11
  clear hb11
  go_wp2_with fail
  (try rw [hw11])
  clear hw11
  have HLZ := Lib.hid (Array.getElem?_eq_some_iff.1 HX11.out).1
  have CMAP : Hid (∀ X, Below w11.heap.size w11 X → Calls Try.prog 21 #[.pointer (some ⟨B, 0, none⟩), .int .u64 (n : Int)] X fun e w' => e = .returned (.slice none 0 0) ∧ Below X.heap.size X w') := Lib.hid (fun X hX => by
    obtain ⟨b, hb⟩ := get_strip (show getA n (strip l10) = some ⟨v.size, []⟩ by rw [HS10.out]; exact HG2.out)
    refine (dmapped_in _ X B Ba l10 (HT11.out.a.below hX) n (by have := HN.out.2; omega) _ hb).mono ?_
    rintro e w' ⟨u, rfl, _, h2, h3⟩
    rw [h2.2 rfl]
    exact ⟨rfl, h3⟩)
  have CSAME : Hid (∀ X, Below w11.heap.size w11 X → Calls Try.prog 11 #[.pointer (some ⟨B, 0, none⟩), .pointer (some ⟨C, 0, none⟩)] X fun e w' => e = .returned (.bool true) ∧ Below X.heap.size X w') := Lib.hid (fun X hX => by
    refine (dsame_in _ _ X B Ba C Ca l10 m8 (HT11.out.a.below hX) (HT11.out.b.below hX)).mono ?_
    rintro e w' ⟨rfl, h3⟩
    rw [HS10.out, HS2.out, HS8.out, decide_eq_true rfl]
    exact ⟨rfl, h3⟩)
  obtain ⟨SZ, hSZ⟩ : ∃ s, strB zs = s := ⟨_, rfl⟩
  have HSZ := Lib.hid hSZ
  have HT19 : Hid (∀ X, Below w11.heap.size w11 X → ((convert 25 9 (.slice sa10 zs.length cp10)).run Try.prog X).andThen (fun a w' => Result.ok (Next.value a) w') = .ok (.value (.string SZ)) X) := Lib.hid (fun X hX => by
    rw [← hSZ]
    exact run_textD X _ _ _ ((Rd.of_own HO10.out).below (bthen HB1011.out hX)))
  have hwr : IntKind.i64.wrap (256 * (v.size : Int)) = 256 * (v.size : Int) := IntWalk.i64_in _ (by omega)
  have HMK : Hid (∀ W : World, ∃ w', (Instr.makeSlice 25 (.int .i64 (256 * (v.size : Int))) (.int .i64 (256 * (v.size : Int)))).run Try.prog W = .ok (.slice (some ⟨W.heap.size, 0, none⟩) (256 * v.size) (256 * v.size)) w' ∧ Rd w' 1 (.slice (some ⟨W.heap.size, 0, none⟩) (256 * v.size) (256 * v.size)) (256 * v.size) (bV zs) ∧ Below W.heap.size W w') := Lib.hid (fun W => by
    rw [← HZS.out]
    exact run_mk0 W _ _ (by omega) (by omega))
  clear hSZ
  have HSS : Hid (∀ X, Below w11.heap.size w11 X → (X.cell? ⟨w10.heap.size, 0, none⟩ = some (.int .i64 0) ∧ X.cell? ⟨w10.heap.size, 2, none⟩ = some (.slice sa10 zs.length cp10)) ∧ Below w11.heap.size w11 X) := Lib.hid (fun X hb => ⟨⟨(World.cell?_of_block (hb.block _ (HLZ.out))).trans (cellOf HX11.out 0 rfl), (World.cell?_of_block (hb.block _ (HLZ.out))).trans (cellOf HX11.out 2 rfl)⟩, hb⟩)
  refine wp_region_held_drew (S := fun X => (X.cell? ⟨w10.heap.size, 0, none⟩ = some (.int .i64 0) ∧ X.cell? ⟨w10.heap.size, 2, none⟩ = some (.slice sa10 zs.length cp10)) ∧ Below w11.heap.size w11 X) (by kernel_rfl) (HSS.out _ (Below.refl _ _).drew) (fun hHeld => ?_)
  have hbe : Below w11.heap.size w11 w11.drew := (Below.refl _ _).drew
  obtain ⟨wd, hwd⟩ : ∃ y, w11.drew = y := ⟨_, rfl⟩
  rw [hwd] at hHeld hbe ⊢
  have HBE := Lib.hid hbe
  have HS0 : Hid (w11.heap.size ≤ wd.heap.size) := Lib.hid HBE.out.size
  clear hwd hbe
  refine wpAnyH_take (i := 0) (v := ?_) rfl (by kernel_rfl) (by kernel_rfl) (by kernel_rfl) (fun _ _ _ h => h) (Or.inl ⟨by rfl, ?_⟩) (by assumption) ?_
  rotate_left
  · (intro w hSw; (try dsimp only at hSw); simp only [List.getElem_toArray, List.getElem_cons_zero, List.getElem_cons_succ]; go_simp; first | done | with_reducible rfl)
  simp only [List.getElem_toArray, List.getElem_cons_zero, List.getElem_cons_succ, Act.put, List.setIfInBounds_toArray, List.set_cons_zero, List.set_cons_succ]
  refine wpAnyH_take (i := 1) (v := ?_) rfl (by kernel_rfl) (by kernel_rfl) (by kernel_rfl) (fun _ _ _ h => h) (Or.inl ⟨by rfl, ?_⟩) (by assumption) ?_
  rotate_left
  · (intro w hSw; (try dsimp only at hSw); simp only [List.getElem_toArray, List.getElem_cons_zero, List.getElem_cons_succ]; go_simp; first | done | with_reducible rfl)
  simp only [List.getElem_toArray, List.getElem_cons_zero, List.getElem_cons_succ, Act.put, List.setIfInBounds_toArray, List.set_cons_zero, List.set_cons_succ]
  refine wpAnyH_ready (rs := [2]) (by kernel_rfl) (by simp) ?_
  refine AllReadyH.cons rfl (fun K hK => ?_) (AllReadyH.nil)
  simp only [List.getElem_toArray, List.getElem_cons_zero, List.getElem_cons_succ]
  go_simp
  refine (CMAP.out _ HBE.out).mono ?_
  rintro e w12 ⟨rfl, hb12⟩
  dsimp only
  have HBE := Lib.hid (bthen HBE.out hb12)
  have hSp := HSS.out _ HBE.out
  clear hHeld
  refine hK.out _ _ hSp (fun hHeld => ?_)
  clear hSp hK K
  try simp only [Act.put, List.setIfInBounds_toArray, List.set_cons_zero, List.set_cons_succ]
  have HC2 := Lib.hid hb12
  clear hb12
  refine wpAnyH_take (i := 3) (v := ?_) rfl (by kernel_rfl) (by kernel_rfl) (by kernel_rfl) (fun _ _ _ h => h) (Or.inl ⟨by rfl, ?_⟩) (by assumption) ?_
  rotate_left
  · (intro w hSw; (try dsimp only at hSw); simp only [List.getElem_toArray, List.getElem_cons_zero, List.getElem_cons_succ]; go_simp; first | done | with_reducible rfl)
  simp only [List.getElem_toArray, List.getElem_cons_zero, List.getElem_cons_succ, Act.put, List.setIfInBounds_toArray, List.set_cons_zero, List.set_cons_succ]
  refine wpAnyH_take (i := 4) (v := ?_) rfl (by kernel_rfl) (by kernel_rfl) (by kernel_rfl) (fun _ _ _ h => h) (Or.inl ⟨by rfl, ?_⟩) (by assumption) ?_
  rotate_left
  · (intro w hSw; (try dsimp only at hSw); simp only [List.getElem_toArray, List.getElem_cons_zero, List.getElem_cons_succ]; go_simp; first | done | with_reducible rfl)
  simp only [List.getElem_toArray, List.getElem_cons_zero, List.getElem_cons_succ, Act.put, List.setIfInBounds_toArray, List.set_cons_zero, List.set_cons_succ]
  refine wpAnyH_take (i := 5) (v := ?_) rfl (by kernel_rfl) (by kernel_rfl) (by kernel_rfl) (fun _ _ _ h => h) (Or.inl ⟨by rfl, ?_⟩) (by assumption) ?_
  rotate_left
  · (intro w hSw; (try dsimp only at hSw); simp only [List.getElem_toArray, List.getElem_cons_zero, List.getElem_cons_succ]; go_simp; first | done | with_reducible rfl)
  simp only [List.getElem_toArray, List.getElem_cons_zero, List.getElem_cons_succ, Act.put, List.setIfInBounds_toArray, List.set_cons_zero, List.set_cons_succ]
  refine wpAnyH_take (i := 6) (v := ?_) rfl (by kernel_rfl) (by kernel_rfl) (by kernel_rfl) (fun _ _ _ h => h) (Or.inl ⟨by rfl, ?_⟩) (by assumption) ?_
  rotate_left
  · (intro w hSw; (try dsimp only at hSw); simp only [List.getElem_toArray, List.getElem_cons_zero, List.getElem_cons_succ]; go_simp; first | done | with_reducible rfl)
  simp only [List.getElem_toArray, List.getElem_cons_zero, List.getElem_cons_succ, Act.put, List.setIfInBounds_toArray, List.set_cons_zero, List.set_cons_succ]
  refine wpAnyH_take (i := 7) (v := ?_) rfl (by kernel_rfl) (by kernel_rfl) (by kernel_rfl) (fun _ _ _ h => h) (Or.inl ⟨by rfl, ?_⟩) (by assumption) ?_
  rotate_left
  · (intro w hSw; (try dsimp only at hSw); simp only [List.getElem_toArray, List.getElem_cons_zero, List.getElem_cons_succ]; go_simp; first | done | with_reducible rfl)
  simp only [List.getElem_toArray, List.getElem_cons_zero, List.getElem_cons_succ, Act.put, List.setIfInBounds_toArray, List.set_cons_zero, List.set_cons_succ]
  refine wpAnyH_ready (rs := [8]) (by kernel_rfl) (by simp) ?_
  refine AllReadyH.cons rfl (fun K hK => ?_) (AllReadyH.nil)
  simp only [List.getElem_toArray, List.getElem_cons_zero, List.getElem_cons_succ]
  go_simp
  refine (CSAME.out _ HBE.out).mono ?_
  rintro e w13 ⟨rfl, hb13⟩
  dsimp only
  have HBE := Lib.hid (bthen HBE.out hb13)
  have hSp := HSS.out _ HBE.out
  clear hHeld
  refine hK.out _ _ hSp (fun hHeld => ?_)
  clear hSp hK K
  try simp only [Act.put, List.setIfInBounds_toArray, List.set_cons_zero, List.set_cons_succ]
  have HC8 := Lib.hid hb13
  clear hb13
  refine wpAnyH_take (i := 9) (v := ?_) rfl (by kernel_rfl) (by kernel_rfl) (by kernel_rfl) (fun _ _ _ h => h) (Or.inl ⟨by rfl, ?_⟩) (by assumption) ?_
  rotate_left
  · (intro w hSw; (try dsimp only at hSw); simp only [List.getElem_toArray, List.getElem_cons_zero, List.getElem_cons_succ]; go_simp; first | done | with_reducible rfl)
  simp only [List.getElem_toArray, List.getElem_cons_zero, List.getElem_cons_succ, Act.put, List.setIfInBounds_toArray, List.set_cons_zero, List.set_cons_succ]
  refine wpAnyH_take (i := 10) (v := ?_) rfl (by kernel_rfl) (by kernel_rfl) (by kernel_rfl) (fun _ _ _ h => h) (Or.inl ⟨by rfl, ?_⟩) (by assumption) ?_
  rotate_left
  · (intro w hSw; (try dsimp only at hSw); simp only [List.getElem_toArray, List.getElem_cons_zero, List.getElem_cons_succ]; go_simp; first | done | with_reducible rfl)
  simp only [List.getElem_toArray, List.getElem_cons_zero, List.getElem_cons_succ, Act.put, List.setIfInBounds_toArray, List.set_cons_zero, List.set_cons_succ]
  refine wpAnyH_take (i := 11) (v := ?_) rfl (by kernel_rfl) (by kernel_rfl) (by kernel_rfl) (fun _ _ _ h => h) (Or.inl ⟨by rfl, ?_⟩) (by assumption) ?_
  rotate_left
  · (intro w hSw; (try dsimp only at hSw); simp only [List.getElem_toArray, List.getElem_cons_zero, List.getElem_cons_succ]; go_simp; first | done | with_reducible rfl)
  simp only [List.getElem_toArray, List.getElem_cons_zero, List.getElem_cons_succ, Act.put, List.setIfInBounds_toArray, List.set_cons_zero, List.set_cons_succ]
  refine wpAnyH_take (i := 12) (v := ?_) rfl (by kernel_rfl) (by kernel_rfl) (by kernel_rfl) (fun _ _ _ h => h) (Or.inl ⟨by rfl, ?_⟩) (by assumption) ?_
  rotate_left
  · (intro w hSw; (try dsimp only at hSw); simp only [List.getElem_toArray, List.getElem_cons_zero, List.getElem_cons_succ]; go_simp; first | done | with_reducible rfl)
  simp only [List.getElem_toArray, List.getElem_cons_zero, List.getElem_cons_succ, Act.put, List.setIfInBounds_toArray, List.set_cons_zero, List.set_cons_succ]
  refine wpAnyH_ready (rs := [13]) (by kernel_rfl) (by simp) ?_
  refine AllReadyH.cons rfl (fun K hK => ?_) (AllReadyH.nil)
  simp only [List.getElem_toArray, List.getElem_cons_zero, List.getElem_cons_succ]
  go_simp
  refine (num14_b 0 _).mono ?_
  rintro e w14 ⟨rfl, hb14⟩
  dsimp only
  have HBE := Lib.hid (bthen HBE.out hb14)
  have hSp := HSS.out _ HBE.out
  clear hHeld
  refine hK.out _ _ hSp (fun hHeld => ?_)
  clear hSp hK K
  try simp only [Act.put, List.setIfInBounds_toArray, List.set_cons_zero, List.set_cons_succ]
  have HC13 := Lib.hid hb14
  clear hb14
  refine wpAnyH_take (i := 14) (v := ?_) rfl (by kernel_rfl) (by kernel_rfl) (by kernel_rfl) (fun _ _ _ h => h) (Or.inl ⟨by rfl, ?_⟩) (by assumption) ?_
  rotate_left
  · (intro w hSw; (try dsimp only at hSw); simp only [List.getElem_toArray, List.getElem_cons_zero, List.getElem_cons_succ]; go_simp; first | done | with_reducible rfl)
  simp only [List.getElem_toArray, List.getElem_cons_zero, List.getElem_cons_succ, Act.put, List.setIfInBounds_toArray, List.set_cons_zero, List.set_cons_succ]
  refine wpAnyH_take (i := 15) (v := ?_) rfl (by kernel_rfl) (by kernel_rfl) (by kernel_rfl) (fun _ _ _ h => h) (Or.inl ⟨by rfl, ?_⟩) (by assumption) ?_
  rotate_left
  · (intro w hSw; (try dsimp only at hSw); simp only [List.getElem_toArray, List.getElem_cons_zero, List.getElem_cons_succ]; go_simp; first | done | with_reducible rfl)
  simp only [List.getElem_toArray, List.getElem_cons_zero, List.getElem_cons_succ, Act.put, List.setIfInBounds_toArray, List.set_cons_zero, List.set_cons_succ]
  refine wpAnyH_take (i := 16) (v := ?_) rfl (by kernel_rfl) (by kernel_rfl) (by kernel_rfl) (fun _ _ _ h => h) (Or.inl ⟨by rfl, ?_⟩) (by assumption) ?_
  rotate_left
  · (intro w hSw; (try dsimp only at hSw); simp only [List.getElem_toArray, List.getElem_cons_zero, List.getElem_cons_succ]; go_simp; first | done | with_reducible rfl)
  simp only [List.getElem_toArray, List.getElem_cons_zero, List.getElem_cons_succ, Act.put, List.setIfInBounds_toArray, List.set_cons_zero, List.set_cons_succ]
  refine wpAnyH_take (i := 17) (v := ?_) rfl (by kernel_rfl) (by kernel_rfl) (by kernel_rfl) (fun _ _ _ h => h) (Or.inl ⟨by rfl, ?_⟩) (by assumption) ?_
  rotate_left
  · (intro w hSw; (try dsimp only at hSw); simp only [List.getElem_toArray, List.getElem_cons_zero, List.getElem_cons_succ]; go_simp; first | done | with_reducible rfl)
  simp only [List.getElem_toArray, List.getElem_cons_zero, List.getElem_cons_succ, Act.put, List.setIfInBounds_toArray, List.set_cons_zero, List.set_cons_succ]
  refine wpAnyH_take (i := 20) (v := ?_) rfl (by kernel_rfl) (by kernel_rfl) (by kernel_rfl) (fun _ _ _ h => h) (Or.inl ⟨by rfl, ?_⟩) (by assumption) ?_
  rotate_left
  · (intro w hSw; (try dsimp only at hSw); simp only [List.getElem_toArray, List.getElem_cons_zero, List.getElem_cons_succ]; go_simp; first | done | with_reducible rfl)
  simp only [List.getElem_toArray, List.getElem_cons_zero, List.getElem_cons_succ, Act.put, List.setIfInBounds_toArray, List.set_cons_zero, List.set_cons_succ]
  refine wpAnyH_take (i := 18) (v := ?_) rfl (by kernel_rfl) (by kernel_rfl) (by kernel_rfl) (fun _ _ _ h => h) (Or.inl ⟨by rfl, ?_⟩) (by assumption) ?_
  rotate_left
  · (intro w hSw; (try dsimp only at hSw); simp only [List.getElem_toArray, List.getElem_cons_zero, List.getElem_cons_succ]; go_simp; first | done | with_reducible rfl)
  simp only [List.getElem_toArray, List.getElem_cons_zero, List.getElem_cons_succ, Act.put, List.setIfInBounds_toArray, List.set_cons_zero, List.set_cons_succ]
  refine wpAnyH_take (i := 21) (v := ?_) rfl (by kernel_rfl) (by kernel_rfl) (by kernel_rfl) (fun _ _ _ h => h) (Or.inl ⟨by rfl, ?_⟩) (by assumption) ?_
  rotate_left
  · (intro w hSw; (try dsimp only at hSw); simp only [List.getElem_toArray, List.getElem_cons_zero, List.getElem_cons_succ]; go_simp; first | done | with_reducible rfl)
  simp only [List.getElem_toArray, List.getElem_cons_zero, List.getElem_cons_succ, Act.put, List.setIfInBounds_toArray, List.set_cons_zero, List.set_cons_succ]
  refine wpAnyH_take (i := 19) (v := .string SZ) rfl (by kernel_rfl) (by kernel_rfl) (by kernel_rfl) (fun _ _ _ h => h) (Or.inl ⟨by rfl, ?_⟩) (by assumption) ?_
  · (intro w hSw; simp only [List.getElem_toArray, List.getElem_cons_zero, List.getElem_cons_succ]; (go_simp; exact HT19.out w hSw.2))
  simp only [List.getElem_toArray, List.getElem_cons_zero, List.getElem_cons_succ, Act.put, List.setIfInBounds_toArray, List.set_cons_zero, List.set_cons_succ]
  refine wpAnyH_ready (rs := [22]) (by kernel_rfl) (by simp) ?_
  refine AllReadyH.cons rfl (fun K hK => ?_) (AllReadyH.nil)
  obtain ⟨w15, hmk15, hrd15, hb15⟩ := HMK.out w14
  simp only [List.getElem_toArray, List.getElem_cons_zero, List.getElem_cons_succ]
  go_simp
  refine hK.out _ _ ?_ (fun hHeld => ?_)
  · exact HSS.out _ (bthen hHeld.2 hb15)
  clear hK K
  try simp only [Act.put, List.setIfInBounds_toArray, List.set_cons_zero, List.set_cons_succ]
  have HBE := Lib.hid (bthen HBE.out hb15)
  have hrt15 := run_textD w15 _ _ _ hrd15
  rw [HSZ.out] at hrt15
  clear hmk15 hrd15 hb15
  refine wpAnyH_ready (rs := [23]) (by kernel_rfl) (by simp) ?_
  refine AllReadyH.cons rfl (fun K hK => ?_) (AllReadyH.nil)
  have hrd := hrt15
  simp only [List.getElem_toArray, List.getElem_cons_zero, List.getElem_cons_succ]
  go_simp
  clear hrd
  have hSp := HSS.out _ HBE.out
  clear hHeld
  refine hK.out _ _ hSp (fun hHeld => ?_)
  clear hSp hK K
  try simp only [Act.put, List.setIfInBounds_toArray, List.set_cons_zero, List.set_cons_succ]
  refine wpAnyH_take (i := 24) (v := ?_) rfl (by kernel_rfl) (by kernel_rfl) (by kernel_rfl) (fun _ _ _ h => h) (Or.inl ⟨by rfl, ?_⟩) (by assumption) ?_
  rotate_left
  · (intro w hSw; (try dsimp only at hSw); simp only [List.getElem_toArray, List.getElem_cons_zero, List.getElem_cons_succ]; go_simp; first | done | with_reducible rfl)
  simp only [List.getElem_toArray, List.getElem_cons_zero, List.getElem_cons_succ, Act.put, List.setIfInBounds_toArray, List.set_cons_zero, List.set_cons_succ]
  refine wpAnyH_take (i := 25) (v := ?_) rfl (by kernel_rfl) (by kernel_rfl) (by kernel_rfl) (fun _ _ _ h => h) (Or.inl ⟨by rfl, ?_⟩) (by assumption) ?_
  rotate_left
  · (intro w hSw; (try dsimp only at hSw); simp only [List.getElem_toArray, List.getElem_cons_zero, List.getElem_cons_succ]; go_simp; first | done | with_reducible rfl)
  simp only [List.getElem_toArray, List.getElem_cons_zero, List.getElem_cons_succ, Act.put, List.setIfInBounds_toArray, List.set_cons_zero, List.set_cons_succ]
  refine wpAnyH_take (i := 26) (v := ?_) rfl (by kernel_rfl) (by kernel_rfl) (by kernel_rfl) (fun _ _ _ h => h) (Or.inl ⟨by rfl, ?_⟩) (by assumption) ?_
  rotate_left
  · (intro w hSw; (try dsimp only at hSw); simp only [List.getElem_toArray, List.getElem_cons_zero, List.getElem_cons_succ]; go_simp; first | done | with_reducible rfl)
  simp only [List.getElem_toArray, List.getElem_cons_zero, List.getElem_cons_succ, Act.put, List.setIfInBounds_toArray, List.set_cons_zero, List.set_cons_succ]
  refine wpAnyH_done (by kernel_rfl) ?_ _
  have HEND := Lib.hid hHeld.2
  have HSE := Lib.hid hHeld.1
  clear hHeld
  clear HSE HSS HBE
  go_wp2_with fail
  go_ret
  exact ⟨rfl, HB11.out.trans (HEND.out.mono HB11.out.size)⟩
end Go.Proofs.Ythkmihedkddnmaa
