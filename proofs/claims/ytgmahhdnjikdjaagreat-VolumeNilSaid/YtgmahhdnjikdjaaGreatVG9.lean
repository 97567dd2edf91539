import Derived.Laws.Bits64b
import Derived.Test.YtgmahhdnjikdjaaGreatVG8
set_option linter.unusedVariables false
set_option linter.unusedSimpArgs false
/- super: Of's get, walked. -/
namespace Go.Proofs.YtgmahhdnjikdjaaGreat
open Go.RowKit Wire
set_option linter.unusedVariables false
set_option linter.unusedSimpArgs false
theorem sum_snoc (l : List UInt8) (b : UInt8) : sum (l ++ [b]) = sum l + 256 ^ l.length * b.toNat := by
 rw [sum_append]
 simp [sum]
theorem or_shl {a b i : Nat} (hi : i < 8) (ha : a < 256 ^ i) (hb : b < 256) : bits .or .u64 (a : Int) (((b * 256 ^ i : Nat)) : Int) = ((a + 256 ^ i * b : Nat) : Int) := by
 have h8 : (256 : Nat) ^ i = 2 ^ (8 * i) := (pow8 i).symm
 have hp : 256 ^ i * 256 ≤ 18446744073709551616 := by
  have : 256 ^ (i + 1) ≤ 256 ^ 8 := Nat.pow_le_pow_right (by omega) (by omega)
  rw [Nat.pow_succ] at this
  exact this
 have h1 : b * 256 ^ i < 18446744073709551616 := by
  have : b * 256 ^ i ≤ 255 * 256 ^ i := Nat.mul_le_mul_right _ (by omega)
  have h2 : 0 < 256 ^ i := Nat.pow_pos (by omega)
  omega
 have h3 : a < 18446744073709551616 := by omega
 rw [bits_or_u64_nat _ _ h3 h1, Nat.or_comm, Nat.mul_comm b]
 have h4 := Nat.two_pow_add_eq_or_of_lt (i := 8 * i) (b := a) (by rw [← h8]; exact ha) b
 rw [← h8] at h4
 rw [← h4, Nat.add_comm]
theorem shl_val {b i : Nat} (hi : i < 8) (hb : b < 256) : IntKind.u64.wrap ((b : Int) * 2 ^ (8 * i)) = ((b * 256 ^ i : Nat) : Int) := by
 have e : ((b : Int) * 2 ^ (8 * i)) = ((b * 256 ^ i : Nat) : Int) := by
  rw [← pow8, Int.natCast_mul, Int.natCast_pow]
  rfl
 have hp : 256 ^ i * 256 ≤ 18446744073709551616 := by
  have : 256 ^ (i + 1) ≤ 256 ^ 8 := Nat.pow_le_pow_right (by omega) (by omega)
  rw [Nat.pow_succ] at this
  exact this
 have h1 : b * 256 ^ i ≤ 255 * 256 ^ i := Nat.mul_le_mul_right _ (by omega)
 have h2 : 0 < 256 ^ i := Nat.pow_pos (by omega)
 rw [e, IntKind.wrap_u64]
 omega
set_option maxRecDepth 100000 in
set_option maxHeartbeats 6400000 in
theorem get_at (w : World) (qb qa k a : Nat) (bs : List UInt8) (hx : BoxB w qb bs) (hl : bs.length = 256) (ha : w.heap[qa]? = some (.cells #[.int .i64 (a : Int)] 3 (0, 0))) (hk : k ≤ 8) (hak : a + k ≤ 256) :
  Calls Tryz.prog 118 #[.int .i64 (k : Int), .pointer (some ⟨qb, 0, none⟩), .pointer (some ⟨qa, 0, none⟩)] w fun e w' => e = .returned (.int .u64 (getN k (bs.drop a) : Int)) ∧ w' = w.setCell ⟨qa, 0, none⟩ (.int .i64 ((a + k : Nat) : Int)) := by
 have HX := Lib.hid hx
 have HL := Lib.hid hl
 have a0 := cellOf ha 0 (v := .int .i64 (a : Int)) rfl
 have af := frozenOf ha 0
 clear hx ha
 go_enter Tryz.func118, Tryz.ntmps118
 go_wp2_with fail
 go_loopw [4, 7] (fun n v wr => ∃ i : Nat, i ≤ k ∧ v = .int .i64 (i : Int) ∧ n = .int .u64 ((sum ((bs.drop a).take i) : Nat) : Int) ∧ w = wr) (fun _ v _ => k - (Go.RowKit.intOf v).toNat)
 case atStart => exact ⟨0, by omega, rfl, rfl, rfl⟩
 case round =>
  obtain ⟨i, hi, rfl, rfl, rfl⟩ := hrel
  by_cases hlt : i < k
  ·obtain ⟨c, hc⟩ : ∃ c, bs[a + i]? = some c := ⟨_, List.getElem?_eq_getElem (by omega)⟩
   have e0 := cellOf HX.out (a + i) (v := .int .u8 (c.toNat : Int)) (by simpa using bV_get hc)
   have htk : (bs.drop a).take (i + 1) = (bs.drop a).take i ++ [c] := by
    rw [List.take_add_one, List.getElem?_drop, hc]
    rfl
   have hln : ((bs.drop a).take i).length = i := by rw [List.length_take, List.length_drop]; omega
   have HSN : Hid (sum ((bs.drop a).take (i + 1)) = sum ((bs.drop a).take i) + 256 ^ i * c.toNat) := Lib.hid (by rw [htk, sum_snoc, hln])
   obtain ⟨sa, hsa⟩ : ∃ s, sum ((bs.drop a).take i) = s := ⟨_, rfl⟩
   have hsl : sa < 256 ^ i := by
    have := sum_lt ((bs.drop a).take i)
    rw [hln, hsa] at this
    exact this
   obtain ⟨cn, hcn⟩ : ∃ x, c.toNat = x := ⟨_, rfl⟩
   have hcl : cn < 256 := by rw [← hcn]; exact byte_lt c
   rw [hsa, hcn] at HSN
   rw [hcn] at e0
   rw [hsa]
   have HOR := Lib.hid (or_shl (i := i) (by omega) hsl hcl)
   clear hc htk hln hsa hcn hsl
   go_wp2_with fail
   refine ⟨⟨i + 1, by omega, by go_num, ?_, trivial⟩, by simp [Go.RowKit.intOf]; omega⟩
   rw [shl_val (by omega) hcl, HOR.out, HSN.out]
  ·obtain rfl : i = k := by omega
   have HG : Hid (getN i (bs.drop a) = sum ((bs.drop a).take i)) := Lib.hid rfl
   obtain ⟨sa, hsa⟩ : ∃ s, sum ((bs.drop a).take i) = s := ⟨_, rfl⟩
   rw [hsa] at HG ⊢
   clear hsa
   go_wp2_with fail
   go_ret
   refine ⟨?_, by rw [show ((a + i : Nat) : Int) = (a : Int) + (i : Int) by omega]⟩
   rw [HG.out]
   rfl
end Go.Proofs.YtgmahhdnjikdjaaGreat
/- super: Of (of a superblock's bytes), walked. -/
namespace Go.Proofs.YtgmahhdnjikdjaaGreat
open Go.RowKit Wire
set_option linter.unusedVariables false
set_option linter.unusedSimpArgs false
/-- The bytes' box, and the place's. -/
def GetS (w : World) (qb qa a : Nat) (R : List UInt8) : Prop := BoxB w qb R ∧ w.heap[qa]? = some (.cells #[.int .i64 (a : Int)] 3 (0, 0))
theorem get_next {w : World} {qb qa a k x : Nat} {R : List UInt8} (h : GetS w qb qa a R) (hn : qb ≠ qa) (hl : R.length = 256) (hk : k ≤ 8) (hak : a + k ≤ 256) (hg : getN k (R.drop a) = x) :
  Calls Tryz.prog 118 #[.int .i64 (k : Int), .pointer (some ⟨qb, 0, none⟩), .pointer (some ⟨qa, 0, none⟩)] w fun e w' => e = .returned (.int .u64 (x : Int)) ∧ GetS w' qb qa (a + k) R ∧ Mods [qa] w w' :=
 (get_at w qb qa k a R h.1 hl h.2 hk hak).mono fun e w' hp => by
  obtain ⟨h1, rfl⟩ := hp
  rw [hg] at h1
  exact ⟨h1, ⟨(Below.heap_setCell w ⟨qa, 0, none⟩ _ qb hn).trans h.1, by
   have := setOf h.2 0 (.int .i64 ((a + k : Nat) : Int))
   exact this⟩, (Mods.refl _ _).setCell (p := ⟨qa, 0, none⟩) (List.mem_singleton.2 rfl) _⟩
theorem GetS.keep {w w' : World} {qb qa a : Nat} {R : List UInt8} {F : List Nat} (h : GetS w qb qa a R) (hm : Mods F w w') (h1 : qb ∉ F) (h2 : qa ∉ F) : GetS w' qb qa a R :=
 ⟨(hm.block _ (Array.getElem?_eq_some_iff.1 h.1).1 h1).trans h.1, (hm.block _ (Array.getElem?_eq_some_iff.1 h.2).1 h2).trans h.2⟩
theorem gets_of {tx mn dn p0 p1 p2 p3 p4 p5 tp bs sg cn ep la sq bl bq mb : Nat} {R : List UInt8} (h : getNs suKs (R.drop 8) = [tx, mn, dn, p0, p1, p2, p3, p4, p5, tp, bs, sg, cn, ep, la, sq, bl, bq, mb]) :
  getN 8 (R.drop 8) = tx ∧ getN 4 (R.drop 16) = mn ∧ getN 4 (R.drop 20) = dn ∧ getN 4 (R.drop 24) = p0 ∧ getN 4 (R.drop 28) = p1 ∧ getN 4 (R.drop 32) = p2 ∧ getN 4 (R.drop 36) = p3 ∧ getN 4 (R.drop 40) = p4 ∧ getN 4 (R.drop 44) = p5 ∧ getN 4 (R.drop 48) = tp ∧ getN 4 (R.drop 52) = bs ∧ getN 4 (R.drop 56) = sg ∧ getN 4 (R.drop 60) = cn ∧ getN 8 (R.drop 64) = ep ∧ getN 8 (R.drop 72) = la ∧ getN 8 (R.drop 80) = sq ∧ getN 8 (R.drop 88) = bl ∧ getN 8 (R.drop 96) = bq ∧ getN 1 (R.drop 104) = mb := by
 unfold suKs at h
 simp only [getNs, List.drop_drop, Nat.reduceAdd, List.cons.injEq, and_true] at h
 exact h
theorem res_sup {fn : Func} {p u : Tmp} (h : fn.results = #[.cell p 72, .tmp u]) (tmps : Array Value) (w : World) (g : Nat) (L : List Value) (x : Value) (hp : tmps.getD p undef = .pointer (some ⟨g, 0, none⟩)) (hx : tmps.getD u undef = x) (hr : w.rangeAt g 0 L) (hl : (Tryz.prog.info? 72).map (·.size) = some L.length) :
  (results fn tmps).run Tryz.prog w = .ok (.tuple #[.agg L.toArray, x]) w := by
 rw [results_cell_tmp h, hp, hx]
 have := run_loadVar_mid (P := Tryz.prog) w g 0 72 L _ hr Tryz.underlying72 rfl hl
 simp only [asAddr, Sem.run_pure, Result.andThen_ok, this]
/-- What a superblock's box holds, read up to page k. -/
def SBk (tx mn dn p0 p1 p2 p3 p4 p5 k : Nat) : Array Value := ([Value.int .u64 (tx : Int), .int .i64 (mn : Int), .int .i64 (dn : Int)] ++ ((([p0, p1, p2, p3, p4, p5].take k ++ List.replicate (6 - k) 0).map fun n => Value.int .u32 ((n : Nat) : Int)) ++ ([.int .u32 0, .int .u32 0, .int .u32 0, .int .i64 0, .int .u64 0, .int .u64 0, .int .u64 0, .int .u64 0, .int .u64 0, .bool false] : List Value))).toArray
theorem sbk_get {tx mn dn p0 p1 p2 p3 p4 p5 k : Nat} (h : k < 6) : (SBk tx mn dn p0 p1 p2 p3 p4 p5 k)[3 + k]? = some (.int .u32 0) := by
 rcases (show k = 0 ∨ k = 1 ∨ k = 2 ∨ k = 3 ∨ k = 4 ∨ k = 5 by omega) with rfl | rfl | rfl | rfl | rfl | rfl <;> rfl
theorem sbk_set {tx mn dn p0 p1 p2 p3 p4 p5 k pk : Nat} (h : k < 6) (hp : [p0, p1, p2, p3, p4, p5][k]? = some pk) : (SBk tx mn dn p0 p1 p2 p3 p4 p5 k).setIfInBounds (3 + k) (.int .u32 (pk : Int)) = SBk tx mn dn p0 p1 p2 p3 p4 p5 (k + 1) := by
 rcases (show k = 0 ∨ k = 1 ∨ k = 2 ∨ k = 3 ∨ k = 4 ∨ k = 5 by omega) with rfl | rfl | rfl | rfl | rfl | rfl <;> (obtain rfl := Option.some.inj hp; rfl)
set_option maxRecDepth 100000 in
set_option maxHeartbeats 12800000 in
theorem sof_at (w : World) (s : Su) (hw : s.Wf) (hm : s.May) : Calls Tryz.prog 64 #[bA s.bytes] w fun e w' => e = .returned (.tuple #[suV s, .int .i64 0]) ∧ Below w.heap.size w w' := by
 obtain ⟨tx, mt, dt, pg, tp, bs, sg, cu, ep, la, sq, bl, bq, mk⟩ := s
 obtain ⟨w1, w2, w3, w4, w5, w6, w7, w8, w9, w10, w11⟩ := id hw
 obtain ⟨m1, m2, m3, m4, m5, m6, m7, m8, m9⟩ := id hm
 dsimp only at w1 w2 w3 w4 w5 w6 w7 w8 w9 w10 w11 m1 m2 m3 m4 m5 m6 m7 m8 m9
 obtain ⟨p0, p1, p2, p3, p4, p5, hp⟩ : ∃ a b c d e f, pg = [a, b, c, d, e, f] := by
  match hs : pg, w2 with
  | [a, b, c, d, e, f], _ => exact ⟨a, b, c, d, e, f, rfl⟩
 subst hp
 obtain ⟨mn, rfl⟩ : ∃ n : Nat, mt = (n : Int) := ⟨mt.toNat, by omega⟩
 obtain ⟨dn, rfl⟩ : ∃ n : Nat, dt = (n : Int) := ⟨dt.toNat, by omega⟩
 obtain ⟨cn, rfl⟩ : ∃ n : Nat, cu = (n : Int) := ⟨cu.toNat, by omega⟩
 have CBK : Hid (∀ X, Calls Tryz.prog 65 #[suV (⟨tx, (mn : Int), (dn : Int), [p0, p1, p2, p3, p4, p5], tp, bs, sg, (cn : Int), ep, la, sq, bl, bq, mk⟩ : Su)] X fun e w' => e = .returned (.tuple #[bA (Su.bytes (⟨tx, (mn : Int), (dn : Int), [p0, p1, p2, p3, p4, p5], tp, bs, sg, (cn : Int), ep, la, sq, bl, bq, mk⟩ : Su)), .int .i64 0]) ∧ Below X.heap.size X w') := Lib.hid (fun X => sblock_at X _ hw hm)
 have HRL : Hid ((Su.bytes (⟨tx, (mn : Int), (dn : Int), [p0, p1, p2, p3, p4, p5], tp, bs, sg, (cn : Int), ep, la, sq, bl, bq, mk⟩ : Su)).length = 256) := Lib.hid (Su.bytes_len hw.2.1)
 have hgs : getNs suKs ((Su.bytes (⟨tx, (mn : Int), (dn : Int), [p0, p1, p2, p3, p4, p5], tp, bs, sg, (cn : Int), ep, la, sq, bl, bq, mk⟩ : Su)).drop 8) = (Su.nums (⟨tx, (mn : Int), (dn : Int), [p0, p1, p2, p3, p4, p5], tp, bs, sg, (cn : Int), ep, la, sq, bl, bq, mk⟩ : Su)).map (·.1) := Su.gets hw hm
 clear hw hm
 obtain ⟨mb, hmb⟩ : ∃ x : Nat, (if mk then 1 else 0) = x := ⟨_, rfl⟩
 have q0 := w3 p0 (by simp)
 have q1 := w3 p1 (by simp)
 have q2 := w3 p2 (by simp)
 have q3 := w3 p3 (by simp)
 have q4 := w3 p4 (by simp)
 have q5 := w3 p5 (by simp)
 obtain ⟨g0, g1, g2, g3, g4, g5, g6, g7, g8, g9, g10, g11, g12, g13, g14, g15, g16, g17, g18⟩ := gets_of (tx := tx) (mn := mn) (dn := dn) (p0 := p0) (p1 := p1) (p2 := p2) (p3 := p3) (p4 := p4) (p5 := p5) (tp := tp) (bs := bs) (sg := sg) (cn := cn) (ep := ep) (la := la) (sq := sq) (bl := bl) (bq := bq) (mb := mb) (by rw [hgs, ← hmb]; rfl)
 have HMB : Hid ((((mb : Nat) : Int) == 1) = mk) := Lib.hid (by rw [← hmb]; cases mk <;> rfl)
 have hmb1 : mb ≤ 1 := by rw [← hmb]; split <;> omega
 have HG := Lib.hid (And.intro g0 (And.intro g1 (And.intro g2 (And.intro g3 (And.intro g4 (And.intro g5 (And.intro g6 (And.intro g7 g8))))))))
 have HG2 := Lib.hid (And.intro g9 (And.intro g10 (And.intro g11 (And.intro g12 (And.intro g13 (And.intro g14 (And.intro g15 (And.intro g16 (And.intro g17 g18)))))))))
 obtain ⟨R, hR⟩ : ∃ x, Su.bytes ⟨tx, (mn : Int), (dn : Int), [p0, p1, p2, p3, p4, p5], tp, bs, sg, (cn : Int), ep, la, sq, bl, bq, mk⟩ = x := ⟨_, rfl⟩
 rw [hR] at HG HG2 HRL CBK ⊢
 clear g0 g1 g2 g3 g4 g5 g6 g7 g8 g9 g10 g11 g12 g13 g14 g15 g16 g17 g18 hgs hmb w2 w3 m9 hR
 obtain ⟨wa, hwa⟩ : ∃ W, w.alloc (.cells (bV R).toArray 78) = W := ⟨_, rfl⟩
 have hba : Below w.heap.size w wa := by rw [← hwa]; exact balloc (Below.refl _ _) _
 have hxa : BoxB wa w.heap.size R := by unfold BoxB; rw [← hwa]; exact heap_alloc_new _ _
 obtain ⟨wb, hwb⟩ : ∃ W, wa.alloc (.cells #[.int .u64 0, .int .i64 0, .int .i64 0, .int .u32 0, .int .u32 0, .int .u32 0, .int .u32 0, .int .u32 0, .int .u32 0, .int .u32 0, .int .u32 0, .int .u32 0, .int .i64 0, .int .u64 0, .int .u64 0, .int .u64 0, .int .u64 0, .int .u64 0, .bool false] 72) = W := ⟨_, rfl⟩
 have hbb : Below wa.heap.size wa wb := by rw [← hwb]; exact balloc (Below.refl _ _) _
 have hxb : wb.heap[wa.heap.size]? = some (.cells #[.int .u64 0, .int .i64 0, .int .i64 0, .int .u32 0, .int .u32 0, .int .u32 0, .int .u32 0, .int .u32 0, .int .u32 0, .int .u32 0, .int .u32 0, .int .u32 0, .int .i64 0, .int .u64 0, .int .u64 0, .int .u64 0, .int .u64 0, .int .u64 0, .bool false] 72 (0, 0)) := by rw [← hwb]; exact heap_alloc_new _ _
 obtain ⟨wc, hwc⟩ : ∃ W, (wb.alloc (.cells #[.int .i64 8] 3)) = W := ⟨_, rfl⟩
 have hbc : Below wb.heap.size wb wc := by rw [← hwc]; exact balloc (Below.refl _ _) _
 have hxc : wc.heap[wb.heap.size]? = some (.cells #[.int .i64 8] 3 (0, 0)) := by rw [← hwc]; exact heap_alloc_new _ _
 have hmf : ∀ (fn : Fn) (first cap : Array Value) (w : World), (Instr.makeFunc fn first cap).run Tryz.prog w = .ok (.func fn first cap) w := by intros; rfl
 rw [show bA R = .agg (bV R).toArray from rfl]
 go_enter Tryz.func64, Tryz.ntmps64
 go_upto_region 3 with fail
 (try rw [hwa])
 (try rw [hwb])
 (try rw [hwc])
--GEN
 have HNE : Hid (w.heap.size ≠ wb.heap.size ∧ w.heap.size ≠ wa.heap.size ∧ wa.heap.size ∉ [wb.heap.size]) := Lib.hid (by
  have h1 := (Array.getElem?_eq_some_iff.1 hxa).1
  have h2 := (Array.getElem?_eq_some_iff.1 hxb).1
  exact ⟨by omega, by omega, by simp; omega⟩)
 have GSC : Hid (GetS wc w.heap.size wb.heap.size 8 R) := Lib.hid ⟨(hbc.block _ (by have := (Array.getElem?_eq_some_iff.1 hxa).1; have := hbb.size; omega)).trans ((hbb.block _ (Array.getElem?_eq_some_iff.1 hxa).1).trans hxa), hxc⟩
 have HSC : Hid (wc.heap[wa.heap.size]? = some (.cells #[.int .u64 0, .int .i64 0, .int .i64 0, .int .u32 0, .int .u32 0, .int .u32 0, .int .u32 0, .int .u32 0, .int .u32 0, .int .u32 0, .int .u32 0, .int .u32 0, .int .i64 0, .int .u64 0, .int .u64 0, .int .u64 0, .int .u64 0, .int .u64 0, .bool false] 72 (0, 0))) := Lib.hid ((hbc.block _ (Array.getElem?_eq_some_iff.1 hxb).1).trans hxb)
 have HMC : Hid (Mods [wa.heap.size, wb.heap.size] wc wc) := Lib.hid (Mods.refl _ _)
 have HQG : Hid (w.heap.size ≤ wa.heap.size ∧ w.heap.size ≤ wb.heap.size) := Lib.hid ⟨hba.size, Nat.le_trans hba.size hbb.size⟩
 have HBC : Hid (Below w.heap.size w wc) := Lib.hid (bthn hba (bthn hbb hbc))
 clear hxa hxb hxc hwa hwb hwc hba hbb hbc
 have CG := get_next (k := 8) (x := tx) GSC.out HNE.out.1 HRL.out (by omega) (by omega) HG.out.1
 go_wp2_with fail
 refine CG.mono ?_
 rintro e x0 ⟨rfl, hgs, hmm⟩
 have GS0 : Hid (GetS x0 w.heap.size wb.heap.size 16 R) := Lib.hid hgs
 have HS0 : Hid (x0.heap[wa.heap.size]? = some (.cells #[.int .u64 0, .int .i64 0, .int .i64 0, .int .u32 0, .int .u32 0, .int .u32 0, .int .u32 0, .int .u32 0, .int .u32 0, .int .u32 0, .int .u32 0, .int .u32 0, .int .i64 0, .int .u64 0, .int .u64 0, .int .u64 0, .int .u64 0, .int .u64 0, .bool false] 72 (0, 0))) := Lib.hid ((hmm.block _ (Array.getElem?_eq_some_iff.1 HSC.out).1 HNE.out.2.2).trans HSC.out)
 have HM0 : Hid (Mods [wa.heap.size, wb.heap.size] wc x0) := Lib.hid (HMC.out.trans hmm (fun i hi => .inl (List.mem_cons_of_mem _ hi)))
 clear CG hgs hmm
 have CG := get_next (k := 4) (x := mn) GS0.out HNE.out.1 HRL.out (by omega) (by omega) HG.out.2.1
 go_wp2_with fail
 refine CG.mono ?_
 rintro e x1 ⟨rfl, hgs, hmm⟩
 have GS1 : Hid (GetS x1 w.heap.size wb.heap.size 20 R) := Lib.hid hgs
 have HS1 : Hid (x1.heap[wa.heap.size]? = some (.cells #[.int .u64 0, .int .i64 0, .int .i64 0, .int .u32 0, .int .u32 0, .int .u32 0, .int .u32 0, .int .u32 0, .int .u32 0, .int .u32 0, .int .u32 0, .int .u32 0, .int .i64 0, .int .u64 0, .int .u64 0, .int .u64 0, .int .u64 0, .int .u64 0, .bool false] 72 (0, 0))) := Lib.hid ((hmm.block _ (Array.getElem?_eq_some_iff.1 HS0.out).1 HNE.out.2.2).trans HS0.out)
 have HM1 : Hid (Mods [wa.heap.size, wb.heap.size] wc x1) := Lib.hid (HM0.out.trans hmm (fun i hi => .inl (List.mem_cons_of_mem _ hi)))
 clear CG hgs hmm
 have CG := get_next (k := 4) (x := dn) GS1.out HNE.out.1 HRL.out (by omega) (by omega) HG.out.2.2.1
 go_wp2_with fail
 refine CG.mono ?_
 rintro e x2 ⟨rfl, hgs, hmm⟩
 have GS2 : Hid (GetS x2 w.heap.size wb.heap.size 24 R) := Lib.hid hgs
 have HS2 : Hid (x2.heap[wa.heap.size]? = some (.cells #[.int .u64 0, .int .i64 0, .int .i64 0, .int .u32 0, .int .u32 0, .int .u32 0, .int .u32 0, .int .u32 0, .int .u32 0, .int .u32 0, .int .u32 0, .int .u32 0, .int .i64 0, .int .u64 0, .int .u64 0, .int .u64 0, .int .u64 0, .int .u64 0, .bool false] 72 (0, 0))) := Lib.hid ((hmm.block _ (Array.getElem?_eq_some_iff.1 HS1.out).1 HNE.out.2.2).trans HS1.out)
 have HM2 : Hid (Mods [wa.heap.size, wb.heap.size] wc x2) := Lib.hid (HM1.out.trans hmm (fun i hi => .inl (List.mem_cons_of_mem _ hi)))
 clear CG hgs hmm
 have hsx := HS2.out
 have s0 := cellOf hsx 0 (v := .int .u64 0) rfl
 have s1 := cellOf hsx 1 (v := .int .i64 0) rfl
 have s2 := cellOf hsx 2 (v := .int .i64 0) rfl
 have f0 := frozenOf hsx 0
 have f1 := frozenOf hsx 1
 have f2 := frozenOf hsx 2
 clear hsx
 go_wp2_with fail
 obtain ⟨x3, hx3⟩ : ∃ W, ((x2.setCell ⟨wa.heap.size, 0, none⟩ (.int .u64 (tx : Int))).setCell ⟨wa.heap.size, 1, none⟩ (.int .i64 (mn : Int))).setCell ⟨wa.heap.size, 2, none⟩ (.int .i64 (dn : Int)) = W := ⟨_, rfl⟩
 have hm3 : Mods [wa.heap.size] x2 x3 := by rw [← hx3]; exact (((Mods.refl _ _).setCell (p := ⟨wa.heap.size, 0, none⟩) (List.mem_singleton.2 rfl) _).setCell (p := ⟨wa.heap.size, 1, none⟩) (List.mem_singleton.2 rfl) _).setCell (p := ⟨wa.heap.size, 2, none⟩) (List.mem_singleton.2 rfl) _
 have HQN : Hid (wb.heap.size ∉ [wa.heap.size] ∧ w.heap.size ∉ [wa.heap.size]) := Lib.hid ⟨fun h => HNE.out.2.2 (by rw [List.mem_singleton.1 h]; simp), fun h => HNE.out.2.1 (List.mem_singleton.1 h)⟩
 have HS3 : Hid (x3.heap[wa.heap.size]? = some (.cells (SBk tx mn dn p0 p1 p2 p3 p4 p5 0) 72 (0, 0))) := Lib.hid (by rw [← hx3]; exact setOf (setOf (setOf HS2.out 0 _) 1 _) 2 _)
 have GS3 : Hid (GetS x3 w.heap.size wb.heap.size (24 + 4 * 0) R) := Lib.hid (GS2.out.keep hm3 HQN.out.2 HQN.out.1)
 have HM3 : Hid (Mods [wa.heap.size, wb.heap.size] wc x3) := Lib.hid (HM2.out.trans hm3 (fun i hi => .inl (by rw [List.mem_singleton.1 hi]; exact List.mem_cons_self ..)))
 have HPG : Hid (∀ k pk, [p0, p1, p2, p3, p4, p5][k]? = some pk → getN 4 (R.drop (24 + 4 * k)) = pk) := Lib.hid (fun k pk h => by
  have hk := (List.getElem?_eq_some_iff.1 h).1
  have g := HG.out
  rcases (show k = 0 ∨ k = 1 ∨ k = 2 ∨ k = 3 ∨ k = 4 ∨ k = 5 by simp at hk; omega) with rfl | rfl | rfl | rfl | rfl | rfl <;> (obtain rfl := Option.some.inj h)
  ·exact g.2.2.2.1
  ·exact g.2.2.2.2.1
  ·exact g.2.2.2.2.2.1
  ·exact g.2.2.2.2.2.2.1
  ·exact g.2.2.2.2.2.2.2.1
  ·exact g.2.2.2.2.2.2.2.2)
 rw [hx3]
 clear hx3 hm3 s0 s1 s2 f0 f1 f2
 go_loopw [21] (fun v wr => ∃ k : Nat, k ≤ 6 ∧ v = .int .i64 (k : Int) ∧ GetS wr w.heap.size wb.heap.size (24 + 4 * k) R ∧ wr.heap[wa.heap.size]? = some (.cells (SBk tx mn dn p0 p1 p2 p3 p4 p5 k) 72 (0, 0)) ∧ Mods [wa.heap.size, wb.heap.size] wc wr) (fun v _ => 6 - (Go.RowKit.intOf v).toNat)
 case atStart => exact ⟨0, by omega, rfl, GS3.out, HS3.out, HM3.out⟩
 case round =>
  obtain ⟨k, hk, rfl, hgs, hss, hmm⟩ := hrel
  have GSK := Lib.hid hgs
  have HSK := Lib.hid hss
  have HMK := Lib.hid hmm
  clear hgs hss hmm
  by_cases hlt : k < 6
  ·obtain ⟨pk, hpk⟩ : ∃ x, [p0, p1, p2, p3, p4, p5][k]? = some x := ⟨_, List.getElem?_eq_getElem (by simpa using hlt)⟩
   have hpb : pk < 4294967296 := by
    rcases (show k = 0 ∨ k = 1 ∨ k = 2 ∨ k = 3 ∨ k = 4 ∨ k = 5 by omega) with rfl | rfl | rfl | rfl | rfl | rfl <;> (obtain rfl := Option.some.inj hpk; assumption)
   have CG := get_next (k := 4) (x := pk) GSK.out HNE.out.1 HRL.out (by omega) (by omega) (HPG.out k pk hpk)
   have HSB := Lib.hid (sbk_set (tx := tx) (mn := mn) (dn := dn) hlt hpk)
   clear hpk
   go_wp2_with fail
   refine CG.mono ?_
   rintro e x4 ⟨rfl, hgs, hmm⟩
   have hs4 : x4.heap[wa.heap.size]? = some (.cells (SBk tx mn dn p0 p1 p2 p3 p4 p5 k) 72 (0, 0)) := (hmm.block _ (Array.getElem?_eq_some_iff.1 HSK.out).1 HNE.out.2.2).trans HSK.out
   have HM4 : Hid (Mods [wa.heap.size, wb.heap.size] wc x4) := Lib.hid (HMK.out.trans hmm (fun i hi => .inl (List.mem_cons_of_mem _ hi)))
   have HS4 := Lib.hid hs4
   have HGS4 := Lib.hid hgs
   have s3 := cellOf hs4 (3 + k) (v := .int .u32 0) (sbk_get hlt)
   have f3 := frozenOf hs4 (3 + k)
   clear CG hgs hmm hs4
   go_wp2_with fail
   refine ⟨⟨k + 1, by omega, by go_num, ?_, by rw [← HSB.out]; exact setOf HS4.out (3 + k) _, HM4.out.setCell (p := ⟨wa.heap.size, 3 + k, none⟩) (List.mem_cons_self ..) _⟩, by simp [Go.RowKit.intOf]; omega⟩
   have h := HGS4.out.keep ((Mods.refl [wa.heap.size] x4).setCell (p := ⟨wa.heap.size, 3 + k, none⟩) (List.mem_singleton.2 rfl) (.int .u32 (pk : Int))) HQN.out.2 HQN.out.1
   rw [show 24 + 4 * (k + 1) = 24 + 4 * k + 4 by omega]
   exact h
  ·obtain rfl : k = 6 := by omega
   have GS8 : Hid (GetS wr w.heap.size wb.heap.size 48 R) := GSK
   have HS8 : Hid (wr.heap[wa.heap.size]? = some (.cells #[.int .u64 (tx : Int), .int .i64 (mn : Int), .int .i64 (dn : Int), .int .u32 (p0 : Int), .int .u32 (p1 : Int), .int .u32 (p2 : Int), .int .u32 (p3 : Int), .int .u32 (p4 : Int), .int .u32 (p5 : Int), .int .u32 0, .int .u32 0, .int .u32 0, .int .i64 0, .int .u64 0, .int .u64 0, .int .u64 0, .int .u64 0, .int .u64 0, .bool false] 72 (0, 0))) := Lib.hid HSK.out
   have HM8 := HMK
   have hmbe := HMB.out
   have CG := get_next (k := 4) (x := tp) GS8.out HNE.out.1 HRL.out (by omega) (by omega) HG2.out.1
   go_wp2_with fail
   refine CG.mono ?_
   rintro e x9 ⟨rfl, hgs, hmm⟩
   have GS9 : Hid (GetS x9 w.heap.size wb.heap.size 52 R) := Lib.hid hgs
   have HS9 : Hid (x9.heap[wa.heap.size]? = some (.cells #[.int .u64 (tx : Int), .int .i64 (mn : Int), .int .i64 (dn : Int), .int .u32 (p0 : Int), .int .u32 (p1 : Int), .int .u32 (p2 : Int), .int .u32 (p3 : Int), .int .u32 (p4 : Int), .int .u32 (p5 : Int), .int .u32 0, .int .u32 0, .int .u32 0, .int .i64 0, .int .u64 0, .int .u64 0, .int .u64 0, .int .u64 0, .int .u64 0, .bool false] 72 (0, 0))) := Lib.hid ((hmm.block _ (Array.getElem?_eq_some_iff.1 HS8.out).1 HNE.out.2.2).trans HS8.out)
   have HM9 : Hid (Mods [wa.heap.size, wb.heap.size] wc x9) := Lib.hid (HM8.out.trans hmm (fun i hi => .inl (List.mem_cons_of_mem _ hi)))
   clear CG hgs hmm
   have CG := get_next (k := 4) (x := bs) GS9.out HNE.out.1 HRL.out (by omega) (by omega) HG2.out.2.1
   go_wp2_with fail
   refine CG.mono ?_
   rintro e x10 ⟨rfl, hgs, hmm⟩
   have GS10 : Hid (GetS x10 w.heap.size wb.heap.size 56 R) := Lib.hid hgs
   have HS10 : Hid (x10.heap[wa.heap.size]? = some (.cells #[.int .u64 (tx : Int), .int .i64 (mn : Int), .int .i64 (dn : Int), .int .u32 (p0 : Int), .int .u32 (p1 : Int), .int .u32 (p2 : Int), .int .u32 (p3 : Int), .int .u32 (p4 : Int), .int .u32 (p5 : Int), .int .u32 0, .int .u32 0, .int .u32 0, .int .i64 0, .int .u64 0, .int .u64 0, .int .u64 0, .int .u64 0, .int .u64 0, .bool false] 72 (0, 0))) := Lib.hid ((hmm.block _ (Array.getElem?_eq_some_iff.1 HS9.out).1 HNE.out.2.2).trans HS9.out)
   have HM10 : Hid (Mods [wa.heap.size, wb.heap.size] wc x10) := Lib.hid (HM9.out.trans hmm (fun i hi => .inl (List.mem_cons_of_mem _ hi)))
   clear CG hgs hmm
   have CG := get_next (k := 4) (x := sg) GS10.out HNE.out.1 HRL.out (by omega) (by omega) HG2.out.2.2.1
   go_wp2_with fail
   refine CG.mono ?_
   rintro e x11 ⟨rfl, hgs, hmm⟩
   have GS11 : Hid (GetS x11 w.heap.size wb.heap.size 60 R) := Lib.hid hgs
   have HS11 : Hid (x11.heap[wa.heap.size]? = some (.cells #[.int .u64 (tx : Int), .int .i64 (mn : Int), .int .i64 (dn : Int), .int .u32 (p0 : Int), .int .u32 (p1 : Int), .int .u32 (p2 : Int), .int .u32 (p3 : Int), .int .u32 (p4 : Int), .int .u32 (p5 : Int), .int .u32 0, .int .u32 0, .int .u32 0, .int .i64 0, .int .u64 0, .int .u64 0, .int .u64 0, .int .u64 0, .int .u64 0, .bool false] 72 (0, 0))) := Lib.hid ((hmm.block _ (Array.getElem?_eq_some_iff.1 HS10.out).1 HNE.out.2.2).trans HS10.out)
   have HM11 : Hid (Mods [wa.heap.size, wb.heap.size] wc x11) := Lib.hid (HM10.out.trans hmm (fun i hi => .inl (List.mem_cons_of_mem _ hi)))
   clear CG hgs hmm
   have CG := get_next (k := 4) (x := cn) GS11.out HNE.out.1 HRL.out (by omega) (by omega) HG2.out.2.2.2.1
   go_wp2_with fail
   refine CG.mono ?_
   rintro e x12 ⟨rfl, hgs, hmm⟩
   have GS12 : Hid (GetS x12 w.heap.size wb.heap.size 64 R) := Lib.hid hgs
   have HS12 : Hid (x12.heap[wa.heap.size]? = some (.cells #[.int .u64 (tx : Int), .int .i64 (mn : Int), .int .i64 (dn : Int), .int .u32 (p0 : Int), .int .u32 (p1 : Int), .int .u32 (p2 : Int), .int .u32 (p3 : Int), .int .u32 (p4 : Int), .int .u32 (p5 : Int), .int .u32 0, .int .u32 0, .int .u32 0, .int .i64 0, .int .u64 0, .int .u64 0, .int .u64 0, .int .u64 0, .int .u64 0, .bool false] 72 (0, 0))) := Lib.hid ((hmm.block _ (Array.getElem?_eq_some_iff.1 HS11.out).1 HNE.out.2.2).trans HS11.out)
   have HM12 : Hid (Mods [wa.heap.size, wb.heap.size] wc x12) := Lib.hid (HM11.out.trans hmm (fun i hi => .inl (List.mem_cons_of_mem _ hi)))
   clear CG hgs hmm
   have hsx := HS12.out
   have s9 := cellOf hsx 9 (v := .int .u32 0) rfl
   have f9 := frozenOf hsx 9
   have s10 := cellOf hsx 10 (v := .int .u32 0) rfl
   have f10 := frozenOf hsx 10
   have s11 := cellOf hsx 11 (v := .int .u32 0) rfl
   have f11 := frozenOf hsx 11
   have s12 := cellOf hsx 12 (v := .int .i64 0) rfl
   have f12 := frozenOf hsx 12
   clear hsx
   go_upto_region 10 with fail
   obtain ⟨y12, hy⟩ : ∃ W, (((x12.setCell ⟨wa.heap.size, 9, none⟩ (.int .u32 (tp : Int))).setCell ⟨wa.heap.size, 10, none⟩ (.int .u32 (bs : Int))).setCell ⟨wa.heap.size, 11, none⟩ (.int .u32 (sg : Int))).setCell ⟨wa.heap.size, 12, none⟩ (.int .i64 (cn : Int)) = W := ⟨_, rfl⟩
   have hmy : Mods [wa.heap.size] x12 y12 := by rw [← hy]; exact ((((Mods.refl _ _).setCell (p := ⟨wa.heap.size, 9, none⟩) (List.mem_singleton.2 rfl) _).setCell (p := ⟨wa.heap.size, 10, none⟩) (List.mem_singleton.2 rfl) _).setCell (p := ⟨wa.heap.size, 11, none⟩) (List.mem_singleton.2 rfl) _).setCell (p := ⟨wa.heap.size, 12, none⟩) (List.mem_singleton.2 rfl) _
   have HSY : Hid (y12.heap[wa.heap.size]? = some (.cells #[.int .u64 (tx : Int), .int .i64 (mn : Int), .int .i64 (dn : Int), .int .u32 (p0 : Int), .int .u32 (p1 : Int), .int .u32 (p2 : Int), .int .u32 (p3 : Int), .int .u32 (p4 : Int), .int .u32 (p5 : Int), .int .u32 (tp : Int), .int .u32 (bs : Int), .int .u32 (sg : Int), .int .i64 (cn : Int), .int .u64 0, .int .u64 0, .int .u64 0, .int .u64 0, .int .u64 0, .bool false] 72 (0, 0))) := Lib.hid (by rw [← hy]; exact setOf (setOf (setOf (setOf HS12.out 9 _) 10 _) 11 _) 12 _)
   have GSY : Hid (GetS y12 w.heap.size wb.heap.size 64 R) := Lib.hid (GS12.out.keep hmy HQN.out.2 HQN.out.1)
   have HMY : Hid (Mods [wa.heap.size, wb.heap.size] wc y12) := Lib.hid (HM12.out.trans hmy (fun i hi => .inl (by rw [List.mem_singleton.1 hi]; exact List.mem_cons_self ..)))
   rw [hy]
   clear hy hmy s9 s10 s11 s12 f9 f10 f11 f12
   have CG := get_next (k := 8) (x := ep) GSY.out HNE.out.1 HRL.out (by omega) (by omega) HG2.out.2.2.2.2.1
   go_wp2_with fail
   refine CG.mono ?_
   rintro e x13 ⟨rfl, hgs, hmm⟩
   have GS13 : Hid (GetS x13 w.heap.size wb.heap.size 72 R) := Lib.hid hgs
   have HS13 : Hid (x13.heap[wa.heap.size]? = some (.cells #[.int .u64 (tx : Int), .int .i64 (mn : Int), .int .i64 (dn : Int), .int .u32 (p0 : Int), .int .u32 (p1 : Int), .int .u32 (p2 : Int), .int .u32 (p3 : Int), .int .u32 (p4 : Int), .int .u32 (p5 : Int), .int .u32 (tp : Int), .int .u32 (bs : Int), .int .u32 (sg : Int), .int .i64 (cn : Int), .int .u64 0, .int .u64 0, .int .u64 0, .int .u64 0, .int .u64 0, .bool false] 72 (0, 0))) := Lib.hid ((hmm.block _ (Array.getElem?_eq_some_iff.1 HSY.out).1 HNE.out.2.2).trans HSY.out)
   have HM13 : Hid (Mods [wa.heap.size, wb.heap.size] wc x13) := Lib.hid (HMY.out.trans hmm (fun i hi => .inl (List.mem_cons_of_mem _ hi)))
   clear CG hgs hmm
   have CG := get_next (k := 8) (x := la) GS13.out HNE.out.1 HRL.out (by omega) (by omega) HG2.out.2.2.2.2.2.1
   go_wp2_with fail
   refine CG.mono ?_
   rintro e x14 ⟨rfl, hgs, hmm⟩
   have GS14 : Hid (GetS x14 w.heap.size wb.heap.size 80 R) := Lib.hid hgs
   have HS14 : Hid (x14.heap[wa.heap.size]? = some (.cells #[.int .u64 (tx : Int), .int .i64 (mn : Int), .int .i64 (dn : Int), .int .u32 (p0 : Int), .int .u32 (p1 : Int), .int .u32 (p2 : Int), .int .u32 (p3 : Int), .int .u32 (p4 : Int), .int .u32 (p5 : Int), .int .u32 (tp : Int), .int .u32 (bs : Int), .int .u32 (sg : Int), .int .i64 (cn : Int), .int .u64 0, .int .u64 0, .int .u64 0, .int .u64 0, .int .u64 0, .bool false] 72 (0, 0))) := Lib.hid ((hmm.block _ (Array.getElem?_eq_some_iff.1 HS13.out).1 HNE.out.2.2).trans HS13.out)
   have HM14 : Hid (Mods [wa.heap.size, wb.heap.size] wc x14) := Lib.hid (HM13.out.trans hmm (fun i hi => .inl (List.mem_cons_of_mem _ hi)))
   clear CG hgs hmm
   have CG := get_next (k := 8) (x := sq) GS14.out HNE.out.1 HRL.out (by omega) (by omega) HG2.out.2.2.2.2.2.2.1
   go_wp2_with fail
   refine CG.mono ?_
   rintro e x15 ⟨rfl, hgs, hmm⟩
   have GS15 : Hid (GetS x15 w.heap.size wb.heap.size 88 R) := Lib.hid hgs
   have HS15 : Hid (x15.heap[wa.heap.size]? = some (.cells #[.int .u64 (tx : Int), .int .i64 (mn : Int), .int .i64 (dn : Int), .int .u32 (p0 : Int), .int .u32 (p1 : Int), .int .u32 (p2 : Int), .int .u32 (p3 : Int), .int .u32 (p4 : Int), .int .u32 (p5 : Int), .int .u32 (tp : Int), .int .u32 (bs : Int), .int .u32 (sg : Int), .int .i64 (cn : Int), .int .u64 0, .int .u64 0, .int .u64 0, .int .u64 0, .int .u64 0, .bool false] 72 (0, 0))) := Lib.hid ((hmm.block _ (Array.getElem?_eq_some_iff.1 HS14.out).1 HNE.out.2.2).trans HS14.out)
   have HM15 : Hid (Mods [wa.heap.size, wb.heap.size] wc x15) := Lib.hid (HM14.out.trans hmm (fun i hi => .inl (List.mem_cons_of_mem _ hi)))
   clear CG hgs hmm
   have CG := get_next (k := 8) (x := bl) GS15.out HNE.out.1 HRL.out (by omega) (by omega) HG2.out.2.2.2.2.2.2.2.1
   go_wp2_with fail
   refine CG.mono ?_
   rintro e x16 ⟨rfl, hgs, hmm⟩
   have GS16 : Hid (GetS x16 w.heap.size wb.heap.size 96 R) := Lib.hid hgs
   have HS16 : Hid (x16.heap[wa.heap.size]? = some (.cells #[.int .u64 (tx : Int), .int .i64 (mn : Int), .int .i64 (dn : Int), .int .u32 (p0 : Int), .int .u32 (p1 : Int), .int .u32 (p2 : Int), .int .u32 (p3 : Int), .int .u32 (p4 : Int), .int .u32 (p5 : Int), .int .u32 (tp : Int), .int .u32 (bs : Int), .int .u32 (sg : Int), .int .i64 (cn : Int), .int .u64 0, .int .u64 0, .int .u64 0, .int .u64 0, .int .u64 0, .bool false] 72 (0, 0))) := Lib.hid ((hmm.block _ (Array.getElem?_eq_some_iff.1 HS15.out).1 HNE.out.2.2).trans HS15.out)
   have HM16 : Hid (Mods [wa.heap.size, wb.heap.size] wc x16) := Lib.hid (HM15.out.trans hmm (fun i hi => .inl (List.mem_cons_of_mem _ hi)))
   clear CG hgs hmm
   have CG := get_next (k := 8) (x := bq) GS16.out HNE.out.1 HRL.out (by omega) (by omega) HG2.out.2.2.2.2.2.2.2.2.1
   go_wp2_with fail
   refine CG.mono ?_
   rintro e x17 ⟨rfl, hgs, hmm⟩
   have GS17 : Hid (GetS x17 w.heap.size wb.heap.size 104 R) := Lib.hid hgs
   have HS17 : Hid (x17.heap[wa.heap.size]? = some (.cells #[.int .u64 (tx : Int), .int .i64 (mn : Int), .int .i64 (dn : Int), .int .u32 (p0 : Int), .int .u32 (p1 : Int), .int .u32 (p2 : Int), .int .u32 (p3 : Int), .int .u32 (p4 : Int), .int .u32 (p5 : Int), .int .u32 (tp : Int), .int .u32 (bs : Int), .int .u32 (sg : Int), .int .i64 (cn : Int), .int .u64 0, .int .u64 0, .int .u64 0, .int .u64 0, .int .u64 0, .bool false] 72 (0, 0))) := Lib.hid ((hmm.block _ (Array.getElem?_eq_some_iff.1 HS16.out).1 HNE.out.2.2).trans HS16.out)
   have HM17 : Hid (Mods [wa.heap.size, wb.heap.size] wc x17) := Lib.hid (HM16.out.trans hmm (fun i hi => .inl (List.mem_cons_of_mem _ hi)))
   clear CG hgs hmm
   have CG := get_next (k := 1) (x := mb) GS17.out HNE.out.1 HRL.out (by omega) (by omega) HG2.out.2.2.2.2.2.2.2.2.2
   go_wp2_with fail
   refine CG.mono ?_
   rintro e x18 ⟨rfl, hgs, hmm⟩
   have GS18 : Hid (GetS x18 w.heap.size wb.heap.size 105 R) := Lib.hid hgs
   have HS18 : Hid (x18.heap[wa.heap.size]? = some (.cells #[.int .u64 (tx : Int), .int .i64 (mn : Int), .int .i64 (dn : Int), .int .u32 (p0 : Int), .int .u32 (p1 : Int), .int .u32 (p2 : Int), .int .u32 (p3 : Int), .int .u32 (p4 : Int), .int .u32 (p5 : Int), .int .u32 (tp : Int), .int .u32 (bs : Int), .int .u32 (sg : Int), .int .i64 (cn : Int), .int .u64 0, .int .u64 0, .int .u64 0, .int .u64 0, .int .u64 0, .bool false] 72 (0, 0))) := Lib.hid ((hmm.block _ (Array.getElem?_eq_some_iff.1 HS17.out).1 HNE.out.2.2).trans HS17.out)
   have HM18 : Hid (Mods [wa.heap.size, wb.heap.size] wc x18) := Lib.hid (HM17.out.trans hmm (fun i hi => .inl (List.mem_cons_of_mem _ hi)))
   clear CG hgs hmm
   have hsx := HS18.out
   have s13 := cellOf hsx 13 (v := .int .u64 0) rfl
   have f13 := frozenOf hsx 13
   have s14 := cellOf hsx 14 (v := .int .u64 0) rfl
   have f14 := frozenOf hsx 14
   have s15 := cellOf hsx 15 (v := .int .u64 0) rfl
   have f15 := frozenOf hsx 15
   have s16 := cellOf hsx 16 (v := .int .u64 0) rfl
   have f16 := frozenOf hsx 16
   have s17 := cellOf hsx 17 (v := .int .u64 0) rfl
   have f17 := frozenOf hsx 17
   have s18 := cellOf hsx 18 (v := .bool false) rfl
   have f18 := frozenOf hsx 18
   clear hsx
   go_upto_region 11 with fail
   obtain ⟨y18, hy⟩ : ∃ W, ((((((x18.setCell ⟨wa.heap.size, 13, none⟩ (.int .u64 (ep : Int))).setCell ⟨wa.heap.size, 14, none⟩ (.int .u64 (la : Int))).setCell ⟨wa.heap.size, 15, none⟩ (.int .u64 (sq : Int))).setCell ⟨wa.heap.size, 16, none⟩ (.int .u64 (bl : Int))).setCell ⟨wa.heap.size, 17, none⟩ (.int .u64 (bq : Int))).setCell ⟨wa.heap.size, 18, none⟩ (.bool mk)) = W := ⟨_, rfl⟩
   have hmy : Mods [wa.heap.size] x18 y18 := by rw [← hy]; exact (((((((Mods.refl _ _).setCell (p := ⟨wa.heap.size, 13, none⟩) (List.mem_singleton.2 rfl) _).setCell (p := ⟨wa.heap.size, 14, none⟩) (List.mem_singleton.2 rfl) _).setCell (p := ⟨wa.heap.size, 15, none⟩) (List.mem_singleton.2 rfl) _).setCell (p := ⟨wa.heap.size, 16, none⟩) (List.mem_singleton.2 rfl) _).setCell (p := ⟨wa.heap.size, 17, none⟩) (List.mem_singleton.2 rfl) _).setCell (p := ⟨wa.heap.size, 18, none⟩) (List.mem_singleton.2 rfl) _)
   have hsy : y18.heap[wa.heap.size]? = some (.cells (suC tx (mn : Int) (dn : Int) p0 p1 p2 p3 p4 p5 tp bs sg (cn : Int) ep la sq bl bq mk) 72 (0, 0)) := by rw [← hy]; exact (setOf (setOf (setOf (setOf (setOf (setOf HS18.out 13 _) 14 _) 15 _) 16 _) 17 _) 18 _)
   have hxy := GS18.out.keep hmy HQN.out.2 HQN.out.1
   have HMY8 : Hid (Mods [wa.heap.size, wb.heap.size] wc y18) := Lib.hid (HM18.out.trans hmy (fun i hi => .inl (by rw [List.mem_singleton.1 hi]; exact List.mem_cons_self ..)))
   have HRY : Hid (BoxB y18 w.heap.size R) := Lib.hid hxy.1
   obtain ⟨SL, hSL, hSn, hS1⟩ := suV_list (⟨tx, (mn : Int), (dn : Int), [p0, p1, p2, p3, p4, p5], tp, bs, sg, (cn : Int), ep, la, sq, bl, bq, mk⟩ : Su)
   have hse : suC tx (mn : Int) (dn : Int) p0 p1 p2 p3 p4 p5 tp bs sg (cn : Int) ep la sq bl bq mk = SL.toArray := Value.agg.inj hSL
   rw [hse] at hsy
   have HSV := Lib.hid hSL
   have CB := CBK.out y18
   rw [hSL] at CB
   have HSY8 := Lib.hid hsy
   have HIS : Hid ((Tryz.prog.info? 72).map (·.size) = some SL.length) := Lib.hid (by rw [hSn]; exact infoSup)
   have hss : SL.toArray.size = 19 := by rw [List.size_toArray, hSn]
   have HS1 := Lib.hid hS1
   rw [hy]
   clear hy hmy hxy hsy hse hSL hS1 hSn s13 s14 s15 s16 s17 s18 f13 f14 f15 f16 f17 f18 hmbe
   apply wp_region_lit
   repeat (first
    | (refine wpList_load_mid rfl 72 _ rfl wa.heap.size 0 rfl SL _ (rangeOf HSY8.out) Tryz.underlying72 rfl HIS.out ?_)
    | go_step)
   refine CB.mono ?_
   rintro e x19 ⟨rfl, hb19⟩
   dsimp only
   have HB19 := Lib.hid hb19
   have HRX : Hid (BoxB x19 w.heap.size R) := Lib.hid ((hb19.block _ (Array.getElem?_eq_some_iff.1 HRY.out).1).trans HRY.out)
   have HSU19 : Hid (x19.heap[wa.heap.size]? = some (.cells SL.toArray 72 (0, 0))) := Lib.hid ((hb19.block _ (Array.getElem?_eq_some_iff.1 HSY8.out).1).trans HSY8.out)
   have hrb : (bV R).toArray.size = 256 := by rw [List.size_toArray, bV_len, HRL.out]
   have hst := run_storeNew (P := Tryz.prog) x19 78 Tryz.zeroCells78 (bV R).toArray (by rw [hrb]; kernel_rfl) (fun u hu => bV_one R u (by simpa using hu))
   have hb20 : Below x19.heap.size x19 (x19.alloc (.cells (bV R).toArray 78)) := balloc (Below.refl _ _) _
   have HR20 : Hid ((x19.alloc (.cells (bV R).toArray 78)).rangeAt x19.heap.size 0 (bV R)) := Lib.hid (rangeOf (heap_alloc_new x19 _))
   have HQ20 : Hid ((x19.alloc (.cells (bV R).toArray 78)).rangeAt w.heap.size 0 (bV R)) := Lib.hid (rangeSt (rangeOf HRX.out) (Array.getElem?_eq_some_iff.1 HRX.out).1 hb20)
   have HS20 : Hid ((x19.alloc (.cells (bV R).toArray 78)).heap[wa.heap.size]? = some (.cells SL.toArray 72 (0, 0))) := Lib.hid ((hb20.block _ (Array.getElem?_eq_some_iff.1 HSU19.out).1).trans HSU19.out)
   have HB20 := Lib.hid hb20
   have HIB : Hid ((Tryz.prog.info? 78).map (·.size) = some (bV R).length) := Lib.hid (by rw [bV_len, HRL.out]; exact infoBlk)
   have hne : ∀ W, (binOp .neq 78 (.agg (bV R).toArray) (.agg (bV R).toArray)).run Tryz.prog W = .ok (.bool false) W := fun W => by
    have h := run_neq_bytes (P := Tryz.prog) W (t := 78) (e := 5) (n := 256) Tryz.underlying78 Tryz.underlying5 rfl rfl R R HRL.out HRL.out
    unfold bA at h
    simpa using h
   rw [show bA R = .agg (bV R).toArray from rfl]
   clear CB hb19 hb20 hmf
   go_upto_region 14 with (first
    | (refine wpL_load_met (by kernel_rfl) 78 _ rfl x19.heap.size 0 rfl (bV R) _ HR20.out Tryz.underlying78 rfl HIB.out ?_)
    | (refine wpL_load_met (by kernel_rfl) 78 _ rfl w.heap.size 0 rfl (bV R) _ HQ20.out Tryz.underlying78 rfl HIB.out ?_))
   apply wp_region_lit
   repeat (first
    | (refine wpList_load_mid rfl 72 _ rfl wa.heap.size 0 rfl SL _ (rangeOf HS20.out) Tryz.underlying72 rfl HIS.out ?_)
    | (refine wpList_store_mid rfl 72 _ _ rfl wa.heap.size 0 SL.toArray rfl rfl (thereOf HS20.out (Nat.le_refl _)) (by rw [hss]; exact infoSup) (Array.all_eq_true_iff_forall_mem.2 (fun v hv => HS1.out v (by simpa using hv))) ?_)
    | go_step)
   refine bodyPost_ret (v := .tuple #[.agg SL.toArray, .int .i64 0]) (res_sup rfl _ _ wa.heap.size SL _ rfl rfl (World.rangeAt_setCells_same _ _ _ _ (thereOf HS20.out (by rw [List.size_toArray]; exact Nat.le_refl _))) HIS.out) rfl ⟨by rw [HSV.out], ?_⟩
   have hq1 : w.heap.size ≤ wa.heap.size ∧ w.heap.size ≤ wb.heap.size := HQG.out
   have hbf : Below w.heap.size w y18 := HBC.out.trans (HMY8.out.below (fun k hk => by
    rcases List.mem_cons.1 hk with rfl | hk
    ·exact hq1.1
    ·rw [List.mem_singleton.1 hk]; exact hq1.2) HBC.out.size)
   exact belowSets hq1.1 _ _ _ (bthn hbf (bthn HB19.out HB20.out))
end Go.Proofs.YtgmahhdnjikdjaaGreat
