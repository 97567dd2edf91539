/- Several texts in one: Net2 Net8 Net9 Net14. -/
import Derived.Deep.RegionHeld3
import Derived.Test.YtgkelbdgdhkeoaaGreatPNA
import Derived.Test.YtgkelbdgdhkeoaaGreatPMsg34
import Derived.Test.YtgkelbdgdhkeoaaGreatPMsg5
import Derived.Test.YtgkelbdgdhkeoaaGreatPMsg21
namespace Go.Proofs.YtgkelbdgdhkeoaaGreat
open Go.RowKit
set_option linter.unusedVariables false
set_option linter.unusedSimpArgs false
open Wire Cmd
theorem msNewN (W : World) {D : List Value} (hl : D.length = 290) (h1 : ∀ u ∈ D, u.oneCell' = true) : (storeCells ⟨W.heap.size, 0, none⟩ D).run Tryz.prog (W.alloc (.cells Tryz.zeroCells80 80)) = .ok () (W.alloc (.cells D.toArray 80)) :=
 run_storeNew (P := Tryz.prog) W 80 Tryz.zeroCells80 D.toArray (by rw [zM_eq, List.size_toArray, List.size_toArray, hl]; exact zM_len) (by simpa using h1)
/-- May a message be put? -/
def putOk (L : List Lt) (t : Int) (b : List UInt8) : Bool := decide (t = 0 ∨ t = 1) && decide (L.length < 100000) && (ofM b).isSome
/-- What Put leaves. -/
def PutP (n0 : Nat) (w : World) (B : Nat) (sv : Value) (L : List Lt) (t : Int) (b : List UInt8) (e : Ending) (w' : World) : Prop :=
 (putOk L t b = false ∧ e = .returned (.int .i64 (-1)) ∧ Below w.heap.size w w') ∨
 (putOk L t b = true ∧ e = .returned (.int .i64 (L.length : Int)) ∧ ∃ sv' v', NetAt n0 w' B sv' (L ++ [⟨t, 0, v', b⟩]) ∧ Chg (nF B sv) w w' (nF B sv') ∧ ∀ k ∈ ob v', w.heap.size ≤ k)
theorem step_appN {P : Program} {ops : Array Oper} {o : Oper} {a : Act} {w : World} {K : Act → World → Prop} {Q : Exit → Act → World → Prop} {F : Prop}
  (hg : o.guard = none) (s x : Operand) (t : TypeId) (hop : o.op = Op.call { callee := Callee.builtin Builtin.append, args := #[s, x], argTypes := #[t, t] })
  (base : Nat) (E : TypeId) (z : Value) (size bytes : Nat) (ht : P.underlying t = some (.slice E)) (hinfo : (P.info? E).map (fun i => (i.zero, i.size, i.bytes)) = some (some z, size, bytes))
  (hzs : z.cells.size = size) (hsz : 0 < size) (hby : 0 < bytes)
  {v : Value} {n : Nat} {xs : List Value} (hown : w.ownsRow base E size v n xs) (hs : a.eval s = v)
  {b c m : Nat} {news : List Value} (hx : a.eval x = .slice (some ⟨b, 0, none⟩) m c) (hl : news.length = m * size) (hc : ∀ j u, news[j]? = some u → w.cell? ⟨b, j, none⟩ = some u) (h1 : ∀ u ∈ news, u.oneCell' = true)
  (hbytes : (n + m) * bytes ≤ 140737488355328) (hbase : base ≤ w.heap.size)
  (hK : ∀ v' w', w'.ownsRow base E size v' (n + m) (xs ++ news) → Below base w w' → w.grownBy w' v.ownBlock → SameOrNew w v v' → (v' = .slice none 0 0 ↔ v = .slice none 0 0 ∧ m = 0) → K (a.put o.dst v') w') :
  if Region.wanted o (yielded ops a.tmps) = true then Oper.wp P o a w K Q else F := by
 have hw : Region.wanted o (yielded ops a.tmps) = true := by simp [Region.wanted, hg]
 rw [if_pos hw]
 obtain ⟨i0, hi, hz0, hz1, hz2⟩ := info_parts hinfo
 have hn1 : n + m ≤ maxLen := by
  have : n + m ≤ (n + m) * bytes := Nat.le_mul_of_pos_right _ hby
  unfold maxLen; omega
 refine wp_app _ s x t hop base E i0 z size bytes ht hi hz0 hz1 hz2 hzs hsz v n xs hs hown ⟨b, 0, none⟩ m c news hx hl (fun j u hj => by rw [Addr.add_lit, Nat.zero_add]; exact hc j u hj) h1 hn1 hbytes hbase ?_
 intro v' w' h2 h3 h4 h5
 exact hK v' w' h2 ((Below.refl base w).grown h3 hbase (fun k hk => (hown.lt k hk).1)) h3 h4 h5
/-- A letter put behind the others. -/
theorem NetAt.more {n0 : Nat} {w2 x1 : World} {B : Nat} {sv sv' v2 : Value} {L : List Lt} {t : Int} {b : List UInt8} {o : Obj} {base : Nat} (h : NetAt n0 w2 B sv L) (hg : (w2.alloc o).grownBy x1 sv.ownBlock)
  (ho : x1.ownsRow n0 61 3 sv' (L.length + 1) (ltC L ++ [.int .i64 t, .int .i64 0, v2])) (hv : w2.ownsRow base 5 1 v2 b.length (bV b)) (hn : n0 ≤ base) :
  NetAt n0 (x1.setCell ⟨B, 0, none⟩ sv') B sv' (L ++ [⟨t, 0, v2, b⟩]) := by
 have hrow : ∀ (k : Nat) (cs : Array Value) (e : TypeId) (f : Nat × Nat), w2.heap[k]? = some (.cells cs e f) → e ≠ 61 → x1.heap[k]? = some (.cells cs e f) := fun k cs e f hk he =>
  (hg.block k (by have := (Array.getElem?_eq_some_iff.1 hk).1; simp; omega) (fun hh => by
   obtain ⟨cs', f', h'⟩ := own_tagS h.row k (by unfold ob; rw [Option.mem_toList]; exact hh.symm)
   rw [hk] at h'
   cases h'
   exact he rfl)).trans ((Below.heap_alloc w2 o k (Array.getElem?_eq_some_iff.1 hk).1).trans hk)
 have hB := hrow B _ _ _ h.box (by decide)
 have hby : ∀ {u : Value} {c : List UInt8} {bb : Nat}, w2.ownsRow bb 5 1 u c.length (bV c) → (x1.setCell ⟨B, 0, none⟩ sv').ownsRow bb 5 1 u c.length (bV c) := fun {u c bb} hu =>
  ownsRow_at hu (fun k hk => by
   obtain ⟨cs', f', h'⟩ := own_tagS hu k hk
   rw [setOther _ _ (fun e => by
    have e' : k = B := e
    rw [e', h.box] at h'
    cases h'), hrow k _ _ _ h' (by decide), h'])
 refine ⟨setOf hB 0 sv', ?_, fun y hy => ?_, h.ge⟩
 ·rw [ltC_app, List.length_append]
  exact ownsRow_at ho (fun k hk => setOther _ _ (fun e => by
   obtain ⟨cs', f', h'⟩ := own_tagS ho k hk
   have e' : k = B := e
   rw [e', hB] at h'
   cases h'))
 ·rcases List.mem_append.1 hy with h1 | h1
  ·exact hby (h.byt y h1)
  ·obtain rfl : y = ⟨t, 0, v2, b⟩ := by simpa using h1
   exact hby (ownsRow_base hv hn)
theorem NetAt.boxg {n0 : Nat} {w2 x1 : World} {B : Nat} {sv : Value} {L : List Lt} {o : Obj} (h : NetAt n0 w2 B sv L) (hg : (w2.alloc o).grownBy x1 sv.ownBlock) : x1.heap[B]? = some (.cells #[sv, .bool true] 50 (0, 0)) :=
 (hg.block B (by have := h.lt; simp; omega) (fun hh => by
  obtain ⟨cs', f', h'⟩ := own_tagS h.row B (by unfold ob; rw [Option.mem_toList]; exact hh.symm)
  rw [h.box] at h'
  cases h')).trans ((Below.heap_alloc w2 o B h.lt).trans h.box)
theorem NetAt.box0 {n0 : Nat} {w2 x1 : World} {B : Nat} {sv : Value} {L : List Lt} {o : Obj} (h : NetAt n0 w2 B sv L) (hg : (w2.alloc o).grownBy x1 sv.ownBlock) : x1.cell? ⟨B, 0, none⟩ = some sv := cellOf (h.boxg hg) 0 rfl
theorem NetAt.boxf {n0 : Nat} {w2 x1 : World} {B : Nat} {sv : Value} {L : List Lt} {o : Obj} (h : NetAt n0 w2 B sv L) (hg : (w2.alloc o).grownBy x1 sv.ownBlock) : x1.frozen? ⟨B, 0, none⟩ = false := frozenOf (h.boxg hg) 0
theorem put_chg {w w2 x1 : World} {B : Nat} {sv sv' : Value} {o : Obj} (hb : Below w.heap.size w w2) (hg : (w2.alloc o).grownBy x1 sv.ownBlock) (hs : SameOrNew (w2.alloc o) sv sv') :
  Chg (nF B sv) w (x1.setCell ⟨B, 0, none⟩ sv') (nF B sv') := by
 have h1 := Chg.of_grown hg hs
 refine (Chg.of_below (balloc hb o)).trans ⟨(h1.1.mono (fun k hk => List.mem_cons_of_mem _ hk)).setCell (p := ⟨B, 0, none⟩) (List.mem_cons_self ..) _, fun k hk => ?_⟩
 rcases List.mem_cons.1 hk with rfl | hk
 ·exact .inl (List.mem_cons_self ..)
 ·rcases h1.2 k hk with h2 | h2
  ·exact .inl (List.mem_cons_of_mem _ h2)
  ·exact .inr h2
theorem infoLt : (Tryz.prog.info? 61).map (fun i => (i.zero, i.size, i.bytes)) = some (some (.agg #[.int .i64 0, .int .i64 0, .slice none 0 0]), 3, 40) := by kernel_rfl
theorem ofM_cases0 (bs : List UInt8) : (eA (ofM bs) = 4 ∧ (ofM bs).isSome = false) ∨ (eA (ofM bs) = 0 ∧ (ofM bs).isSome = true) := by
 cases ofM bs with
 | none => exact .inl ⟨rfl, rfl⟩
 | some m => exact .inr ⟨rfl, rfl⟩
theorem oM_data0 (bs : List UInt8) : (oM (ofM bs)).item.data.length = 256 := by
 cases h : ofM bs with
 | none => exact z256_len
 | some m => exact (ofM_ok h).1.item.data
set_option maxRecDepth 100000 in
set_option maxHeartbeats 1600000 in
theorem put_at (n0 : Nat) (w : World) (B : Nat) (sv : Value) (L : List Lt) (t : Int) (b : List UInt8) (u : Value) (hn0 : n0 ≤ w.heap.size) (h : NetAt n0 w B sv L) (hu : Rd w 1 u b.length (bV b)) (hm : b.length ≤ 1000000) :
  Calls Tryz.prog 12 #[.pointer (some ⟨B, 0, none⟩), .int .i64 t, u] w (PutP n0 w B sv L t b) := by
 have CT := there_any w _ true h.nv
 have HH := Lib.hid h
 have HU := Lib.hid hu
 have c0 := h.cell.1
 have c1 := h.cell.2
 obtain ⟨ao, cap, rfl, _, _, ⟨_, hc1, hc2⟩, _⟩ := Rd.of_own h.row
 obtain ⟨au, cu, rfl, _, _, ⟨_, hu1, hu2⟩, _⟩ := hu
 have CO := Lib.hid (ofM_own b _ w HU.out hm)
 have HMB := Lib.hid hm
 unfold maxLen at hc2
 clear h hm hu1 hu2
 by_cases ht0 : (t != 0) = true ∧ (t != 1) = true
 ·obtain ⟨g0, g1⟩ := ht0
  go_enter Tryz.func12, Tryz.ntmps12
  go_wp2_with fail
  refine CT.mono ?_
  rintro e w1 ⟨rfl, rfl⟩
  go_wp2_with fail
  go_ret
  exact .inl ⟨by simp at g0 g1; simp [putOk, g0, g1], rfl, Below.refl _ _⟩
 have HT : Hid (t = 0 ∨ t = 1) := Lib.hid (by simp at ht0; omega)
 by_cases hf : (100000 : Int) ≤ (L.length : Int)
 ·have g2 : decide ((100000 : Int) ≤ (L.length : Int)) = true := decide_eq_true hf
  have HF : Hid (putOk L t b = false) := Lib.hid (by
   have : ¬ L.length < 100000 := by omega
   simp [putOk, this])
  clear hf ht0
  rcases HT.out with rfl | rfl
  all_goals
   go_enter Tryz.func12, Tryz.ntmps12
   go_wp2_with fail
   refine CT.mono ?_
   rintro e w1 ⟨rfl, rfl⟩
   go_wp2_with fail
   go_ret
   exact .inl ⟨HF.out, rfl, Below.refl _ _⟩
 have g2 : decide ((100000 : Int) ≤ (L.length : Int)) = false := decide_eq_false hf
 have HLT : Hid (L.length < 100000) := Lib.hid (by omega)
 clear hf ht0
 have HCA := Lib.hid (ofM_cases0 b)
 have HDA := Lib.hid (oM_data0 b)
 have HPO : Hid (putOk L t b = (ofM b).isSome) := Lib.hid (by
  have h1 := HT.out
  have h2 := HLT.out
  simp [putOk, h1, h2])
 unfold PutP
 rw [HPO.out]
 unfold MOfP at CO
 generalize oM (ofM b) = mm at *
 generalize eA (ofM b) = code at *
 generalize (ofM b).isSome = y at *
 clear HPO
 rcases HT.out with rfl | rfl
 all_goals
  go_enter Tryz.func12, Tryz.ntmps12
  go_wp2_with fail
  refine CT.mono ?_
  rintro e w0 ⟨rfl, rfl⟩
  go_wp2_with fail
  refine CO.mono ?_
  rintro e w1 ⟨hb1, s1, s2, rfl, ho1, ho2⟩
  obtain ⟨D1, hD1, l1, n1⟩ : ∃ L, msL mm s1 s2 = L ∧ L.length = 290 ∧ ∀ u ∈ L, u.oneCell' = true := ⟨_, rfl, msL_len HDA.out, msL_one (own_one ho1) (own_one ho2)⟩
  rw [hD1]
  have hst1 := msNewN w1 l1 n1
  have HB1 : Hid (Below w.heap.size w (w1.alloc (.cells D1.toArray 80))) := Lib.hid (balloc hb1 _)
  clear hD1 n1 hb1 ho1 ho2 CT CO
  go_upto_region 4 with fail
  clear hst1 l1
  generalize w1.alloc (.cells D1.toArray 80) = wr at *
  rcases HCA.out with ⟨rfl, rfl⟩ | ⟨rfl, rfl⟩
  ·go_wp2_with fail
   go_ret
   exact ⟨rfl, HB1.out⟩
  have hNr := HH.out.below HB1.out
  have HR := Lib.hid hNr
  have b0 := hNr.cell.1
  have hd0 : Below wr.heap.size wr wr.drew := (Below.refl _ _).drew
  have CC := Lib.hid (bclone_any _ _ _ _ ((HU.out.below HB1.out).below hd0) (by have := HMB.out; omega))
  have f0 : wr.frozen? ⟨B, 0, none⟩ = false := frozenOf hNr.box 0
  have HBL : Hid (B < wr.heap.size) := Lib.hid hNr.lt
  have HN0 : Hid (n0 ≤ wr.heap.size) := Lib.hid (Nat.le_trans hn0 HB1.out.size)
  have hz : wr.drew.heap.size = wr.heap.size := rfl
  clear hNr c0 c1 hn0
  go_wp2_with fail
  go_region_law (first
   | (go_simp; go_at_call 32; refine CC.out.mono ?_; rintro e w2 ⟨v2, rfl, ho2, hb2⟩; rw [hz] at ho2 hb2; obtain ⟨ao2, cap2, rfl, hjunk⟩ := Rd.of_own ho2; clear hjunk; have hb3 := bthen hd0 hb2; have e0 := (HR.out.below hb3).cell.1; have HO2 := Lib.hid ho2; have HB2 := Lib.hid hb3; have HN2 := Lib.hid (HR.out.below hb3); have hbl2 := HN2.out.lt; clear ho2 hb2 hb3)
   | (refine step_appN rfl _ _ 48 rfl n0 61 _ 3 40 Tryz.underlying48 infoLt rfl (by decide) (by decide) (hown := HN2.out.row.alloc _) rfl (news := [.int .i64 _, .int .i64 0, .slice ao2 b.length cap2]) rfl rfl (by intro j u hj; exact cellOf (heap_alloc_new _ _) j (by simpa using hj)) (by simp [Value.oneCell', own_one HO2.out]) (by have := HLT.out; omega) (by have := HN0.out; have := HB2.out.size; simp; omega) ?_; intro v' x1 ho3 hb3 hg3 hs3 hne3; obtain ⟨gv, cv, rfl, hgv, hgl⟩ := ownsRow_nonil ho3 (fun e => by have := (hne3.1 e).2; omega); have HM := Lib.hid (HN2.out.more hg3 ho3 HO2.out HN0.out); have HCG := Lib.hid (put_chg (B := B) (bthen HB1.out HB2.out) hg3 hs3); have y0 : x1.cell? ⟨B, 0, none⟩ = some (.slice ao L.length cap) := HN2.out.box0 hg3; have z0 : x1.frozen? ⟨B, 0, none⟩ = false := HN2.out.boxf hg3; have HK := Lib.hid (ownsRow_ge HO2.out); clear ho3 hb3 hg3 hs3 hne3))
  all_goals
   have m0 := HM.out.cell.1
   go_wp2_with fail
   go_ret
   exact ⟨rfl, _, _, HM.out, HCG.out, fun k hk => by have := HK.out k hk; have := HB1.out.size; omega⟩
end Go.Proofs.YtgkelbdgdhkeoaaGreat
/- The reference's Pack of a message without letters, walked (the lines of Msg35's head); old; the law's num. -/
namespace Go.Proofs.YtgkelbdgdhkeoaaGreat
open Go.RowKit
set_option linter.unusedVariables false
set_option linter.unusedSimpArgs false
open Wire Cmd
structure PkN (B : Nat) (W0 : World) (v : Value) (acc : List UInt8) (W : World) : Prop where
 own : W.ownsRow B 5 1 v acc.length (bV acc)
 below : Below B W0 W
 sz : B ≤ W.heap.size
theorem PkN.mono {B : Nat} {W0 : World} {v : Value} {acc : List UInt8} {W W' : World} (h : PkN B W0 v acc W) (hb : Below W.heap.size W W') : PkN B W0 v acc W' :=
 ⟨ownsRow_below h.own hb, h.below.trans (hb.mono h.sz), Nat.le_trans h.sz hb.size⟩
theorem PkN.app {B : Nat} {W0 : World} {v v' : Value} {acc r : List UInt8} {n : Nat} {W W' : World} (h : PkN B W0 v acc W) (ho : W'.ownsRow B 5 1 v' (acc.length + n) (bV acc ++ bV r)) (hn : r.length = n) (hb : Below B W W') : PkN B W0 v' (acc ++ r) W' := by
 subst hn
 exact ⟨by rw [List.length_append, bV_app]; exact ho, h.below.trans hb, Nat.le_trans h.sz hb.size⟩
theorem low_oneN {n : Nat} (h : n < 256) : bV (low n 1) = [Value.int .u8 (n : Int)] := by
 have e : low n 1 = [UInt8.ofNat (n % 256)] := rfl
 rw [e]
 show [Value.int .u8 ((UInt8.ofNat (n % 256)).toNat : Int)] = _
 have : (UInt8.ofNat (n % 256)).toNat = n := by simp; omega
 rw [this]
set_option maxRecDepth 100000 in
set_option maxHeartbeats 12800000 in
theorem rpackN_any (m : Ms0) (ok : m.Ok) (hk1 : 0 ≤ m.k) (hk2 : m.k < 256) (hno : ∀ c : UInt8, hasM m.k c = false) (s1 s2 : Value) (w : World) :
  Calls Tryz.prog 33 #[.agg (msL m s1 s2).toArray] w fun e w' => ∃ v, e = .returned v ∧ w'.ownsRow w.heap.size 5 1 v (hdB m).length (bV (hdB m)) ∧ Below w.heap.size w w' := by
 have HOK := Lib.hid ok
 have HNO := Lib.hid hno
 obtain ⟨AL, hAL⟩ : ∃ L, msL m s1 s2 = L := ⟨_, rfl⟩
 obtain ⟨W1, hW1⟩ : ∃ W, w.alloc (.cells AL.toArray 80) = W := ⟨_, rfl⟩
 have HB1 : Hid (Below w.heap.size w W1) := Lib.hid (by rw [← hW1]; exact balloc (Below.refl _ _) _)
 have HZ1 : Hid (W1.heap.size = w.heap.size + 1) := Lib.hid (by rw [← hW1]; simp)
 have HX1 : Hid (W1.heap[w.heap.size]? = some (.cells AL.toArray 80 (0, 0))) := Lib.hid (by rw [← hW1]; exact heap_alloc_new w _)
 have HMA : Hid (∀ X : World, Below (w.heap.size + 1) W1 X → MsAt X w.heap.size m s1 s2) := Lib.hid (fun X hX => ms_at (fun j u hj => by
  rw [Nat.zero_add]
  rw [hAL] at hj
  exact cellIs ((hX.block _ (Nat.lt_succ_self _)).trans HX1.out) (by simpa using hj)))
 have HKE : Hid (toU m.k < 256 ∧ m.k = ((toU m.k : Nat) : Int)) := Lib.hid (by
  have h := toU_of (n := m.k) (by omega) (by omega)
  exact ⟨by omega, h.symm⟩)
 have hwk : IntKind.u8.wrap m.k = m.k := IntWalk.u8_in _ (by omega)
 have CH : Hid (∀ (c : UInt8) (X : World), Calls Tryz.prog 43 #[.int .i64 m.k, .int .u8 (c.toNat : Int)] X fun e w' => e = .returned (.bool (hasM m.k c)) ∧ X = w') := Lib.hid (fun c X => hasM_any m.k c X)
 rw [hAL]
 clear hAL ok
 have HSS : Hid (∀ X, Below (w.heap.size + 1) W1 X → (X.cell? ⟨w.heap.size, 0, none⟩ = some (.int .i64 m.k) ∧ X.cell? ⟨w.heap.size, 1, none⟩ = some (.int .u64 (m.epoch : Int))) ∧ Below (w.heap.size + 1) W1 X) := Lib.hid (fun X hX => ⟨⟨(HMA.out X hX).c0, (HMA.out X hX).c1⟩, hX⟩)
 have HLW := Lib.hid (fun (W : World) => rlow_any m.epoch 8 W HOK.out.epoch (by omega))
 have HLE : Hid (low (toU m.k) 1 ++ low m.epoch 8 = hdB m) := Lib.hid rfl
 have HBU : Hid (∀ X, Below (w.heap.size + 1) W1 X → PkN (w.heap.size + 1) W1 (.slice (some ⟨X.heap.size, 0, none⟩) 1 1) (low (toU m.k) 1) (X.alloc (.cells #[.int .u8 m.k] 5))) := Lib.hid (fun X hX => by
  have hs : w.heap.size + 1 ≤ X.heap.size := by have := hX.size; rw [HZ1.out] at this; exact this
  refine ⟨?_, hX.alloc hs _, by simp; omega⟩
  have h := own_new X (w.heap.size + 1) hs 5 [.int .u8 m.k] 1 rfl
  have e : bV (low (toU m.k) 1) = [.int .u8 m.k] := by rw [low_oneN HKE.out.1, ← HKE.out.2]
  rw [low_len, e]
  exact h)
 go_enter Tryz.func33, Tryz.ntmps33
 go_upto_region 1 with fail
 clear hW1
 go_cut [3] (fun v wx => ∃ (W : World) (v' : Value), W = wx ∧ v' = v ∧ PkN (w.heap.size + 1) W1 v' (hdB m) W)
 case first =>
  refine wp_region_held_drew (S := fun X => (X.cell? ⟨w.heap.size, 0, none⟩ = some (.int .i64 m.k) ∧ X.cell? ⟨w.heap.size, 1, none⟩ = some (.int .u64 (m.epoch : Int))) ∧ Below (w.heap.size + 1) W1 X) (by kernel_rfl) (HSS.out _ (Below.refl _ _).drew) (fun hHeld => ?_)
  refine wpAnyH_take (i := 0) (v := ?_) rfl (by kernel_rfl) (by kernel_rfl) (by kernel_rfl) (fun _ _ _ h => h) (Or.inl ⟨by rfl, ?_⟩) (by assumption) ?_
  rotate_left
  ·(intro w hSw; (try dsimp only at hSw); simp only [List.getElem_toArray, List.getElem_cons_zero, List.getElem_cons_succ]; go_simp; first | done | with_reducible rfl)
  simp only [List.getElem_toArray, List.getElem_cons_zero, List.getElem_cons_succ, Act.put, List.setIfInBounds_toArray, List.set_cons_zero, List.set_cons_succ]
  refine wpAnyH_take (i := 1) (v := ?_) rfl (by kernel_rfl) (by kernel_rfl) (by kernel_rfl) (fun _ _ _ h => h) (Or.inl ⟨by rfl, ?_⟩) (by assumption) ?_
  rotate_left
  ·(intro w hSw; (try dsimp only at hSw); simp only [List.getElem_toArray, List.getElem_cons_zero, List.getElem_cons_succ]; go_simp; first | done | with_reducible rfl)
  simp only [List.getElem_toArray, List.getElem_cons_zero, List.getElem_cons_succ, Act.put, List.setIfInBounds_toArray, List.set_cons_zero, List.set_cons_succ]
  refine wpAnyH_take (i := 2) (v := ?_) rfl (by kernel_rfl) (by kernel_rfl) (by kernel_rfl) (fun _ _ _ h => h) (Or.inl ⟨by rfl, ?_⟩) (by assumption) ?_
  rotate_left
  ·(intro w hSw; (try dsimp only at hSw); simp only [List.getElem_toArray, List.getElem_cons_zero, List.getElem_cons_succ]; go_simp; first | done | with_reducible rfl)
  simp only [List.getElem_toArray, List.getElem_cons_zero, List.getElem_cons_succ, Act.put, List.setIfInBounds_toArray, List.set_cons_zero, List.set_cons_succ]
  refine wpAnyH_take (i := 4) (v := ?_) rfl (by kernel_rfl) (by kernel_rfl) (by kernel_rfl) (fun _ _ _ h => h) (Or.inl ⟨by rfl, ?_⟩) (by assumption) ?_
  rotate_left
  ·(intro w hSw; (try dsimp only at hSw); simp only [List.getElem_toArray, List.getElem_cons_zero, List.getElem_cons_succ]; go_simp; first | done | with_reducible rfl)
  simp only [List.getElem_toArray, List.getElem_cons_zero, List.getElem_cons_succ, Act.put, List.setIfInBounds_toArray, List.set_cons_zero, List.set_cons_succ]
  refine wpAnyH_take (i := 5) (v := ?_) rfl (by kernel_rfl) (by kernel_rfl) (by kernel_rfl) (fun _ _ _ h => h) (Or.inl ⟨by rfl, ?_⟩) (by assumption) ?_
  rotate_left
  ·(intro w hSw; (try dsimp only at hSw); simp only [List.getElem_toArray, List.getElem_cons_zero, List.getElem_cons_succ]; go_simp; first | done | with_reducible rfl)
  simp only [List.getElem_toArray, List.getElem_cons_zero, List.getElem_cons_succ, Act.put, List.setIfInBounds_toArray, List.set_cons_zero, List.set_cons_succ]
  refine wpAnyH_ready (rs := [3, 6]) (by kernel_rfl) (by simp) ?_
  refine AllReadyH.cons rfl (fun K hK => ?_) (AllReadyH.cons rfl (fun K hK => ?_) (AllReadyH.nil))
  ·simp only [List.getElem_toArray, List.getElem_cons_zero, List.getElem_cons_succ]
   go_simp
   refine hK.out _ _ ?_ (fun hHeld => ?_)
   ·exact HSS.out _ (HBU.out _ hHeld.2).below
   clear hK K
   try simp only [Act.put, List.setIfInBounds_toArray, List.set_cons_zero, List.set_cons_succ]
   have HP1 := Lib.hid (HBU.out _ (Below.refl _ W1).drew)
   refine wpAnyH_ready (rs := [6]) (by kernel_rfl) (by simp) ?_
   refine AllReadyH.cons rfl (fun K hK => ?_) AllReadyH.nil
   simp only [List.getElem_toArray, List.getElem_cons_zero, List.getElem_cons_succ]
   go_simp
   refine (HLW.out _).mono ?_
   rintro e w3 ⟨v3, rfl, ho3, hb3⟩
   dsimp only
   refine hK.out _ _ ?_ (fun hHeld => ?_)
   ·exact HSS.out _ (HP1.out.mono hb3).below
   clear hK K
   try simp only [Act.put, List.setIfInBounds_toArray, List.set_cons_zero, List.set_cons_succ]
   have HP3 := HP1.out.mono hb3
   refine wpAnyH_ready (rs := [7]) (by kernel_rfl) (by simp) ?_
   refine AllReadyH.cons rfl (fun K hK => ?_) AllReadyH.nil
   simp only [List.getElem_toArray, List.getElem_cons_zero, List.getElem_cons_succ]
   rw [if_pos (by rfl)]
   refine wp_apps _ _ 34 rfl (w.heap.size + 1) 5 _ 1 1 Tryz.underlying34 infoByte rfl (by decide) (by decide) _ _ _ (by rfl) HP3.own _ 8 _ (by rfl) (Rd.of_own ho3) (bV_one _) (by rw [low_len]; omega) HP3.sz ?_
   intro v5 w5 ho5 hb5 hg5 hs5 hn5
   refine hK.out _ _ ?_ (fun hHeld => ?_)
   ·exact HSS.out _ (HP3.below.trans hb5)
   clear hK K
   try simp only [Act.put, List.setIfInBounds_toArray, List.set_cons_zero, List.set_cons_succ]
   refine wpAnyH_take (i := 8) (v := ?_) rfl (by kernel_rfl) (by kernel_rfl) (by kernel_rfl) (fun _ _ _ h => h) (Or.inl ⟨by rfl, ?_⟩) (by assumption) ?_
   rotate_left
   ·(intro w hSw; (try dsimp only at hSw); simp only [List.getElem_toArray, List.getElem_cons_zero, List.getElem_cons_succ]; go_simp; first | done | with_reducible rfl)
   simp only [List.getElem_toArray, List.getElem_cons_zero, List.getElem_cons_succ, Act.put, List.setIfInBounds_toArray, List.set_cons_zero, List.set_cons_succ]
   refine wpAnyH_done (by kernel_rfl) ?_ _
   have HP5 := Lib.hid (HP3.app ho5 (low_len _ _) hb5)
   rw [HLE.out] at HP5
   clear hHeld ho3 hb3 HP3 ho5 hb5 hg5 hs5 hn5
   go_wp2_with fail
   go_meet
   exact ⟨_, _, rfl, rfl, HP5.out⟩
  ·simp only [List.getElem_toArray, List.getElem_cons_zero, List.getElem_cons_succ]
   go_simp
   refine (HLW.out _).mono ?_
   rintro e w3 ⟨v3, rfl, ho3, hb3⟩
   dsimp only
   refine hK.out _ _ ?_ (fun hHeld => ?_)
   ·exact HSS.out _ (hHeld.2.trans (hb3.mono (by show w.heap.size + 1 ≤ W1.heap.size; rw [HZ1.out]; exact Nat.le_refl _)))
   clear hK K
   try simp only [Act.put, List.setIfInBounds_toArray, List.set_cons_zero, List.set_cons_succ]
   have HB3 := hHeld.2
   refine wpAnyH_ready (rs := [3]) (by kernel_rfl) (by simp) ?_
   refine AllReadyH.cons rfl (fun K hK => ?_) AllReadyH.nil
   simp only [List.getElem_toArray, List.getElem_cons_zero, List.getElem_cons_succ]
   go_simp
   refine hK.out _ _ ?_ (fun hHeld => ?_)
   ·exact HSS.out _ (HBU.out _ HB3).below
   clear hK K
   try simp only [Act.put, List.setIfInBounds_toArray, List.set_cons_zero, List.set_cons_succ]
   have HP3 := HBU.out _ HB3
   refine wpAnyH_ready (rs := [7]) (by kernel_rfl) (by simp) ?_
   refine AllReadyH.cons rfl (fun K hK => ?_) AllReadyH.nil
   simp only [List.getElem_toArray, List.getElem_cons_zero, List.getElem_cons_succ]
   rw [if_pos (by rfl)]
   refine wp_apps _ _ 34 rfl (w.heap.size + 1) 5 _ 1 1 Tryz.underlying34 infoByte rfl (by decide) (by decide) _ _ _ (by rfl) HP3.own _ 8 _ (by rfl) ((Rd.of_own ho3).below (balloc (Below.refl _ _) _)) (bV_one _) (by rw [low_len]; omega) HP3.sz ?_
   intro v5 w5 ho5 hb5 hg5 hs5 hn5
   refine hK.out _ _ ?_ (fun hHeld => ?_)
   ·exact HSS.out _ (HP3.below.trans hb5)
   clear hK K
   try simp only [Act.put, List.setIfInBounds_toArray, List.set_cons_zero, List.set_cons_succ]
   refine wpAnyH_take (i := 8) (v := ?_) rfl (by kernel_rfl) (by kernel_rfl) (by kernel_rfl) (fun _ _ _ h => h) (Or.inl ⟨by rfl, ?_⟩) (by assumption) ?_
   rotate_left
   ·(intro w hSw; (try dsimp only at hSw); simp only [List.getElem_toArray, List.getElem_cons_zero, List.getElem_cons_succ]; go_simp; first | done | with_reducible rfl)
   simp only [List.getElem_toArray, List.getElem_cons_zero, List.getElem_cons_succ, Act.put, List.setIfInBounds_toArray, List.set_cons_zero, List.set_cons_succ]
   refine wpAnyH_done (by kernel_rfl) ?_ _
   have HP5 := Lib.hid (HP3.app ho5 (low_len _ _) hb5)
   rw [HLE.out] at HP5
   clear hHeld ho3 hb3 HP3 ho5 hb5 hg5 hs5 hn5 HB3
   go_wp2_with fail
   go_meet
   exact ⟨_, _, rfl, rfl, HP5.out⟩
 case rest =>
 obtain ⟨W2, v2, rfl, rfl, hp2⟩ := hcut
 have HP := Lib.hid hp2
 clear hp2 hwk HLW HBU
 obtain ⟨A0, hA0⟩ : ∃ A, hdB m = A := ⟨_, rfl⟩
 have HN : Hid (A0.length ≤ 9) := Lib.hid (by rw [← hA0]; show (low (toU m.k) 1 ++ low m.epoch 8).length ≤ 9; rw [List.length_append, low_len, low_len]; exact Nat.le_refl _)
 have HA0 := Lib.hid hA0
 rw [hA0] at HP
 clear hA0 HLE HSS
 obtain ⟨SL, hSL, hsl, hso⟩ : ∃ L, stL m.st = L ∧ L.length = 6 ∧ L.toArray.all (·.oneCell') = true := ⟨_, rfl, rfl, by simp [stL, Value.oneCell']⟩
 have HSL := Lib.hid hSL
 have hst : (storeCells ⟨W2.heap.size, 0, none⟩ SL).run Tryz.prog ((W2.alloc (.cells #[.int .u64 0, .int .u64 0, .int .u64 0, .int .u64 0, .int .u64 0, .bool false] 67)).drew) = .ok () ((W2.alloc (.cells SL.toArray 67)).drew) :=
  run_storeNew (P := Tryz.prog) W2.drew 67 #[.int .u64 0, .int .u64 0, .int .u64 0, .int .u64 0, .int .u64 0, .bool false] SL.toArray (by simp [hsl]) (by
   have h := Array.all_eq_true_iff_forall_mem.1 hso
   intro u hu
   exact h u (by simpa using hu))
 have hm2 := HMA.out W2.drew HP.out.below.drew
 have k2 : W2.drew.cell? ⟨w.heap.size, 0, none⟩ = some (.int .i64 m.k) := hm2.c0
 have hr2 : W2.drew.rangeAt w.heap.size 2 SL := by rw [← HSL.out]; exact hm2.r2
 have hiS : (Tryz.prog.info? 67).map (·.size) = some SL.length := by rw [hsl]; exact infoSt
 have HS2 : Hid (∀ X, Below (w.heap.size + 1) W1 X → X.rangeAt w.heap.size 2 SL ∧ X.cell? ⟨w.heap.size, 0, none⟩ = some (.int .i64 m.k)) := Lib.hid (fun X hX => ⟨by rw [← HSL.out]; exact (HMA.out X hX).r2, (HMA.out X hX).c0⟩)
 have HIS := Lib.hid hiS
 clear hm2 hSL hso hiS
 go_upto_region 2 with fail
 refine wp_region_held_drew (S := fun X => X.rangeAt w.heap.size 2 SL ∧ X.cell? ⟨w.heap.size, 0, none⟩ = some (.int .i64 m.k)) (by kernel_rfl) ⟨hr2, k2⟩ (fun hHeld => ?_)
 clear hr2 k2
 refine wpAnyH_take (i := 0) (v := ?_) rfl (by kernel_rfl) (by kernel_rfl) (by kernel_rfl) (fun _ _ _ h => h) (Or.inl ⟨by rfl, ?_⟩) (by assumption) ?_
 rotate_left
 ·(intro w hSw; (try dsimp only at hSw); simp only [List.getElem_toArray, List.getElem_cons_zero, List.getElem_cons_succ]; go_simp; first | done | with_reducible rfl)
 simp only [List.getElem_toArray, List.getElem_cons_zero, List.getElem_cons_succ, Act.put, List.setIfInBounds_toArray, List.set_cons_zero, List.set_cons_succ]
 refine wpAnyH_take (i := 1) (v := _) rfl (by kernel_rfl) (by kernel_rfl) (by kernel_rfl) (fun _ _ _ h => h) (yieldsIf_load_mid (by rfl) 67 _ rfl (w.heap.size) (2) rfl (SL) _ (fun w hw => hw.1) (Tryz.underlying67) rfl (HIS.out)) (by assumption) ?_
 simp only [List.getElem_toArray, List.getElem_cons_zero, List.getElem_cons_succ, Act.put, List.setIfInBounds_toArray, List.set_cons_zero, List.set_cons_succ]
 refine wpAnyH_take (i := 2) (v := ?_) rfl (by kernel_rfl) (by kernel_rfl) (by kernel_rfl) (fun _ _ _ h => h) (Or.inl ⟨by rfl, ?_⟩) (by assumption) ?_
 rotate_left
 ·(intro w hSw; (try dsimp only at hSw); simp only [List.getElem_toArray, List.getElem_cons_zero, List.getElem_cons_succ]; go_simp; first | done | with_reducible rfl)
 simp only [List.getElem_toArray, List.getElem_cons_zero, List.getElem_cons_succ, Act.put, List.setIfInBounds_toArray, List.set_cons_zero, List.set_cons_succ]
 refine wpAnyH_take (i := 3) (v := ?_) rfl (by kernel_rfl) (by kernel_rfl) (by kernel_rfl) (fun _ _ _ h => h) (Or.inl ⟨by rfl, ?_⟩) (by assumption) ?_
 rotate_left
 ·(intro w hSw; (try dsimp only at hSw); simp only [List.getElem_toArray, List.getElem_cons_zero, List.getElem_cons_succ]; go_simp; first | done | with_reducible rfl)
 simp only [List.getElem_toArray, List.getElem_cons_zero, List.getElem_cons_succ, Act.put, List.setIfInBounds_toArray, List.set_cons_zero, List.set_cons_succ]
 have HP3 : Hid (PkN (w.heap.size + 1) W1 v2 A0 ((W2.alloc (.cells SL.toArray 67)).drew)) := Lib.hid (HP.out.mono (balloc (Below.refl _ W2) _).drew)
 refine wpAnyH_ready (rs := [4]) (by kernel_rfl) (by simp) ?_
 refine AllReadyH.cons rfl (fun K hK => ?_) AllReadyH.nil
 simp only [List.getElem_toArray, List.getElem_cons_zero, List.getElem_cons_succ]
 go_simp
 refine hK.out _ _ ?_ (fun hHeld => ?_)
 ·exact HS2.out _ (HP.out.mono (balloc (Below.refl _ W2) _).drew).below
 clear hK K
 try simp only [Act.put, List.setIfInBounds_toArray, List.set_cons_zero, List.set_cons_succ]
 refine wpAnyH_ready (rs := [5]) (by kernel_rfl) (by simp) ?_
 refine AllReadyH.cons rfl (fun K hK => ?_) AllReadyH.nil
 simp only [List.getElem_toArray, List.getElem_cons_zero, List.getElem_cons_succ]
 go_simp
 refine hK.out _ _ ?_ (fun hHeld => ?_)
 ·exact HS2.out _ HP3.out.below
 clear hK K
 try simp only [Act.put, List.setIfInBounds_toArray, List.set_cons_zero, List.set_cons_succ]
 refine wpAnyH_take (i := 6) (v := ?_) rfl (by kernel_rfl) (by kernel_rfl) (by kernel_rfl) (fun _ _ _ h => h) (Or.inl ⟨by rfl, ?_⟩) (by assumption) ?_
 rotate_left
 ·(intro w hSw; (try dsimp only at hSw); simp only [List.getElem_toArray, List.getElem_cons_zero, List.getElem_cons_succ]; go_simp; first | done | with_reducible rfl)
 simp only [List.getElem_toArray, List.getElem_cons_zero, List.getElem_cons_succ, Act.put, List.setIfInBounds_toArray, List.set_cons_zero, List.set_cons_succ]
 refine wpAnyH_done (by kernel_rfl) ?_ _
 clear hHeld hst hsl
 have HQB : Hid (((W2.alloc (.cells SL.toArray 67)).drew).heap[W2.heap.size]? = some (.cells SL.toArray 67 (0, 0))) := Lib.hid (heap_alloc_new W2.drew _)
 obtain ⟨Q, hQ⟩ : ∃ Q, W2.heap.size = Q := ⟨_, rfl⟩
 have HQZ : Hid (Q < ((W2.alloc (.cells SL.toArray 67)).drew).heap.size ∧ w.heap.size + 1 ≤ Q) := Lib.hid ⟨by rw [← hQ]; simp, by rw [← hQ]; exact HP.out.sz⟩
 rw [hQ] at HQB ⊢
 clear hQ HP HS2 HIS
 generalize (W2.alloc (.cells SL.toArray 67)).drew = W3 at *
 have HP := HP3
 clear HP3
 have CHF : Hid (∀ (c : UInt8) (X : World), Calls Tryz.prog 43 #[.int .i64 m.k, .int .u8 (c.toNat : Int)] X fun e w' => e = .returned (.bool false) ∧ X = w') := Lib.hid (fun c X => by
  have h := CH.out c X
  rw [HNO.out c] at h
  exact h)
 have C116 : Hid (∀ X : World, Calls Tryz.prog 43 #[.int .i64 m.k, .int .u8 116] X fun e w' => e = .returned (.bool false) ∧ X = w') := Lib.hid (fun X => CHF.out 116 X)
 have C108 : Hid (∀ X : World, Calls Tryz.prog 43 #[.int .i64 m.k, .int .u8 108] X fun e w' => e = .returned (.bool false) ∧ X = w') := Lib.hid (fun X => CHF.out 108 X)
 have C110 : Hid (∀ X : World, Calls Tryz.prog 43 #[.int .i64 m.k, .int .u8 110] X fun e w' => e = .returned (.bool false) ∧ X = w') := Lib.hid (fun X => CHF.out 110 X)
 have C115 : Hid (∀ X : World, Calls Tryz.prog 43 #[.int .i64 m.k, .int .u8 115] X fun e w' => e = .returned (.bool false) ∧ X = w') := Lib.hid (fun X => CHF.out 115 X)
 have C102 : Hid (∀ X : World, Calls Tryz.prog 43 #[.int .i64 m.k, .int .u8 102] X fun e w' => e = .returned (.bool false) ∧ X = w') := Lib.hid (fun X => CHF.out 102 X)
 have C109 : Hid (∀ X : World, Calls Tryz.prog 43 #[.int .i64 m.k, .int .u8 109] X fun e w' => e = .returned (.bool false) ∧ X = w') := Lib.hid (fun X => CHF.out 109 X)
 have C111 : Hid (∀ X : World, Calls Tryz.prog 43 #[.int .i64 m.k, .int .u8 111] X fun e w' => e = .returned (.bool false) ∧ X = w') := Lib.hid (fun X => CHF.out 111 X)
 have C98 : Hid (∀ X : World, Calls Tryz.prog 43 #[.int .i64 m.k, .int .u8 98] X fun e w' => e = .returned (.bool false) ∧ X = w') := Lib.hid (fun X => CHF.out 98 X)
 have C105 : Hid (∀ X : World, Calls Tryz.prog 43 #[.int .i64 m.k, .int .u8 105] X fun e w' => e = .returned (.bool false) ∧ X = w') := Lib.hid (fun X => CHF.out 105 X)
 clear CHF CH HMA HX1 HSL HQB HQZ HZ1
 clear hno hk1 hk2 hHeld HNO HN HKE
 go_upto_if 19 with (go_at_call 43; refine (C116.out _).mono ?_; rintro e wx ⟨rfl, rfl⟩)
 go_upto_if 39 with (go_at_call 43; refine (C108.out _).mono ?_; rintro e wx ⟨rfl, rfl⟩)
 go_upto_if 46 with (go_at_call 43; refine (C110.out _).mono ?_; rintro e wx ⟨rfl, rfl⟩)
 go_upto_if 53 with (go_at_call 43; refine (C115.out _).mono ?_; rintro e wx ⟨rfl, rfl⟩)
 go_upto_if 60 with (go_at_call 43; refine (C102.out _).mono ?_; rintro e wx ⟨rfl, rfl⟩)
 go_upto_if 68 with (go_at_call 43; refine (C109.out _).mono ?_; rintro e wx ⟨rfl, rfl⟩)
 go_upto_if 80 with (go_at_call 43; refine (C111.out _).mono ?_; rintro e wx ⟨rfl, rfl⟩)
 go_upto_if 88 with (go_at_call 43; refine (C98.out _).mono ?_; rintro e wx ⟨rfl, rfl⟩)
 go_upto_if 96 with (go_at_call 43; refine (C105.out _).mono ?_; rintro e wx ⟨rfl, rfl⟩)
 go_wp2_with fail
 go_ret
 rw [HA0.out]
 exact ⟨_, rfl, ownsRow_base HP.out.own (Nat.le_succ _), HB1.out.trans (HP.out.below.mono (Nat.le_succ _))⟩
/-- The bytes of a message that says no more than its epoch. -/
def oldB (e : Nat) : List UInt8 := hdB (msK 14 e)
theorem oldB_len (e : Nat) : (oldB e).length = 9 := by
 unfold oldB hdB
 rw [List.length_append, low_len, low_len]
theorem arrOld (e : Nat) : (msL (msK 14 e) (.slice none 0 0) (.slice none 0 0)).toArray = (Tryz.zeroCells80.setIfInBounds 0 (.int .i64 14)).setIfInBounds 1 (.int .u64 (e : Int)) := by kernel_rfl
theorem okOld (e : Nat) (he : e < 18446744073709551616) : (msK 14 e).Ok := (msK_ok (k := 14) (by decide) he 0).1
theorem noOld (e : Nat) (c : UInt8) : hasM (msK 14 e).k c = false := by
 have h : nmM 14 = [] := by kernel_rfl
 show (nmM 14).contains c = false
 rw [h]; rfl
theorem of_old1 : (ofM (oldB 1)).isSome = true := by kernel_rfl
theorem of_old2 : (ofM (oldB 2)).isSome = true := by kernel_rfl
set_option maxRecDepth 100000 in
set_option maxHeartbeats 3200000 in
theorem old_any (e : Nat) (he : e < 18446744073709551616) (w : World) : Calls Tryz.prog 13 #[.int .u64 (e : Int)] w fun r w' => ∃ v, r = .returned v ∧ w'.ownsRow w.heap.size 5 1 v (oldB e).length (bV (oldB e)) ∧ Below w.heap.size w w' := by
 have CP : Hid (Calls Tryz.prog 33 #[.agg ((Tryz.zeroCells80.setIfInBounds 0 (.int .i64 14)).setIfInBounds 1 (.int .u64 (e : Int)))] w fun r w' => ∃ v, r = .returned v ∧ w'.ownsRow w.heap.size 5 1 v (oldB e).length (bV (oldB e)) ∧ Below w.heap.size w w') := Lib.hid (by
  have h := rpackN_any (msK 14 e) (okOld e he) (show (0 : Int) ≤ 14 by decide) (show (14 : Int) < 256 by decide) (noOld e) (.slice none 0 0) (.slice none 0 0) w
  rw [arrOld] at h
  exact h)
 clear he
 go_enter Tryz.func13, Tryz.ntmps13
 go_wp2_with fail
 refine CP.out.mono ?_
 rintro r w1 ⟨v, rfl, ho, hb⟩
 have HO := Lib.hid (And.intro ho hb)
 clear ho hb
 go_wp2_with fail
 go_ret
 exact ⟨v, rfl, HO.out.1, HO.out.2⟩
set_option maxRecDepth 100000 in
set_option maxHeartbeats 800000 in
theorem num20_any (k : Int) (w : World) : Calls Tryz.prog 16 #[.int .i64 k] w fun e w' => e = .returned (.int .i64 k) ∧ w = w' := by
 go_enter Tryz.func16, Tryz.ntmps16
 go_wp2_with fail
 go_ret
 exact ⟨rfl, rfl⟩
end Go.Proofs.YtgkelbdgdhkeoaaGreat
/- The law's known of layer 20, walked. -/
namespace Go.Proofs.YtgkelbdgdhkeoaaGreat
open Go.RowKit
set_option linter.unusedVariables false
set_option linter.unusedSimpArgs false
open Wire Cmd
theorem run_textN (w : World) (v : Value) (n : Nat) (bs : List UInt8) (h : Rd w 1 v n (bV bs)) : ((convert 34 9 v).run Tryz.prog w).andThen (fun a w' => Result.ok (Next.value a) w') = .ok (.value (.string (strB bs))) w := by
 rw [run_text w v n bs h]; rfl
theorem chg_below {B : Nat} {sv sv' : Value} {w0 w w' : World} (hb : Below w0.heap.size w0 w) (h : Chg (nF B sv) w w' (nF B sv')) (hB : w0.heap.size ≤ B) (hs : ∀ k ∈ ob sv, w0.heap.size ≤ k) : Below w0.heap.size w0 w' :=
 hb.trans (h.below (fun k hk => by
  rcases List.mem_cons.1 hk with rfl | hk
  ·exact hB
  ·exact hs k hk) hb.size)
theorem put_yes {n0 : Nat} {w w' : World} {B : Nat} {sv : Value} {L : List Lt} {t : Int} {b : List UInt8} {e : Ending} (h : PutP n0 w B sv L t b e w') (hy : putOk L t b = true) :
  e = .returned (.int .i64 (L.length : Int)) ∧ ∃ sv' v', NetAt n0 w' B sv' (L ++ [⟨t, 0, v', b⟩]) ∧ Chg (nF B sv) w w' (nF B sv') ∧ ∀ k ∈ ob v', w.heap.size ≤ k := by
 rcases h with ⟨h, _⟩ | ⟨_, h⟩
 ·rw [hy] at h; cases h
 ·exact h
set_option maxRecDepth 100000 in
set_option maxHeartbeats 3200000 in
theorem known20_any (w : World) : Calls Tryz.prog 5 #[] w fun e w' => e = .returned (.bool true) ∧ Below w.heap.size w w' := by
 have HO1 := Lib.hid (fun (W : World) => old_any 1 (by decide) W)
 have HO2 := Lib.hid (fun (W : World) => old_any 2 (by decide) W)
 have CN := new_any w.heap.size w (Nat.le_refl _)
 go_enter Tryz.func5, Tryz.ntmps5
 go_wp2_with fail
 refine CN.mono ?_
 rintro e w1 ⟨rfl, hn1, hb1⟩
 have HN1 := Lib.hid hn1
 have HB1 := Lib.hid hb1
 clear hn1 hb1 CN
 go_wp2_with fail
 refine (HO1.out _).mono ?_
 rintro e w2 ⟨v2, rfl, ho2, hb2⟩
 have HN2 := Lib.hid (HN1.out.below hb2)
 have HB2 := Lib.hid (bthen HB1.out hb2)
 have CP1 := put_at w.heap.size w2 w.heap.size (.slice none 0 0) [] 0 (oldB 1) v2 HB2.out.size HN2.out (Rd.of_own ho2) (by rw [oldB_len]; omega)
 clear ho2 hb2
 go_wp2_with fail
 refine CP1.mono ?_
 intro e w3 hP
 obtain ⟨rfl, sv3, v3, hn3, hc3, _⟩ := put_yes hP (by simp [putOk, of_old1])
 have HN3 := Lib.hid hn3
 have HB3 := Lib.hid (chg_below HB2.out hc3 (Nat.le_refl _) (by simp [ob_nil]))
 clear hP hn3 hc3 CP1
 go_wp2_with fail
 refine (HO2.out _).mono ?_
 rintro e w4 ⟨v4, rfl, ho4, hb4⟩
 have HN4 := Lib.hid (HN3.out.below hb4)
 have HB4 := Lib.hid (bthen HB3.out hb4)
 have CP2 := put_at w.heap.size w4 w.heap.size sv3 [⟨0, 0, v3, oldB 1⟩] 1 (oldB 2) v4 HB4.out.size HN4.out (Rd.of_own ho4) (by rw [oldB_len]; omega)
 clear ho4 hb4
 go_wp2_with fail
 refine CP2.mono ?_
 intro e w5 hP
 obtain ⟨rfl, sv5, v5, hn5, hc5, _⟩ := put_yes hP (by simp [putOk, of_old2])
 have HN5 := Lib.hid hn5
 have HB5 := Lib.hid (chg_below HB4.out hc5 (Nat.le_refl _) (fun k hk => ownsRow_ge HN4.out.row k hk))
 clear hP hn5 hc5 CP2
 have CC : Calls Tryz.prog 14 #[.pointer (some ⟨w.heap.size, 0, none⟩), .int .i64 0] w5 (CarryP w.heap.size w5 w.heap.size sv5 [⟨0, 0, v3, oldB 1⟩, ⟨1, 0, v5, oldB 2⟩] 0 ⟨0, 0, v3, oldB 1⟩) :=
  carry_in w.heap.size w5 w.heap.size sv5 [⟨0, 0, v3, oldB 1⟩, ⟨1, 0, v5, oldB 2⟩] 0 ⟨0, 0, v3, oldB 1⟩ HN5.out rfl (by rw [oldB_len]; omega) (show (0 : Nat) < 1000000 by decide)
 go_wp2_with fail
 refine CC.mono ?_
 rintro e w6 ⟨v6, rfl, ho6, hn6, hc6⟩
 have HN6 := Lib.hid hn6
 have HO6 := Lib.hid ho6
 have HB6 := Lib.hid (chg_below HB5.out hc6 (Nat.le_refl _) (fun k hk => ownsRow_ge HN5.out.row k hk))
 have CX := next_at _ _ _ _ _ hn6
 clear hn6 ho6 hc6 CC
 go_wp2_with fail
 refine CX.mono ?_
 rintro e w7 ⟨hb7, hP⟩
 have he : e = .returned (.tuple #[.int .i64 1, .bool true]) := by
  rcases hP with ⟨i, x, hi, hx, hall, rfl⟩ | ⟨hall, _⟩
  ·match i, hi, hall with
   | 0, hi, _ => obtain rfl := Option.some.inj hi; cases hx
   | 1, hi, _ => rfl
   | i + 2, hi, _ => simp at hi
  ·exact absurd rfl (hall 1 _ rfl)
 subst he
 have HB7 := Lib.hid (bthen HB6.out hb7)
 have HRD : Hid (∀ X, Below w7.heap.size w7 X → Rd X 1 v6 (oldB 1).length (bV (oldB 1))) := Lib.hid (fun X hX => ((Rd.of_own HO6.out).below hb7).below hX)
 clear hP hb7 CX
 go_upto_region 6 with fail
 refine wp_region_held_drew (S := fun X => Below w7.heap.size w7 X) (by kernel_rfl) (Below.refl _ _).drew (fun hHeld => ?_)
 refine wpAnyH_take (i := 0) (v := ?_) rfl (by kernel_rfl) (by kernel_rfl) (by kernel_rfl) (fun _ _ _ h => h) (Or.inl ⟨by rfl, ?_⟩) (by assumption) ?_
 rotate_left
 ·(intro w hSw; (try dsimp only at hSw); simp only [List.getElem_toArray, List.getElem_cons_zero, List.getElem_cons_succ]; go_simp; first | done | with_reducible rfl)
 simp only [List.getElem_toArray, List.getElem_cons_zero, List.getElem_cons_succ, Act.put, List.setIfInBounds_toArray, List.set_cons_zero, List.set_cons_succ]
 refine wpAnyH_take (i := 1) (v := ?_) rfl (by kernel_rfl) (by kernel_rfl) (by kernel_rfl) (fun _ _ _ h => h) (Or.inl ⟨by rfl, ?_⟩) (by assumption) ?_
 rotate_left
 ·(intro w hSw; (try dsimp only at hSw); simp only [List.getElem_toArray, List.getElem_cons_zero, List.getElem_cons_succ]; go_simp; first | done | with_reducible rfl)
 simp only [List.getElem_toArray, List.getElem_cons_zero, List.getElem_cons_succ, Act.put, List.setIfInBounds_toArray, List.set_cons_zero, List.set_cons_succ]
 refine wpAnyH_take (i := 2) (v := ?_) rfl (by kernel_rfl) (by kernel_rfl) (by kernel_rfl) (fun _ _ _ h => h) (Or.inl ⟨by rfl, ?_⟩) (by assumption) ?_
 rotate_left
 ·(intro w hSw; (try dsimp only at hSw); simp only [List.getElem_toArray, List.getElem_cons_zero, List.getElem_cons_succ]; go_simp; first | done | with_reducible rfl)
 simp only [List.getElem_toArray, List.getElem_cons_zero, List.getElem_cons_succ, Act.put, List.setIfInBounds_toArray, List.set_cons_zero, List.set_cons_succ]
 refine wpAnyH_take (i := 3) (v := ?_) rfl (by kernel_rfl) (by kernel_rfl) (by kernel_rfl) (fun _ _ _ h => h) (Or.inl ⟨by rfl, ?_⟩) (by assumption) ?_
 rotate_left
 ·(intro w hSw; (try dsimp only at hSw); simp only [List.getElem_toArray, List.getElem_cons_zero, List.getElem_cons_succ]; go_simp; first | done | with_reducible rfl)
 simp only [List.getElem_toArray, List.getElem_cons_zero, List.getElem_cons_succ, Act.put, List.setIfInBounds_toArray, List.set_cons_zero, List.set_cons_succ]
 refine wpAnyH_take (i := 4) (v := .string (strB (oldB 1))) rfl (by kernel_rfl) (by kernel_rfl) (by kernel_rfl) (fun _ _ _ h => h) (Or.inl ⟨by rfl, ?_⟩) (by assumption) ?_
 ·(intro w hSw; simp only [List.getElem_toArray, List.getElem_cons_zero, List.getElem_cons_succ]; (go_simp; exact run_textN w _ _ _ (HRD.out _ hSw)))
 simp only [List.getElem_toArray, List.getElem_cons_zero, List.getElem_cons_succ, Act.put, List.setIfInBounds_toArray, List.set_cons_zero, List.set_cons_succ]
 refine wpAnyH_ready (rs := [5]) (by kernel_rfl) (by simp) ?_
 refine AllReadyH.cons rfl (fun K hK => ?_) AllReadyH.nil
 simp only [List.getElem_toArray, List.getElem_cons_zero, List.getElem_cons_succ]
 go_simp
 refine (HO1.out _).mono ?_
 rintro e x1 ⟨u1, rfl, hx1, hy1⟩
 dsimp only
 refine hK.out _ _ ?_ (fun hHeld => ?_)
 ·exact bthen hHeld hy1
 clear hK K
 try simp only [Act.put, List.setIfInBounds_toArray, List.set_cons_zero, List.set_cons_succ]
 have htx := run_text x1 _ _ (oldB 1) (Rd.of_own hx1)
 clear hx1 hy1
 refine wpAnyH_ready (rs := [6]) (by kernel_rfl) (by simp) ?_
 refine AllReadyH.cons rfl (fun K hK => ?_) AllReadyH.nil
 simp only [List.getElem_toArray, List.getElem_cons_zero, List.getElem_cons_succ]
 go_simp
 refine hK.out _ _ ?_ (fun hHeld => ?_)
 ·exact hHeld
 clear hK K
 try simp only [Act.put, List.setIfInBounds_toArray, List.set_cons_zero, List.set_cons_succ]
 clear htx
 refine wpAnyH_take (i := 7) (v := .bool true) rfl (by kernel_rfl) (by kernel_rfl) (by kernel_rfl) (fun _ _ _ h => h) (Or.inl ⟨by rfl, ?_⟩) (by assumption) ?_
 ·(intro w hSw; simp only [List.getElem_toArray, List.getElem_cons_zero, List.getElem_cons_succ]; (go_simp; first | done | simp))
 simp only [List.getElem_toArray, List.getElem_cons_zero, List.getElem_cons_succ, Act.put, List.setIfInBounds_toArray, List.set_cons_zero, List.set_cons_succ]
 refine wpAnyH_take (i := 8) (v := ?_) rfl (by kernel_rfl) (by kernel_rfl) (by kernel_rfl) (fun _ _ _ h => h) (Or.inl ⟨by rfl, ?_⟩) (by assumption) ?_
 rotate_left
 ·(intro w hSw; (try dsimp only at hSw); simp only [List.getElem_toArray, List.getElem_cons_zero, List.getElem_cons_succ]; go_simp; first | done | with_reducible rfl)
 simp only [List.getElem_toArray, List.getElem_cons_zero, List.getElem_cons_succ, Act.put, List.setIfInBounds_toArray, List.set_cons_zero, List.set_cons_succ]
 refine wpAnyH_take (i := 9) (v := ?_) rfl (by kernel_rfl) (by kernel_rfl) (by kernel_rfl) (fun _ _ _ h => h) (Or.inl ⟨by rfl, ?_⟩) (by assumption) ?_
 rotate_left
 ·(intro w hSw; (try dsimp only at hSw); simp only [List.getElem_toArray, List.getElem_cons_zero, List.getElem_cons_succ]; go_simp; first | done | with_reducible rfl)
 simp only [List.getElem_toArray, List.getElem_cons_zero, List.getElem_cons_succ, Act.put, List.setIfInBounds_toArray, List.set_cons_zero, List.set_cons_succ]
 refine wpAnyH_take (i := 10) (v := ?_) rfl (by kernel_rfl) (by kernel_rfl) (by kernel_rfl) (fun _ _ _ h => h) (Or.inl ⟨by rfl, ?_⟩) (by assumption) ?_
 rotate_left
 ·(intro w hSw; (try dsimp only at hSw); simp only [List.getElem_toArray, List.getElem_cons_zero, List.getElem_cons_succ]; go_simp; first | done | with_reducible rfl)
 simp only [List.getElem_toArray, List.getElem_cons_zero, List.getElem_cons_succ, Act.put, List.setIfInBounds_toArray, List.set_cons_zero, List.set_cons_succ]
 refine wpAnyH_ready (rs := [11]) (by kernel_rfl) (by simp) ?_
 refine AllReadyH.cons rfl (fun K hK => ?_) AllReadyH.nil
 simp only [List.getElem_toArray, List.getElem_cons_zero, List.getElem_cons_succ]
 go_simp
 refine (num20_any 0 _).mono ?_
 rintro e y1 ⟨rfl, rfl⟩
 dsimp only
 refine hK.out _ _ ?_ (fun hHeld => ?_)
 ·exact hHeld
 clear hK K
 try simp only [Act.put, List.setIfInBounds_toArray, List.set_cons_zero, List.set_cons_succ]
 refine wpAnyH_take (i := 12) (v := ?_) rfl (by kernel_rfl) (by kernel_rfl) (by kernel_rfl) (fun _ _ _ h => h) (Or.inl ⟨by rfl, ?_⟩) (by assumption) ?_
 rotate_left
 ·(intro w hSw; (try dsimp only at hSw); simp only [List.getElem_toArray, List.getElem_cons_zero, List.getElem_cons_succ]; go_simp; first | done | with_reducible rfl)
 simp only [List.getElem_toArray, List.getElem_cons_zero, List.getElem_cons_succ, Act.put, List.setIfInBounds_toArray, List.set_cons_zero, List.set_cons_succ]
 refine wpAnyH_take (i := 13) (v := ?_) rfl (by kernel_rfl) (by kernel_rfl) (by kernel_rfl) (fun _ _ _ h => h) (Or.inl ⟨by rfl, ?_⟩) (by assumption) ?_
 rotate_left
 ·(intro w hSw; (try dsimp only at hSw); simp only [List.getElem_toArray, List.getElem_cons_zero, List.getElem_cons_succ]; go_simp; first | done | with_reducible rfl)
 simp only [List.getElem_toArray, List.getElem_cons_zero, List.getElem_cons_succ, Act.put, List.setIfInBounds_toArray, List.set_cons_zero, List.set_cons_succ]
 refine wpAnyH_take (i := 14) (v := ?_) rfl (by kernel_rfl) (by kernel_rfl) (by kernel_rfl) (fun _ _ _ h => h) (Or.inl ⟨by rfl, ?_⟩) (by assumption) ?_
 rotate_left
 ·(intro w hSw; (try dsimp only at hSw); simp only [List.getElem_toArray, List.getElem_cons_zero, List.getElem_cons_succ]; go_simp; first | done | with_reducible rfl)
 simp only [List.getElem_toArray, List.getElem_cons_zero, List.getElem_cons_succ, Act.put, List.setIfInBounds_toArray, List.set_cons_zero, List.set_cons_succ]
 refine wpAnyH_take (i := 15) (v := ?_) rfl (by kernel_rfl) (by kernel_rfl) (by kernel_rfl) (fun _ _ _ h => h) (Or.inl ⟨by rfl, ?_⟩) (by assumption) ?_
 rotate_left
 ·(intro w hSw; (try dsimp only at hSw); simp only [List.getElem_toArray, List.getElem_cons_zero, List.getElem_cons_succ]; go_simp; first | done | with_reducible rfl)
 simp only [List.getElem_toArray, List.getElem_cons_zero, List.getElem_cons_succ, Act.put, List.setIfInBounds_toArray, List.set_cons_zero, List.set_cons_succ]
 refine wpAnyH_take (i := 16) (v := ?_) rfl (by kernel_rfl) (by kernel_rfl) (by kernel_rfl) (fun _ _ _ h => h) (Or.inl ⟨by rfl, ?_⟩) (by assumption) ?_
 rotate_left
 ·(intro w hSw; (try dsimp only at hSw); simp only [List.getElem_toArray, List.getElem_cons_zero, List.getElem_cons_succ]; go_simp; first | done | with_reducible rfl)
 simp only [List.getElem_toArray, List.getElem_cons_zero, List.getElem_cons_succ, Act.put, List.setIfInBounds_toArray, List.set_cons_zero, List.set_cons_succ]
 refine wpAnyH_take (i := 17) (v := ?_) rfl (by kernel_rfl) (by kernel_rfl) (by kernel_rfl) (fun _ _ _ h => h) (Or.inl ⟨by rfl, ?_⟩) (by assumption) ?_
 rotate_left
 ·(intro w hSw; (try dsimp only at hSw); simp only [List.getElem_toArray, List.getElem_cons_zero, List.getElem_cons_succ]; go_simp; first | done | with_reducible rfl)
 simp only [List.getElem_toArray, List.getElem_cons_zero, List.getElem_cons_succ, Act.put, List.setIfInBounds_toArray, List.set_cons_zero, List.set_cons_succ]
 refine wpAnyH_take (i := 18) (v := ?_) rfl (by kernel_rfl) (by kernel_rfl) (by kernel_rfl) (fun _ _ _ h => h) (Or.inl ⟨by rfl, ?_⟩) (by assumption) ?_
 rotate_left
 ·(intro w hSw; (try dsimp only at hSw); simp only [List.getElem_toArray, List.getElem_cons_zero, List.getElem_cons_succ]; go_simp; first | done | with_reducible rfl)
 simp only [List.getElem_toArray, List.getElem_cons_zero, List.getElem_cons_succ, Act.put, List.setIfInBounds_toArray, List.set_cons_zero, List.set_cons_succ]
 refine wpAnyH_take (i := 19) (v := ?_) rfl (by kernel_rfl) (by kernel_rfl) (by kernel_rfl) (fun _ _ _ h => h) (Or.inl ⟨by rfl, ?_⟩) (by assumption) ?_
 rotate_left
 ·(intro w hSw; (try dsimp only at hSw); simp only [List.getElem_toArray, List.getElem_cons_zero, List.getElem_cons_succ]; go_simp; first | done | with_reducible rfl)
 simp only [List.getElem_toArray, List.getElem_cons_zero, List.getElem_cons_succ, Act.put, List.setIfInBounds_toArray, List.set_cons_zero, List.set_cons_succ]
 refine wpAnyH_take (i := 20) (v := ?_) rfl (by kernel_rfl) (by kernel_rfl) (by kernel_rfl) (fun _ _ _ h => h) (Or.inl ⟨by rfl, ?_⟩) (by assumption) ?_
 rotate_left
 ·(intro w hSw; (try dsimp only at hSw); simp only [List.getElem_toArray, List.getElem_cons_zero, List.getElem_cons_succ]; go_simp; first | done | with_reducible rfl)
 simp only [List.getElem_toArray, List.getElem_cons_zero, List.getElem_cons_succ, Act.put, List.setIfInBounds_toArray, List.set_cons_zero, List.set_cons_succ]
 refine wpAnyH_take (i := 21) (v := ?_) rfl (by kernel_rfl) (by kernel_rfl) (by kernel_rfl) (fun _ _ _ h => h) (Or.inl ⟨by rfl, ?_⟩) (by assumption) ?_
 rotate_left
 ·(intro w hSw; (try dsimp only at hSw); simp only [List.getElem_toArray, List.getElem_cons_zero, List.getElem_cons_succ]; go_simp; first | done | with_reducible rfl)
 simp only [List.getElem_toArray, List.getElem_cons_zero, List.getElem_cons_succ, Act.put, List.setIfInBounds_toArray, List.set_cons_zero, List.set_cons_succ]
 refine wpAnyH_done (by kernel_rfl) ?_ _
 have HX := Lib.hid (bthen HB7.out hHeld)
 clear hHeld
 go_wp2_with fail
 go_ret
 exact ⟨rfl, HX.out⟩
end Go.Proofs.YtgkelbdgdhkeoaaGreat
/- Nets: Copy, walked. -/
namespace Go.Proofs.YtgkelbdgdhkeoaaGreat
open Go.RowKit
set_option linter.unusedVariables false
set_option linter.unusedSimpArgs false
set_option maxRecDepth 100000 in
set_option maxHeartbeats 1600000 in
theorem lclone_any (v : Value) (L : List Lt) (w : World) (h : Rd w 3 v L.length (ltC L)) (h1 : ∀ u ∈ ltC L, u.oneCell' = true) (hn : L.length ≤ 1000000) :
  Calls Tryz.prog 25 #[v] w fun e w' => ∃ v', e = .returned v' ∧ w'.ownsRow w.heap.size 61 3 v' L.length (ltC L) ∧ Below w.heap.size w w' := by
 have hrd := h
 obtain ⟨ao, cap, rfl, hl, hm, hcap, hc⟩ := h
 have HOne := Lib.hid h1
 cases ao with
 | none =>
  obtain rfl := hcap.1 rfl
  have hb : L = [] := by
   cases L with
   | nil => rfl
   | cons y ys => obtain ⟨b, off, h0, _⟩ := hc 0 _ rfl; cases h0
  subst hb
  clear hl hm hcap hc hrd h1 hn
  have he := fun w a n c => Lib.run_eql_slice_nil (P := Tryz.prog) w 48 61 a n c 0 0 Tryz.underlying48
  go_enter Tryz.func25, Tryz.ntmps25
  go_wp2
  go_ret
  exact ⟨_, rfl, World.ownsRow_nil _ _ _ _, Below.refl _ _⟩
 | some ad =>
  clear hl hm hcap hc h1
  obtain ⟨n, hnn⟩ : ∃ n, L.length = n := ⟨_, rfl⟩
  rw [hnn] at hrd hn ⊢
  clear hnn
  have he := fun w a n c => Lib.run_eql_slice_nil (P := Tryz.prog) w 48 61 a n c 0 0 Tryz.underlying48
  have ho0 : (w.alloc (.cells #[] 61)).ownsRow w.heap.size 61 3 (.slice (some ⟨w.heap.size, 0, none⟩) 0 0) 0 [] := World.ownsRow_made w #[] 0 (Nat.le_refl _) (by decide) rfl
  have hrd2 := hrd.below (balloc (Below.refl _ w) (.cells #[] 61))
  go_enter Tryz.func25, Tryz.ntmps25
  go_wp2_with (at_builtin; go_must (refine wpList_apps rfl _ _ 48 rfl w.heap.size 61 _ 3 40 Tryz.underlying48 infoLt rfl (by decide) (by decide) _ 0 [] rfl ho0 _ n (ltC L) rfl hrd2 HOne.out (by omega) (by simp) ?_); intro v' w1 ho1 hb1 _ _ _)
  go_ret
  exact ⟨_, rfl, by simpa using ho1, (balloc (Below.refl _ w) _).trans hb1⟩
/-- What Copy leaves. -/
def CopyP (n0 : Nat) (w : World) (L : List Lt) (e : Ending) (w' : World) : Prop :=
 ∃ B' sv', e = .returned (.pointer (some ⟨B', 0, none⟩)) ∧ NetAt n0 w' B' sv' L ∧ Below w.heap.size w w' ∧ w.heap.size ≤ B' ∧ ∀ k ∈ ob sv', w.heap.size ≤ k
set_option maxRecDepth 100000 in
set_option maxHeartbeats 1600000 in
theorem copy_at (n0 : Nat) (w : World) (B : Nat) (sv : Value) (L : List Lt) (hn0 : n0 ≤ w.heap.size) (h : NetAt n0 w B sv L) (hL : L.length ≤ 1000000) : Calls Tryz.prog 8 #[.pointer (some ⟨B, 0, none⟩)] w (CopyP n0 w L) := by
 have CT := there_any w _ true h.nv
 have HH := Lib.hid h
 have c0 := h.cell.1
 obtain ⟨ao, cap, rfl, q1, q2, ⟨q3, hc1, hc2⟩, q4⟩ := Rd.of_own h.row
 obtain ⟨n, hn⟩ : ∃ n, L.length = n := ⟨_, rfl⟩
 have HN := Lib.hid hn
 have HL := Lib.hid hL
 have HAO : Hid (ao = none ∨ ∃ g, ao = some ⟨g, 0, none⟩) := Lib.hid (by
  rcases h.row.2 with ⟨he, _⟩ | ⟨g, cap', cur, he, _⟩
  ·exact .inl (Value.slice.inj he).1
  ·exact .inr ⟨g, (Value.slice.inj he).1⟩)
 rw [hn] at c0 hc1
 unfold maxLen at hc2
 clear h hn hL q1 q2 q3 q4
 go_enter Tryz.func8, Tryz.ntmps8
 go_wp2_with fail
 refine CT.mono ?_
 rintro e w1 ⟨rfl, rfl⟩
 clear CT
 go_upto_region 3 with fail
 have hsl : ∀ W, (Instr.slice 48 (.slice ao n cap) none (some (.int .i64 (n : Int))) (some (.int .i64 (n : Int)))).run Tryz.prog W = .ok (.slice ao n n) W := fun W => by
  have hsz : (sizeOf (Tryz.prog.elem 48)).run Tryz.prog W = .ok 3 W := by kernel_rfl
  have hu : Tryz.prog.underlying 48 = some (.slice (Tryz.prog.elem 48)) := by kernel_rfl
  rw [run_slice_hm W _ _ _ _ hu .i64 .i64 (n : Int) (n : Int) (by omega) (by omega) (by omega), hsz]
  show Result.ok (sliced ao 0 ((n : Int).toNat) ((n : Int).toNat) 3) W = _
  rw [Int.toNat_natCast]
  unfold sliced
  rcases HAO.out with rfl | ⟨g, rfl⟩
  ·simp
  ·simp [Addr.add]
 have CC : Hid (∀ W, Below w.heap.size w W → Calls Tryz.prog 25 #[.slice ao n n] W fun e w' => ∃ v', e = .returned v' ∧ w'.ownsRow W.heap.size 61 3 v' n (ltC L) ∧ Below W.heap.size W w') := Lib.hid (fun W hW => by
  have h := HH.out.below hW
  have hr : Rd W 3 (.slice ao n n) n (ltC L) := by
   obtain ⟨ao', cap', e, r1, r2, ⟨r3, r4, r5⟩, r6⟩ := Rd.of_own h.row
   obtain ⟨rfl, _, rfl⟩ := Value.slice.inj e
   rw [HN.out] at r1 r2 r4
   exact ⟨ao, n, rfl, r1, r2, ⟨fun hh => by have := r3 hh; omega, Nat.le_refl _, r2⟩, r6⟩
  have := lclone_any (.slice ao n n) L W (by rw [HN.out]; exact hr) (ltC_one L (fun x hx => own_one (h.byt x hx))) HL.out
  rw [HN.out] at this
  exact this)
 have HBB : Hid (B < w.heap.size) := Lib.hid HH.out.lt
 refine wp_region_held_drew (S := fun X => X.cell? ⟨B, 0, none⟩ = some (.slice ao n cap) ∧ Below w.heap.size w X) (by kernel_rfl) ⟨show w.drew.cell? _ = _ from c0, (Below.refl _ _).drew⟩ (fun hHeld => ?_)
 refine wpAnyH_take (i := 0) (v := ?_) rfl (by kernel_rfl) (by kernel_rfl) (by kernel_rfl) (fun _ _ _ h => h) (Or.inl ⟨by rfl, ?_⟩) (by assumption) ?_
 rotate_left
 ·(intro w hSw; (try dsimp only at hSw); simp only [List.getElem_toArray, List.getElem_cons_zero, List.getElem_cons_succ]; go_simp; first | done | with_reducible rfl)
 simp only [List.getElem_toArray, List.getElem_cons_zero, List.getElem_cons_succ, Act.put, List.setIfInBounds_toArray, List.set_cons_zero, List.set_cons_succ]
 refine wpAnyH_take (i := 1) (v := ?_) rfl (by kernel_rfl) (by kernel_rfl) (by kernel_rfl) (fun _ _ _ h => h) (Or.inl ⟨by rfl, ?_⟩) (by assumption) ?_
 rotate_left
 ·(intro w hSw; (try dsimp only at hSw); simp only [List.getElem_toArray, List.getElem_cons_zero, List.getElem_cons_succ]; go_simp; first | done | with_reducible rfl)
 simp only [List.getElem_toArray, List.getElem_cons_zero, List.getElem_cons_succ, Act.put, List.setIfInBounds_toArray, List.set_cons_zero, List.set_cons_succ]
 refine wpAnyH_take (i := 2) (v := ?_) rfl (by kernel_rfl) (by kernel_rfl) (by kernel_rfl) (fun _ _ _ h => h) (Or.inl ⟨by rfl, ?_⟩) (by assumption) ?_
 rotate_left
 ·(intro w hSw; (try dsimp only at hSw); simp only [List.getElem_toArray, List.getElem_cons_zero, List.getElem_cons_succ]; go_simp; first | done | with_reducible rfl)
 simp only [List.getElem_toArray, List.getElem_cons_zero, List.getElem_cons_succ, Act.put, List.setIfInBounds_toArray, List.set_cons_zero, List.set_cons_succ]
 refine wpAnyH_take (i := 3) (v := ?_) rfl (by kernel_rfl) (by kernel_rfl) (by kernel_rfl) (fun _ _ _ h => h) (Or.inl ⟨by rfl, ?_⟩) (by assumption) ?_
 rotate_left
 ·(intro w hSw; (try dsimp only at hSw); simp only [List.getElem_toArray, List.getElem_cons_zero, List.getElem_cons_succ]; go_simp; first | done | with_reducible rfl)
 simp only [List.getElem_toArray, List.getElem_cons_zero, List.getElem_cons_succ, Act.put, List.setIfInBounds_toArray, List.set_cons_zero, List.set_cons_succ]
 refine wpAnyH_take (i := 4) (v := ?_) rfl (by kernel_rfl) (by kernel_rfl) (by kernel_rfl) (fun _ _ _ h => h) (Or.inl ⟨by rfl, ?_⟩) (by assumption) ?_
 rotate_left
 ·(intro w hSw; (try dsimp only at hSw); simp only [List.getElem_toArray, List.getElem_cons_zero, List.getElem_cons_succ]; go_simp; first | done | with_reducible rfl)
 simp only [List.getElem_toArray, List.getElem_cons_zero, List.getElem_cons_succ, Act.put, List.setIfInBounds_toArray, List.set_cons_zero, List.set_cons_succ]
 refine wpAnyH_take (i := 5) (v := ?_) rfl (by kernel_rfl) (by kernel_rfl) (by kernel_rfl) (fun _ _ _ h => h) (Or.inl ⟨by rfl, ?_⟩) (by assumption) ?_
 rotate_left
 ·(intro w hSw; (try dsimp only at hSw); simp only [List.getElem_toArray, List.getElem_cons_zero, List.getElem_cons_succ]; go_simp; first | done | with_reducible rfl)
 simp only [List.getElem_toArray, List.getElem_cons_zero, List.getElem_cons_succ, Act.put, List.setIfInBounds_toArray, List.set_cons_zero, List.set_cons_succ]
 refine wpAnyH_take (i := 6) (v := ?_) rfl (by kernel_rfl) (by kernel_rfl) (by kernel_rfl) (fun _ _ _ h => h) (Or.inl ⟨by rfl, ?_⟩) (by assumption) ?_
 rotate_left
 ·(intro w hSw; (try dsimp only at hSw); simp only [List.getElem_toArray, List.getElem_cons_zero, List.getElem_cons_succ]; go_simp; first | done | with_reducible rfl)
 simp only [List.getElem_toArray, List.getElem_cons_zero, List.getElem_cons_succ, Act.put, List.setIfInBounds_toArray, List.set_cons_zero, List.set_cons_succ]
 refine wpAnyH_take (i := 7) (v := ?_) rfl (by kernel_rfl) (by kernel_rfl) (by kernel_rfl) (fun _ _ _ h => h) (Or.inl ⟨by rfl, ?_⟩) (by assumption) ?_
 rotate_left
 ·(intro w hSw; (try dsimp only at hSw); simp only [List.getElem_toArray, List.getElem_cons_zero, List.getElem_cons_succ]; go_simp; first | done | with_reducible rfl)
 simp only [List.getElem_toArray, List.getElem_cons_zero, List.getElem_cons_succ, Act.put, List.setIfInBounds_toArray, List.set_cons_zero, List.set_cons_succ]
 refine wpAnyH_take (i := 8) (v := ?_) rfl (by kernel_rfl) (by kernel_rfl) (by kernel_rfl) (fun _ _ _ h => h) (Or.inl ⟨by rfl, ?_⟩) (by assumption) ?_
 rotate_left
 ·(intro w hSw; (try dsimp only at hSw); simp only [List.getElem_toArray, List.getElem_cons_zero, List.getElem_cons_succ]; go_simp; first | done | with_reducible rfl)
 simp only [List.getElem_toArray, List.getElem_cons_zero, List.getElem_cons_succ, Act.put, List.setIfInBounds_toArray, List.set_cons_zero, List.set_cons_succ]
 refine wpAnyH_take (i := 9) (v := ?_) rfl (by kernel_rfl) (by kernel_rfl) (by kernel_rfl) (fun _ _ _ h => h) (Or.inl ⟨by rfl, ?_⟩) (by assumption) ?_
 rotate_left
 ·(intro w hSw; (try dsimp only at hSw); simp only [List.getElem_toArray, List.getElem_cons_zero, List.getElem_cons_succ]; go_simp; first | done | with_reducible rfl)
 simp only [List.getElem_toArray, List.getElem_cons_zero, List.getElem_cons_succ, Act.put, List.setIfInBounds_toArray, List.set_cons_zero, List.set_cons_succ]
 refine wpAnyH_take (i := 10) (v := ?_) rfl (by kernel_rfl) (by kernel_rfl) (by kernel_rfl) (fun _ _ _ h => h) (Or.inl ⟨by rfl, ?_⟩) (by assumption) ?_
 rotate_left
 ·(intro w hSw; (try dsimp only at hSw); simp only [List.getElem_toArray, List.getElem_cons_zero, List.getElem_cons_succ]; go_simp; first | done | with_reducible rfl)
 simp only [List.getElem_toArray, List.getElem_cons_zero, List.getElem_cons_succ, Act.put, List.setIfInBounds_toArray, List.set_cons_zero, List.set_cons_succ]
 refine wpAnyH_take (i := 11) (v := ?_) rfl (by kernel_rfl) (by kernel_rfl) (by kernel_rfl) (fun _ _ _ h => h) (Or.inl ⟨by rfl, ?_⟩) (by assumption) ?_
 rotate_left
 ·(intro w hSw; (try dsimp only at hSw); simp only [List.getElem_toArray, List.getElem_cons_zero, List.getElem_cons_succ]; go_simp; first | done | with_reducible rfl)
 simp only [List.getElem_toArray, List.getElem_cons_zero, List.getElem_cons_succ, Act.put, List.setIfInBounds_toArray, List.set_cons_zero, List.set_cons_succ]
 refine wpAnyH_take (i := 12) (v := ?_) rfl (by kernel_rfl) (by kernel_rfl) (by kernel_rfl) (fun _ _ _ h => h) (Or.inl ⟨by rfl, ?_⟩) (by assumption) ?_
 rotate_left
 ·(intro w hSw; (try dsimp only at hSw); simp only [List.getElem_toArray, List.getElem_cons_zero, List.getElem_cons_succ]; go_simp; first | done | with_reducible rfl)
 simp only [List.getElem_toArray, List.getElem_cons_zero, List.getElem_cons_succ, Act.put, List.setIfInBounds_toArray, List.set_cons_zero, List.set_cons_succ]
 refine wpAnyH_take (i := 13) (v := ?_) rfl (by kernel_rfl) (by kernel_rfl) (by kernel_rfl) (fun _ _ _ h => h) (Or.inl ⟨by rfl, ?_⟩) (by assumption) ?_
 rotate_left
 ·(intro w hSw; (try dsimp only at hSw); simp only [List.getElem_toArray, List.getElem_cons_zero, List.getElem_cons_succ]; go_simp; first | done | with_reducible rfl)
 simp only [List.getElem_toArray, List.getElem_cons_zero, List.getElem_cons_succ, Act.put, List.setIfInBounds_toArray, List.set_cons_zero, List.set_cons_succ]
 refine wpAnyH_take (i := 14) (v := .slice ao n n) rfl (by kernel_rfl) (by kernel_rfl) (by kernel_rfl) (fun _ _ _ h => h) (Or.inl ⟨by rfl, ?_⟩) (by assumption) ?_
 ·(intro w hSw; simp only [List.getElem_toArray, List.getElem_cons_zero, List.getElem_cons_succ]; go_simp)
 simp only [List.getElem_toArray, List.getElem_cons_zero, List.getElem_cons_succ, Act.put, List.setIfInBounds_toArray, List.set_cons_zero, List.set_cons_succ]
 have hd := hHeld.2
 refine wpAnyH_ready (rs := [15]) (by kernel_rfl) (by simp) ?_
 refine AllReadyH.cons rfl (fun K hK => ?_) AllReadyH.nil
 simp only [List.getElem_toArray, List.getElem_cons_zero, List.getElem_cons_succ]
 go_simp
 refine (CC.out _ hHeld.2).mono ?_
 rintro e w2 ⟨v2, rfl, ho2, hb2⟩
 dsimp only
 refine hK.out _ _ ?_ (fun hHeld => ?_)
 ·exact ⟨(World.cell?_of_block ((bthen hd hb2).block B HBB.out)).trans c0, bthen hd hb2⟩
 clear hK K
 try simp only [Act.put, List.setIfInBounds_toArray, List.set_cons_zero, List.set_cons_succ]
 have HO2 := Lib.hid ho2
 have HB2 := Lib.hid hHeld.2
 obtain ⟨ao2, cap2, rfl, hjunk⟩ := Rd.of_own ho2
 clear ho2 hb2 hjunk
 refine wpAnyH_take (i := 16) (v := ?_) rfl (by kernel_rfl) (by kernel_rfl) (by kernel_rfl) (fun _ _ _ h => h) (Or.inl ⟨by rfl, ?_⟩) (by assumption) ?_
 rotate_left
 ·(intro w hSw; (try dsimp only at hSw); simp only [List.getElem_toArray, List.getElem_cons_zero, List.getElem_cons_succ]; go_simp; first | done | with_reducible rfl)
 simp only [List.getElem_toArray, List.getElem_cons_zero, List.getElem_cons_succ, Act.put, List.setIfInBounds_toArray, List.set_cons_zero, List.set_cons_succ]
 refine wpAnyH_ready (rs := [17]) (by kernel_rfl) (by simp) ?_
 refine AllReadyH.cons rfl (fun K hK => ?_) AllReadyH.nil
 simp only [List.getElem_toArray, List.getElem_cons_zero, List.getElem_cons_succ]
 go_simp
 refine hK.out _ _ ?_ (fun hHeld => ?_)
 ·exact ⟨(World.cell?_of_block ((balloc HB2.out _).block B HBB.out)).trans c0, balloc HB2.out _⟩
 clear hK K
 try simp only [Act.put, List.setIfInBounds_toArray, List.set_cons_zero, List.set_cons_succ]
 refine wpAnyH_take (i := 18) (v := ?_) rfl (by kernel_rfl) (by kernel_rfl) (by kernel_rfl) (fun _ _ _ h => h) (Or.inl ⟨by rfl, ?_⟩) (by assumption) ?_
 rotate_left
 ·(intro w hSw; (try dsimp only at hSw); simp only [List.getElem_toArray, List.getElem_cons_zero, List.getElem_cons_succ]; go_simp; first | done | with_reducible rfl)
 simp only [List.getElem_toArray, List.getElem_cons_zero, List.getElem_cons_succ, Act.put, List.setIfInBounds_toArray, List.set_cons_zero, List.set_cons_succ]
 refine wpAnyH_done (by kernel_rfl) ?_ _
 have HBF := Lib.hid hHeld.2
 go_wp2_with fail
 go_ret
 have hox : ∀ (x : Lt), x ∈ L → ∀ W, Below w.heap.size w W → W.ownsRow n0 5 1 x.v x.b.length (bV x.b) := fun x hx W hW => ownsRow_below (HH.out.byt x hx) hW
 refine ⟨w2.heap.size, _, rfl, ⟨heap_alloc_new w2 _, ?_, fun x hx => hox x hx _ HBF.out, Nat.le_trans hn0 HB2.out.size⟩, HBF.out, HB2.out.size, fun k hk => Nat.le_trans hd.size (ownsRow_ge HO2.out k hk)⟩
 rw [HN.out]
 exact (ownsRow_base HO2.out (Nat.le_trans hn0 hd.size)).alloc _
end Go.Proofs.YtgkelbdgdhkeoaaGreat
