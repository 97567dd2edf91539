/- message.with of any letter; what message.Of needs. -/
import Derived.Test.YtgkelbdgdhkeoaaGreatPMsg32
import Derived.Test.YtgkelbdgdhkeoaaGreatPMsg24
namespace Go.Proofs.YtgkelbdgdhkeoaaGreat
open Go.RowKit
set_option linter.unusedVariables false
set_option linter.unusedSimpArgs false
open Wire Cmd
theorem with_any (b : Ms0) (c : UInt8) (hc : nine c) {bs : List UInt8} {l : List V} {n : Nat} (hu : unpack (shapeC (c.toNat : Int) ((bs.headD 0).toNat : Int)) bs = some (l, n)) (hbl : bs.length ≤ 1000000) (hgd : (getM b (c.toNat : Int) l).item.data.length = 256) (s1 s2 v : Value) (w : World) (R B : Nat) (hB : B ≤ w.heap.size)
  (h1 : w.ownsRow B 5 1 s1 b.op.data.length (bV b.op.data)) (h2 : w.ownsRow B 5 1 s2 b.item.op.data.length (bV b.item.op.data)) (hd : b.item.data.length = 256) (hr : RowV R w v l) :
  Calls Tryz.prog 40 #[.agg (msL b s1 s2).toArray, .int .i32 (c.toNat : Int), v] w (WithP B w (getM b (c.toNat : Int) l)) := by
 have hbb := unpack_bl hu
 rcases hc with rfl | rfl | rfl | rfl | rfl | rfl | rfl | rfl | rfl
 ·obtain ⟨v1, k1, l1, m1, e1, hu1, rfl, _⟩ := unpack_cons (c := 56) (s := [56, 56, 56, 56, 63]) hu
  obtain ⟨v2, k2, l2, m2, e2, hu2, rfl, _⟩ := unpack_cons hu1
  obtain ⟨v3, k3, l3, m3, e3, hu3, rfl, _⟩ := unpack_cons hu2
  obtain ⟨v4, k4, l4, m4, e4, hu4, rfl, _⟩ := unpack_cons hu3
  obtain ⟨v5, k5, l5, m5, e5, hu5, rfl, _⟩ := unpack_cons hu4
  obtain ⟨v6, k6, l6, m6, e6, hu6, rfl, _⟩ := unpack_cons hu5
  obtain rfl := unpack_nil hu6
  rw [(lift_56 e1).1, (lift_56 e2).1, (lift_56 e3).1, (lift_56 e4).1, (lift_56 e5).1, lift_63 e6] at hr
  obtain ⟨u1, u2, u3, u4, u5, u6, ho, a1, a2, a3, a4, a5, a6⟩ := row6 hr
  obtain rfl := a1.is_num
  obtain rfl := a2.is_num
  obtain rfl := a3.is_num
  obtain rfl := a4.is_num
  obtain rfl := a5.is_num
  obtain rfl := a6.is_flag
  exact with_st b v1.n v2.n v3.n v4.n v5.n v6.yes s1 s2 v w R B h1 h2 hd ho
 ·obtain ⟨v1, k1, l1, m1, e1, hu1, rfl, _⟩ := unpack_cons (c := 63) (s := []) hu
  obtain rfl := unpack_nil hu1
  rw [lift_63 e1] at hr
  obtain ⟨u1, ho, a1⟩ := row1 hr
  obtain rfl := a1.is_flag
  exact with_lead b v1.yes s1 s2 v w R B h1 h2 hd ho
 ·obtain ⟨v1, k1, l1, m1, e1, hu1, rfl, _⟩ := unpack_cons (c := 56) (s := []) hu
  obtain rfl := unpack_nil hu1
  rw [(lift_56 e1).1] at hr
  obtain ⟨u1, ho, a1⟩ := row1 hr
  obtain rfl := a1.is_num
  exact with_num b v1.n s1 s2 v w R B h1 h2 hd ho
 ·obtain ⟨v1, k1, l1, m1, e1, hu1, rfl, _⟩ := unpack_cons (c := 56) (s := []) hu
  obtain rfl := unpack_nil hu1
  rw [(lift_56 e1).1] at hr
  obtain ⟨u1, ho, a1⟩ := row1 hr
  obtain rfl := a1.is_num
  exact with_seq b v1.n s1 s2 v w R B h1 h2 hd ho
 ·obtain ⟨v1, k1, l1, m1, e1, hu1, rfl, _⟩ := unpack_cons (c := 49) (s := []) hu
  obtain rfl := unpack_nil hu1
  have g1 := (lift_49 e1).2
  rw [(lift_49 e1).1] at hr
  obtain ⟨u1, ho, a1⟩ := row1 hr
  obtain rfl := a1.is_num
  exact with_fro b v1.n (by omega) s1 s2 v w R B h1 h2 hd ho
 ·obtain ⟨v1, k1, l1, m1, e1, hu1, rfl, _⟩ := unpack_cons (c := 56) (s := [56]) hu
  obtain ⟨v2, k2, l2, m2, e2, hu2, rfl, _⟩ := unpack_cons hu1
  obtain rfl := unpack_nil hu2
  rw [(lift_56 e1).1, (lift_56 e2).1] at hr
  obtain ⟨u1, u2, ho, a1, a2⟩ := row2 hr
  obtain rfl := a1.is_num
  obtain rfl := a2.is_num
  exact with_name b v1.n v2.n s1 s2 v w R B h1 h2 hd ho
 ·obtain ⟨v1, k1, l1, m1, e1, hu1, rfl, _⟩ := unpack_cons (c := 42) (s := []) hu
  obtain rfl := unpack_nil hu1
  have hb1 := hbb v1 (by simp)
  rw [lift_42 e1] at hr
  obtain ⟨u1, ho, a1⟩ := row1 hr
  obtain ⟨sl, rfl, hsl⟩ := a1.is_blob
  exact with_op b v1.b (by omega) sl 0 s1 s2 v w R B hB hsl h1 h2 hd ho
 ·obtain ⟨v1, k1, l1, m1, e1, hu1, rfl, _⟩ := unpack_cons (c := 52) (s := []) hu
  obtain rfl := unpack_nil hu1
  have g1 := (lift_52 e1).2
  rw [(lift_52 e1).1] at hr
  obtain ⟨u1, ho, a1⟩ := row1 hr
  obtain rfl := a1.is_num
  exact with_blocks b v1.n g1 s1 s2 v w R B h1 h2 hd ho
 ·exact with_item b hu hbl hgd s1 s2 v w R B hB h1 h2 hd hr
/-- The bytes are gone over: what is left. -/
structure OfI (bs ks : List UInt8) (pos q : Nat) (m : Ms0) : Prop where
 eq : ofP bs = ofL m (ks.drop pos) (bs.drop q)
 le : q ≤ bs.length
 ok : m.Ok
 sm : m.Small bs.length
theorem OfI.no {bs ks : List UInt8} {pos q : Nat} {m : Ms0} (h : OfI bs ks pos q m) {c : UInt8} (hc : ks[pos]? = some c) (hu : unpack (shapeC (c.toNat : Int) (((bs.drop q).headD 0).toNat : Int)) (bs.drop q) = none) : ofM bs = none := by
 have hd : ks.drop pos = c :: ks.drop (pos + 1) := by
  obtain ⟨hl, rfl⟩ := List.getElem?_eq_some_iff.1 hc
  exact List.drop_eq_getElem_cons hl
 rw [ofM_P, h.eq, hd, ofL, hu]
 rfl
theorem OfI.step {bs ks : List UInt8} {pos q : Nat} {m : Ms0} (h : OfI bs ks pos q m) {c : UInt8} (hc : ks[pos]? = some c) (hn : nine c) {l : List V} {n : Nat} (hu : unpack (shapeC (c.toNat : Int) (((bs.drop q).headD 0).toNat : Int)) (bs.drop q) = some (l, n)) : OfI bs ks (pos + 1) (q + n) (getM m (c.toNat : Int) l) ∧ n ≤ bs.length - q := by
 have hd : ks.drop pos = c :: ks.drop (pos + 1) := by
  obtain ⟨hl, rfl⟩ := List.getElem?_eq_some_iff.1 hc
  exact List.drop_eq_getElem_cons hl
 have hnl : n ≤ bs.length - q := by
  have h1 := ulen_le (shapeC (c.toNat : Int) (((bs.drop q).headD 0).toNat : Int)) (bs.drop q)
  rw [(ucode_of (may_C _ _) hu).2.2, List.length_drop] at h1
  exact h1
 obtain ⟨o1, o2⟩ := getM_ok h.ok h.sm hn hu (by rw [List.length_drop]; omega)
 refine ⟨⟨?_, by have := h.le; omega, o1, o2⟩, hnl⟩
 rw [h.eq, hd, ofL, hu, Option.bind_some, List.drop_drop]
theorem OfI.fin {bs ks : List UInt8} {pos q : Nat} {m : Ms0} (h : OfI bs ks pos q m) (hp : ks.length ≤ pos) : ofM bs = if q = bs.length ∧ mayM m = true then some m else none := by
 rw [ofM_P, h.eq, List.drop_eq_nil_of_le hp, ofL, Option.bind_some]
 have e : (bs.drop q = [] ∧ mayM m = true) = (q = bs.length ∧ mayM m = true) := by
  have := h.le
  rw [List.drop_eq_nil_iff]
  apply propext
  constructor
  ·rintro ⟨h1, h2⟩; exact ⟨by omega, h2⟩
  ·rintro ⟨h1, h2⟩; exact ⟨by omega, h2⟩
 dsimp only
 simp only [e]
theorem OfI.beg {bs : List UInt8} {v1 v2 : V} {q : Nat} (hu : unpack [49, 56] bs = some ([v1, v2], q)) : OfI bs (nmM (v1.n : Int)) 0 q (msK (v1.n : Int) v2.n) := by
 obtain ⟨u1, k1, l1, m1, e1, hu1, he, _⟩ := unpack_cons hu
 obtain ⟨u2, k2, l2, m2, e2, hu2, he2, _⟩ := unpack_cons hu1
 have h1 := (lift_49 e1).2
 have h2 := (lift_56 e2).2
 obtain ⟨rfl, rfl⟩ := List.cons.inj he
 obtain ⟨rfl, _⟩ := List.cons.inj he2
 obtain ⟨o1, o2⟩ := msK_ok (k := v1.n) (e := v2.n) (by omega) h2 bs.length
 refine ⟨?_, ?_, o1, o2⟩
 ·unfold ofP
  rw [hu, Option.bind_some]
  rfl
 ·have h1 := ulen_le [49, 56] bs
  rw [(ucode_of rfl hu).2.2] at h1
  exact h1
theorem unpack_two {bs : List UInt8} {l : List V} {q : Nat} (hu : unpack [49, 56] bs = some (l, q)) : ∃ x y : Nat, l = [num x, num y] ∧ x < 256 ∧ y < 18446744073709551616 := by
 obtain ⟨u1, k1, l1, m1, e1, hu1, rfl, _⟩ := unpack_cons hu
 obtain ⟨u2, k2, l2, m2, e2, hu2, rfl, _⟩ := unpack_cons hu1
 obtain rfl := unpack_nil hu2
 exact ⟨u1.n, u2.n, by rw [← (lift_49 e1).1, ← (lift_56 e2).1], (lift_49 e1).2, (lift_56 e2).2⟩
def ms0 : Ms0 := msK 0 0
def oM (o : Option Ms0) : Ms0 := o.getD ms0
def zM : List Value := msL ms0 (.slice none 0 0) (.slice none 0 0)
theorem zM_eq : Tryz.zeroCells80 = zM.toArray := by kernel_rfl
theorem zM_len : zM.length = 290 := by kernel_rfl
theorem infoZM : (Tryz.prog.info? 80).map (·.size) = some zM.toArray.size := by kernel_rfl
theorem oneZM : zM.toArray.all (·.oneCell') = true := by kernel_rfl
/-- What message.Of leaves. -/
def MOfP (w : World) (o : Option Ms0) (e : Ending) (w' : World) : Prop :=
 Below w.heap.size w w' ∧ ∃ s1 s2, e = .returned (.tuple #[.agg (msL (oM o) s1 s2).toArray, .int .i64 (eA o)]) ∧ w'.ownsRow w.heap.size 5 1 s1 (oM o).op.data.length (bV (oM o).op.data) ∧ w'.ownsRow w.heap.size 5 1 s2 (oM o).item.op.data.length (bV (oM o).item.op.data)
theorem MOfP.none_of {w w' : World} {o : Option Ms0} {e : Ending} (ho : o = none) (he : e = .returned (.tuple #[.agg zM.toArray, .int .i64 4])) (hb : Below w.heap.size w w') : MOfP w o e w' := by
 subst ho; exact ⟨hb, _, _, he, World.ownsRow_nil w' _ 5 1, World.ownsRow_nil w' _ 5 1⟩
theorem MOfP.some_of {w w' : World} {o : Option Ms0} {a : Ms0} {s1 s2 : Value} {e : Ending} (ho : o = some a) (he : e = .returned (.tuple #[.agg (msL a s1 s2).toArray, .int .i64 0])) (h1 : w'.ownsRow w.heap.size 5 1 s1 a.op.data.length (bV a.op.data)) (h2 : w'.ownsRow w.heap.size 5 1 s2 a.item.op.data.length (bV a.item.op.data)) (hb : Below w.heap.size w w') : MOfP w o e w' := by
 subst ho; exact ⟨hb, s1, s2, he, h1, h2⟩
theorem resMt {w : World} {fn : Func} {p q : Tmp} (h : fn.results = #[.cell p 80, .tmp q]) (tmps : Array Value) (B : Nat) (CS : List Value) (z : Value) (hp : tmps.getD p undef = .pointer (some ⟨B, 0, none⟩)) (hq : tmps.getD q undef = z) (hl : CS.length = 290) (ht : w.there B 0 290) :
  (results fn tmps).run Tryz.prog (w.setCells B 0 CS) = .ok (.tuple #[.agg CS.toArray, z]) (w.setCells B 0 CS) :=
 results_cell_slot h tmps _ B 0 CS _ z hp hq (World.rangeAt_setCells_same w _ _ _ (by rw [hl]; exact ht)) Tryz.underlying80 rfl (by rw [hl]; exact infoMs)
/-- A message's box, its operations' data in memory of B on. -/
def BO (B : Nat) (P : Nat) (m : Ms0) (W : World) : Prop := ∃ t1 t2, BM W P m t1 t2 ∧ W.ownsRow B 5 1 t1 m.op.data.length (bV m.op.data) ∧ W.ownsRow B 5 1 t2 m.item.op.data.length (bV m.item.op.data)
theorem BO.mono {B P : Nat} {m : Ms0} {W W' : World} (h : BO B P m W) (hb : Below W.heap.size W W') : BO B P m W' := by
 obtain ⟨t1, t2, h1, h2, h3⟩ := h
 exact ⟨t1, t2, h1.mono hb, ownsRow_below h2 hb, ownsRow_below h3 hb⟩
theorem BO.lt {B P : Nat} {m : Ms0} {W : World} (h : BO B P m W) : P < W.heap.size := by
 obtain ⟨t1, t2, h1, _⟩ := h
 exact (Array.getElem?_eq_some_iff.1 h1).1
/-- What a round of Of knows of memory. -/
structure MOf (P K : Nat) (w : World) (s : ByteArray) (pos : Nat) (m : Ms0) (W : World) : Prop where
 it : W.heap[K]? = some (.stringIter s pos)
 rb : W.heap[w.heap.size]? = some (.cells zM.toArray 80 (0, 0))
 bx : BO (w.heap.size + 1) P m W
 below : Below w.heap.size w W
 kb : w.heap.size < P ∧ P < K
theorem MOf.lt {P K : Nat} {w : World} {s : ByteArray} {pos : Nat} {m : Ms0} {W : World} (h : MOf P K w s pos m W) : w.heap.size < W.heap.size ∧ P < W.heap.size ∧ K < W.heap.size :=
 ⟨(Array.getElem?_eq_some_iff.1 h.rb).1, h.bx.lt, (Array.getElem?_eq_some_iff.1 h.it).1⟩
theorem MOf.mono {P K : Nat} {w : World} {s : ByteArray} {pos : Nat} {m : Ms0} {W W' : World} (h : MOf P K w s pos m W) (hb : Below W.heap.size W W') : MOf P K w s pos m W' := by
 obtain ⟨h1, h2, h3⟩ := h.lt
 exact ⟨(hb.block _ h3).trans h.it, (hb.block _ h1).trans h.rb, h.bx.mono hb, bthen h.below hb, h.kb⟩
theorem own_iterAt {W : World} {base n K : Nat} {sl : Value} {xs : List Value} {s : ByteArray} {p p' : Nat} (ho : W.ownsRow base 5 1 sl n xs) (hk : W.heap[K]? = some (.stringIter s p)) : (W.iterAt K s p').ownsRow base 5 1 sl n xs :=
 ownsRow_at ho (fun j hj => Lib.iterAt_other _ _ _ _ _ (fun e => by
  obtain ⟨cs', f', h⟩ := own_tag ho j hj
  subst e
  rw [hk] at h
  cases h))
theorem MOf.next {P K : Nat} {w : World} {s : ByteArray} {pos p' : Nat} {m : Ms0} {W : World} (h : MOf P K w s pos m W) : MOf P K w s p' m (W.iterAt K s p') := by
 obtain ⟨h1, h2, h3⟩ := h.lt
 obtain ⟨t1, t2, b1, b2, b3⟩ := h.bx
 have hk := h.kb
 exact ⟨Lib.iterAt_heap W K _ pos p' h.it, (Lib.iterAt_other _ _ _ _ _ (by omega)).trans h.rb, ⟨t1, t2, (Lib.iterAt_other _ _ _ _ _ (by omega)).trans b1, own_iterAt b2 h.it, own_iterAt b3 h.it⟩, Lib.below_iterAt h.below (by omega) _ _, h.kb⟩
theorem MOf.store {P K : Nat} {w : World} {s : ByteArray} {pos : Nat} {m m' : Ms0} {W : World} {s1 s2 : Value} (h : MOf P K w s pos m W) (hd : m.item.data.length = 256) (hd' : m'.item.data.length = 256) (o1 : W.ownsRow (w.heap.size + 1) 5 1 s1 m'.op.data.length (bV m'.op.data)) (o2 : W.ownsRow (w.heap.size + 1) 5 1 s2 m'.item.op.data.length (bV m'.item.op.data)) :
  MOf P K w s pos m' (W.setCells P 0 (msL m' s1 s2)) := by
 obtain ⟨t1, t2, b1, b2, b3⟩ := h.bx
 have hk := h.kb
 have hx : (W.setCells P 0 (msL m' s1 s2)).heap[P]? = some (.cells (msL m' s1 s2).toArray 80 (0, 0)) := by
  have := setCells_heap (b := P) (t := 80) (msL m' s1 s2) W [] (msL m t1 t2) [] (by rw [msL_len hd, msL_len hd']) (by rw [List.nil_append, List.append_nil]; exact b1)
  rw [List.nil_append, List.append_nil] at this
  exact this
 exact ⟨(heapSetC _ _ _ _ _ (by omega)).trans h.it, (heapSetC _ _ _ _ _ (by omega)).trans h.rb, ⟨s1, s2, hx, own_setCells_tag o1 b1, own_setCells_tag o2 b1⟩, belowSetC (by omega) _ _ _ h.below, h.kb⟩
/-- The program's Unpack, in one form. -/
theorem u_of {w w' : World} {s bs : List UInt8} {e : Ending} (h : UnpackP w true (unpack s bs) e w') : ∃ (v' : Value) (q : Nat) (code : Int), e = .returned (.tuple #[v', .int .i64 (q : Int), .int .i64 code]) ∧ Below w.heap.size w w' ∧ ((unpack s bs = none ∧ code = 4) ∨ (code = 0 ∧ ∃ l, unpack s bs = some (l, q) ∧ RowV 0 w' v' l)) := by
 obtain ⟨hb, hP⟩ := h
 rw [if_pos rfl] at hP
 cases hu : unpack s bs with
 | none =>
  rw [hu] at hP
  exact ⟨_, 0, 4, hP, hb, .inl ⟨rfl, rfl⟩⟩
 | some p =>
  obtain ⟨l, q⟩ := p
  rw [hu] at hP
  obtain ⟨v', he, xs, ho, hx⟩ := hP
  refine ⟨v', q, 0, he, hb, .inr ⟨rfl, l, rfl, xs, ownsRow_base ho (Nat.zero_le _), fun j x hj => ?_⟩⟩
  obtain ⟨u, g1, g2⟩ := hx j x hj
  refine ⟨u, g1, ?_⟩
  rcases g2 with g | g | ⟨g, sl, g3, g4⟩ | g
  ·exact .inl g
  ·exact .inr (.inl g)
  ·exact .inr (.inr (.inl ⟨g, sl, g3, ownsRow_base g4 (Nat.zero_le _)⟩))
  ·exact .inr (.inr (.inr g))
theorem Rd.tail {w : World} {n cap : Nat} {ao : Option Addr} {bs : List UInt8} (h : Rd w 1 (.slice ao n cap) n (bV bs)) {l : Nat} (hl : l ≤ n) : Rd w 1 (.slice (cutA ao cap l 1) (n - l) (cap - l)) (n - l) (bV (bs.drop l)) := by
 have h1 := h.mid hl (Nat.le_refl n)
 have hlen : bs.length = n := by obtain ⟨_, _, _, hl, _⟩ := h; simpa [bV] using hl
 rw [List.take_of_length_le (by rw [List.length_drop]; omega)] at h1
 exact h1
end Go.Proofs.YtgkelbdgdhkeoaaGreat
