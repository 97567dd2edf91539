/- message.itemOf of any item; what message.with needs. -/
import Derived.Test.YtgkelbdgdhkeoaaGreatPMsg30
import Derived.Test.YtgkelbdgdhkeoaaGreatPMsg28
namespace Go.Proofs.YtgkelbdgdhkeoaaGreat
open Go.RowKit
set_option linter.unusedVariables false
set_option linter.unusedSimpArgs false
open Wire Cmd
theorem row1 {R : Nat} {w : World} {v : Value} {x : V} (h : RowV R w v [x]) : ∃ u, w.ownsRow R 20 1 v 1 [u] ∧ AnyO 0 w u x := by
 obtain ⟨xs, ho, hx⟩ := h
 obtain ⟨u, h1, h2⟩ := hx 0 x rfl
 have hl : xs.length = 1 := by have := ho.1; simpa using this
 match xs, hl with
 | [y], _ => obtain rfl := Option.some.inj h1; exact ⟨_, ho, h2⟩
theorem row2 {R : Nat} {w : World} {v : Value} {x y : V} (h : RowV R w v [x, y]) : ∃ u t, w.ownsRow R 20 1 v 2 [u, t] ∧ AnyO 0 w u x ∧ AnyO 0 w t y := by
 obtain ⟨xs, ho, hx⟩ := h
 obtain ⟨u, h1, h2⟩ := hx 0 x rfl
 obtain ⟨u', h1', h2'⟩ := hx 1 y rfl
 have hl : xs.length = 2 := by have := ho.1; simpa using this
 match xs, hl with
 | [a, b], _ => obtain rfl := Option.some.inj h1; obtain rfl := Option.some.inj h1'; exact ⟨_, _, ho, h2, h2'⟩
theorem row3 {R : Nat} {w : World} {v : Value} {x y z : V} (h : RowV R w v [x, y, z]) : ∃ u t s, w.ownsRow R 20 1 v 3 [u, t, s] ∧ AnyO 0 w u x ∧ AnyO 0 w t y ∧ AnyO 0 w s z := by
 obtain ⟨xs, ho, hx⟩ := h
 obtain ⟨u, h1, h2⟩ := hx 0 x rfl
 obtain ⟨u', h1', h2'⟩ := hx 1 y rfl
 obtain ⟨u'', h1'', h2''⟩ := hx 2 z rfl
 have hl : xs.length = 3 := by have := ho.1; simpa using this
 match xs, hl with
 | [a, b, c], _ => obtain rfl := Option.some.inj h1; obtain rfl := Option.some.inj h1'; obtain rfl := Option.some.inj h1''; exact ⟨_, _, _, ho, h2, h2', h2''⟩
theorem row4 {R : Nat} {w : World} {v : Value} {x y z q : V} (h : RowV R w v [x, y, z, q]) : ∃ u t s r, w.ownsRow R 20 1 v 4 [u, t, s, r] ∧ AnyO 0 w u x ∧ AnyO 0 w t y ∧ AnyO 0 w s z ∧ AnyO 0 w r q := by
 obtain ⟨xs, ho, hx⟩ := h
 obtain ⟨u, h1, h2⟩ := hx 0 x rfl
 obtain ⟨u', h1', h2'⟩ := hx 1 y rfl
 obtain ⟨u'', h1'', h2''⟩ := hx 2 z rfl
 obtain ⟨u3, h13, h23⟩ := hx 3 q rfl
 have hl : xs.length = 4 := by have := ho.1; simpa using this
 match xs, hl with
 | [a, b, c, d], _ => obtain rfl := Option.some.inj h1; obtain rfl := Option.some.inj h1'; obtain rfl := Option.some.inj h1''; obtain rfl := Option.some.inj h13; exact ⟨_, _, _, _, ho, h2, h2', h2'', h23⟩
theorem row6 {R : Nat} {w : World} {v : Value} {x y z q p o : V} (h : RowV R w v [x, y, z, q, p, o]) : ∃ u t s r a b, w.ownsRow R 20 1 v 6 [u, t, s, r, a, b] ∧ AnyO 0 w u x ∧ AnyO 0 w t y ∧ AnyO 0 w s z ∧ AnyO 0 w r q ∧ AnyO 0 w a p ∧ AnyO 0 w b o := by
 obtain ⟨xs, ho, hx⟩ := h
 obtain ⟨u, h1, h2⟩ := hx 0 x rfl
 obtain ⟨u', h1', h2'⟩ := hx 1 y rfl
 obtain ⟨u'', h1'', h2''⟩ := hx 2 z rfl
 obtain ⟨u3, h13, h23⟩ := hx 3 q rfl
 obtain ⟨u4, h14, h24⟩ := hx 4 p rfl
 obtain ⟨u5, h15, h25⟩ := hx 5 o rfl
 have hl : xs.length = 6 := by have := ho.1; simpa using this
 match xs, hl with
 | [a, b, c, d, e, f], _ => obtain rfl := Option.some.inj h1; obtain rfl := Option.some.inj h1'; obtain rfl := Option.some.inj h1''; obtain rfl := Option.some.inj h13; obtain rfl := Option.some.inj h14; obtain rfl := Option.some.inj h15; exact ⟨_, _, _, _, _, _, ho, h2, h2', h2'', h23, h24, h25⟩
theorem unpack_bl {s b : List UInt8} {l : List V} {n : Nat} (h : unpack s b = some (l, n)) : ∀ v ∈ l, v.b.length ≤ b.length := (unpack_blen _ _ _ _ h).1
/-- itemOf, of values that came of bytes. -/
theorem itemOf_any {bs : List UInt8} {l : List V} {n : Nat} (hu : unpack (shapeI ((bs.headD 0).toNat : Int)) bs = some (l, n)) (hbl : bs.length ≤ 1000000) (v : Value) (w : World) (R : Nat) (hr : RowV R w v l) :
  Calls Tryz.prog 61 #[v] w (ItOfP w (getI l)) := by
 have hbb := unpack_bl hu
 generalize hq : (bs.headD 0).toNat = q at hu
 have hq8 : q < 256 := by rw [← hq]; exact UInt8.toNat_lt _
 by_cases h5 : q = 5
 ·subst h5
  have hs : shapeI ((5 : Nat) : Int) = [49, 42, 52] := rfl
  rw [hs] at hu
  obtain ⟨v1, k1, l1, m1, e1, hu1, rfl, _⟩ := unpack_cons hu
  obtain ⟨v2, k2, l2, m2, e2, hu2, rfl, _⟩ := unpack_cons hu1
  obtain ⟨v3, k3, l3, m3, e3, hu3, rfl, _⟩ := unpack_cons hu2
  obtain rfl := unpack_nil hu3
  have f1 := lift_49h e1
  rw [hq] at f1
  have f2 := lift_42 e2
  obtain ⟨f3, g3⟩ := lift_52 e3
  subst f1
  have hb2 := hbb v2 (by simp)
  have hg : getI [num 5, v2, v3] = ⟨5, 0, 0, 0, z256, (ofO v2.b).getD op0, (v3.n : Int)⟩ := rfl
  rw [hg]
  rw [f2, f3] at hr
  obtain ⟨u1, u2, u3, ho, a1, a2, a3⟩ := row3 hr
  obtain rfl := a1.is_num
  obtain ⟨sl, rfl, hsl⟩ := a2.is_blob
  obtain rfl := a3.is_num
  exact itemOf_op v3.n g3 v2.b (by omega) sl 0 v w hsl R ho
 by_cases h4 : q = 4
 ·subst h4
  have hs : shapeI ((4 : Nat) : Int) = [49, 52, 50, 35] := rfl
  rw [hs] at hu
  obtain ⟨v1, k1, l1, m1, e1, hu1, rfl, _⟩ := unpack_cons hu
  obtain ⟨v2, k2, l2, m2, e2, hu2, rfl, _⟩ := unpack_cons hu1
  obtain ⟨v3, k3, l3, m3, e3, hu3, rfl, _⟩ := unpack_cons hu2
  obtain ⟨v4, k4, l4, m4, e4, hu4, rfl, _⟩ := unpack_cons hu3
  obtain rfl := unpack_nil hu4
  have f1 := lift_49h e1
  rw [hq] at f1
  obtain ⟨f2, g2⟩ := lift_52 e2
  obtain ⟨f3, g3⟩ := lift_50 e3
  obtain ⟨f4, g4⟩ := lift_35 e4
  subst f1
  have hg : getI [num 4, v2, v3, v4] = ⟨4, v2.n, 0, (v3.n : Int), v4.x, op0, 0⟩ := rfl
  rw [hg]
  rw [f2, f3, f4] at hr
  obtain ⟨u1, u2, u3, u4, ho, a1, a2, a3, a4⟩ := row4 hr
  obtain rfl := a1.is_num
  obtain rfl := a2.is_num
  obtain rfl := a3.is_num
  obtain ⟨rfl, _⟩ := a4.is_blk
  exact itemOf_data v2.n v3.n (by omega) v4.x g4 v w R ho
 by_cases h3 : q = 3
 ·subst h3
  have hs : shapeI ((3 : Nat) : Int) = [49, 52, 50] := rfl
  rw [hs] at hu
  obtain ⟨v1, k1, l1, m1, e1, hu1, rfl, _⟩ := unpack_cons hu
  obtain ⟨v2, k2, l2, m2, e2, hu2, rfl, _⟩ := unpack_cons hu1
  obtain ⟨v3, k3, l3, m3, e3, hu3, rfl, _⟩ := unpack_cons hu2
  obtain rfl := unpack_nil hu3
  have f1 := lift_49h e1
  rw [hq] at f1
  obtain ⟨f2, g2⟩ := lift_52 e2
  obtain ⟨f3, g3⟩ := lift_50 e3
  subst f1
  have hg : getI [num 3, v2, v3] = ⟨3, v2.n, 0, (v3.n : Int), z256, op0, 0⟩ := rfl
  rw [hg]
  rw [f2, f3] at hr
  obtain ⟨u1, u2, u3, ho, a1, a2, a3⟩ := row3 hr
  obtain rfl := a1.is_num
  obtain rfl := a2.is_num
  obtain rfl := a3.is_num
  exact itemOf_less v2.n v3.n (by omega) v w R ho
 by_cases h2 : q = 2
 ·subst h2
  have hs : shapeI ((2 : Nat) : Int) = [49, 52, 50] := rfl
  rw [hs] at hu
  obtain ⟨v1, k1, l1, m1, e1, hu1, rfl, _⟩ := unpack_cons hu
  obtain ⟨v2, k2, l2, m2, e2, hu2, rfl, _⟩ := unpack_cons hu1
  obtain ⟨v3, k3, l3, m3, e3, hu3, rfl, _⟩ := unpack_cons hu2
  obtain rfl := unpack_nil hu3
  have f1 := lift_49h e1
  rw [hq] at f1
  obtain ⟨f2, g2⟩ := lift_52 e2
  obtain ⟨f3, g3⟩ := lift_50 e3
  subst f1
  have hg : getI [num 2, v2, v3] = ⟨2, v2.n, (v3.n : Int), 0, z256, op0, 0⟩ := rfl
  rw [hg]
  rw [f2, f3] at hr
  obtain ⟨u1, u2, u3, ho, a1, a2, a3⟩ := row3 hr
  obtain rfl := a1.is_num
  obtain rfl := a2.is_num
  obtain rfl := a3.is_num
  exact itemOf_size v2.n v3.n (by omega) v w R ho
 ·have hs : shapeI ((q : Nat) : Int) = [49, 52] := by
   unfold shapeI
   rw [if_neg (by omega), if_neg (by omega), if_neg (by omega)]
  rw [hs] at hu
  obtain ⟨v1, k1, l1, m1, e1, hu1, rfl, _⟩ := unpack_cons hu
  obtain ⟨v2, k2, l2, m2, e2, hu2, rfl, _⟩ := unpack_cons hu1
  obtain rfl := unpack_nil hu2
  have f1 := lift_49h e1
  rw [hq] at f1
  obtain ⟨f2, g2⟩ := lift_52 e2
  subst f1
  have hg : getI [num q, v2] = ⟨(q : Int), v2.n, 0, 0, z256, op0, 0⟩ := by
   unfold getI
   have e0 : (([num q, v2] : List V).headD (num 0)).n = q := rfl
   have e1 : ((([num q, v2] : List V).drop 1).headD (num 0)) = v2 := rfl
   dsimp only
   rw [e0, e1, if_neg (by omega), if_neg (by omega), if_neg (by omega), if_neg (by omega)]
  rw [hg]
  rw [f2] at hr
  obtain ⟨u1, u2, ho, a1, a2⟩ := row2 hr
  obtain rfl := a1.is_num
  obtain rfl := a2.is_num
  exact itemOf_gone q v2.n hq8 h2 h3 h4 h5 v w R ho
/-- A message's box. -/
def BM (X : World) (P : Nat) (b : Ms0) (t1 t2 : Value) : Prop := X.heap[P]? = some (.cells (msL b t1 t2).toArray 80 (0, 0))
theorem BM.put {X : World} {P o : Nat} {b b' : Ms0} {t1 t2 t1' t2' : Value} {A B xs Y : List Value} (h : BM X P b t1 t2) (e1 : msL b t1 t2 = A ++ (xs ++ B)) (ho : A.length = o) (hl : xs.length = Y.length) (e2 : msL b' t1' t2' = A ++ (Y ++ B)) : BM (X.setCells P o Y) P b' t1' t2' := by
 subst ho
 unfold BM at h ⊢
 rw [e1] at h
 rw [e2]
 exact setCells_heap Y X A xs B hl h
theorem BM.mono {X Y : World} {P : Nat} {b : Ms0} {t1 t2 : Value} (h : BM X P b t1 t2) (hb : Below X.heap.size X Y) : BM Y P b t1 t2 := (hb.block _ (Array.getElem?_eq_some_iff.1 h).1).trans h
theorem own_setCells_tag {W : World} {b o : Nat} {vs : List Value} {base n : Nat} {sl : Value} {xs : List Value} {cs : Array Value} {f : Nat × Nat} (ho : W.ownsRow base 5 1 sl n xs) (hb : W.heap[b]? = some (.cells cs 80 f)) : (W.setCells b o vs).ownsRow base 5 1 sl n xs :=
 ownsRow_at ho (fun j hj => heapSetC _ _ _ _ _ (fun e => by
  obtain ⟨cs', f', h⟩ := own_tag ho j hj
  subst e
  rw [hb] at h
  cases h))
theorem oneOwn {W : World} {base n : Nat} {e : TypeId} {sl : Value} {xs : List Value} (h : W.ownsRow base e 1 sl n xs) : sl.oneCell' = true := by
 obtain ⟨_, _, rfl, _⟩ := Rd.of_own h
 rfl
/-- What with answers. -/
def WithP (B : Nat) (w : World) (b : Ms0) (e : Ending) (w' : World) : Prop :=
 Below w.heap.size w w' ∧ ∃ t1 t2, e = .returned (.agg (msL b t1 t2).toArray) ∧ w'.ownsRow B 5 1 t1 b.op.data.length (bV b.op.data) ∧ w'.ownsRow B 5 1 t2 b.item.op.data.length (bV b.item.op.data)
/-- What stands ahead of with's return. -/
structure FinW (w X : World) (B : Nat) (b : Ms0) (t1 t2 : Value) : Prop where
 bx : BM X w.heap.size b t1 t2
 zb : X.heap[w.heap.size + 1]? = some (.cells Tryz.zeroCells80 80 (0, 0))
 below : Below w.heap.size w X
 o1 : X.ownsRow B 5 1 t1 b.op.data.length (bV b.op.data)
 o2 : X.ownsRow B 5 1 t2 b.item.op.data.length (bV b.item.op.data)
 hd : b.item.data.length = 256
theorem FinW.mono {w X Y : World} {B : Nat} {b : Ms0} {t1 t2 : Value} (h : FinW w X B b t1 t2) (hb : Below X.heap.size X Y) : FinW w Y B b t1 t2 :=
 ⟨h.bx.mono hb, (hb.block _ (Array.getElem?_eq_some_iff.1 h.zb).1).trans h.zb, bthen h.below hb, ownsRow_below h.o1 hb, ownsRow_below h.o2 hb, h.hd⟩
theorem FinW.put {w X : World} {B o : Nat} {b b' : Ms0} {t1 t2 t1' t2' : Value} {A C xs Y : List Value} (h : FinW w X B b t1 t2) (e1 : msL b t1 t2 = A ++ (xs ++ C)) (ho : A.length = o) (hl : xs.length = Y.length) (e2 : msL b' t1' t2' = A ++ (Y ++ C))
  (o1 : X.ownsRow B 5 1 t1' b'.op.data.length (bV b'.op.data)) (o2 : X.ownsRow B 5 1 t2' b'.item.op.data.length (bV b'.item.op.data)) (hd : b'.item.data.length = 256) : FinW w (X.setCells w.heap.size o Y) B b' t1' t2' :=
 ⟨h.bx.put e1 ho hl e2, (heapSetC _ _ _ _ _ (by omega)).trans h.zb, belowSetC (Nat.le_refl _) _ _ _ h.below, own_setCells_tag o1 h.bx, own_setCells_tag o2 h.bx, hd⟩
theorem FinW.new {w : World} {B : Nat} {b : Ms0} {t1 t2 : Value} (o1 : w.ownsRow B 5 1 t1 b.op.data.length (bV b.op.data)) (o2 : w.ownsRow B 5 1 t2 b.item.op.data.length (bV b.item.op.data)) (hd : b.item.data.length = 256) :
  FinW w ((w.alloc (.cells (msL b t1 t2).toArray 80)).alloc (.cells Tryz.zeroCells80 80)) B b t1 t2 :=
 have hb : Below w.heap.size w ((w.alloc (.cells (msL b t1 t2).toArray 80)).alloc (.cells Tryz.zeroCells80 80)) := balloc (balloc (Below.refl _ _) _) _
 ⟨(Below.heap_alloc _ _ _ (by simp)).trans (heap_alloc_new w _), heap_twoM w _ _, hb, ownsRow_below o1 hb, ownsRow_below o2 hb, hd⟩
theorem FinW.fin {w X : World} {B : Nat} {b : Ms0} {t1 t2 : Value} (h : FinW w X B b t1 t2) : ∃ L, msL b t1 t2 = L ∧ L.length = 290 ∧ L.toArray.all (·.oneCell') = true ∧ X.rangeAt w.heap.size 0 L ∧ X.there (w.heap.size + 1) 0 290 ∧ X.there (w.heap.size + 1) 0 L.toArray.size ∧
  (Tryz.prog.info? 80).map (·.size) = some L.length ∧ (Tryz.prog.info? 80).map (·.size) = some L.toArray.size ∧ WithP B w b (.returned (.agg L.toArray)) (X.setCells (w.heap.size + 1) 0 L) := by
 obtain ⟨bx, zb, hb, o1, o2, hd⟩ := h
 have hl := msL_len (m := b) (s1 := t1) (s2 := t2) hd
 refine ⟨_, rfl, hl, by rw [← Array.all_toList]; exact List.all_eq_true.2 (msL_one (oneOwn o1) (oneOwn o2)), fun j u hj => ?_, there_of zb zeroM, there_mid zb zeroM (by rw [List.size_toArray, hl]; omega), by rw [hl]; exact infoMs, by rw [List.size_toArray, hl]; exact infoMs, belowSetC (Nat.le_succ _) _ _ _ hb, t1, t2, rfl, own_setCells_tag o1 zb, own_setCells_tag o2 zb⟩
 rw [Nat.zero_add]
 exact cellIs bx (by simpa using hj)
end Go.Proofs.YtgkelbdgdhkeoaaGreat
