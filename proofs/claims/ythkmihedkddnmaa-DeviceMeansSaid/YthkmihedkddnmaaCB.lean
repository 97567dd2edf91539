/- Several texts in one: Cmd4 Cmd5 CmdR4 CmdR5 CmdR6 CmdR8 BuildN CmdR7 Ans0 Ans1 Ans2 Ans3 Ans4 Read0. -/
import Derived.Test.YthkmihedkddnmaaCA
import Derived.Test.YthkmihedkddnmaaWB
import Derived.Test.YthkmihedkddnmaaCmdR3
import Derived.Test.YthkmihedkddnmaaWC
namespace Go.Proofs.Ythkmihedkddnmaa
open Go.RowKit
set_option linter.unusedVariables false
set_option linter.unusedSimpArgs false
open Wire Cmd

/-- Values in a row that is new, their bytes in the world w. -/
def RowA (B : Nat) (w W : World) (v : Value) (l : List V) : Prop :=
  ∃ xs, W.ownsRow B 20 1 v l.length xs ∧ ∀ (j : Nat) (x : V), l[j]? = some x → ∃ u, xs[j]? = some u ∧ AnyV w u x
theorem RowA.below {B : Nat} {w W W' : World} {v : Value} {l : List V} (h : RowA B w W v l) (hb : Below W.heap.size W W') : RowA B w W' v l := by
  obtain ⟨xs, ho, hx⟩ := h
  exact ⟨xs, ownsRow_below ho hb, hx⟩
theorem RowA.at {B : Nat} {w W W' : World} {v : Value} {l : List V} (h : RowA B w W v l) (hs : ∀ k ∈ ob v, W'.heap[k]? = W.heap[k]?) : RowA B w W' v l := by
  obtain ⟨xs, ho, hx⟩ := h
  exact ⟨xs, ownsRow_at ho hs, hx⟩
theorem RowA.snoc {B : Nat} {w W' : World} {v' u : Value} {l : List V} {x : V} {xs : List Value} (hx : ∀ (j : Nat) (x : V), l[j]? = some x → ∃ u, xs[j]? = some u ∧ AnyV w u x) (hn : xs.length = l.length)
    (ho : W'.ownsRow B 20 1 v' (l.length + 1) (xs ++ [u])) (hu : AnyV w u x) : RowA B w W' v' (l ++ [x]) := by
  refine ⟨xs ++ [u], by rw [List.length_append]; exact ho, fun j y hj => ?_⟩
  rcases Nat.lt_trichotomy j l.length with h | h | h
  · rw [List.getElem?_append_left h] at hj
    obtain ⟨z, h1, h2⟩ := hx j y hj
    exact ⟨z, by rw [List.getElem?_append_left (by omega)]; exact h1, h2⟩
  · subst h
    have hy : x = y := by simpa using hj
    subst hy
    exact ⟨u, by rw [← hn]; simp, hu⟩
  · rw [List.getElem?_eq_none (by simp; omega)] at hj; cases hj

theorem u64_wrap (n : Int) : IntKind.u64.wrap n = ((toU n : Nat) : Int) := by
  rw [IntKind.wrap_u64]; unfold toU; omega
theorem u64_lt (n : Int) : toU n < 18446744073709551616 := by unfold toU; omega
theorem strB_snoc (l : List UInt8) (c : UInt8) : strB (l ++ [c]) = strB l ++ ⟨#[c]⟩ := by simp [strB, ByteArray.ext_iff]
theorem any_num (w : World) (n : Nat) (h : n < 18446744073709551616) : AnyV w (.iface 24 (.int .u64 (n : Int))) (num n) := .inl ⟨rfl, rfl, h⟩
theorem any_blob (w : World) (sl : Value) (l : List UInt8) (h : Rd w 1 sl l.length (bV l)) : AnyV w (.iface 25 sl) (blob l) := .inr (.inr (.inl ⟨rfl, sl, rfl, h⟩))

/-- What a round of shape knows of memory. -/
structure ShM (B K : Nat) (w : World) (o : Op0) (sl v : Value) (l : List V) (pos : Nat) (W : World) : Prop where
  it : W.heap[K]? = some (.stringIter (strB (nm o.k)) pos)
  bx : W.heap[B]? = some (.cells (oC o sl) 27 (0, 0))
  row : RowA (B + 1) w W v l
  ap : ∀ j ∈ ob v, j ≠ K
  below : Below B w W
  kb : B + 1 < K
theorem ShM.next {B K : Nat} {w : World} {o : Op0} {sl v : Value} {l : List V} {pos p' : Nat} {W : World} (h : ShM B K w o sl v l pos W) : ShM B K w o sl v l p' (W.iterAt K (strB (nm o.k)) p') :=
  ⟨Lib.iterAt_heap W K _ pos p' h.it, (Lib.iterAt_other _ _ _ _ _ (by have := h.kb; omega)).trans h.bx, h.row.at (fun k hk => Lib.iterAt_other _ _ _ _ _ (h.ap k hk)), h.ap, Lib.below_iterAt h.below (by have := h.kb; omega) _ _, h.kb⟩
theorem ShM.grown {B K : Nat} {w : World} {o : Op0} {sl v v' u : Value} {l : List V} {x : V} {xs : List Value} {pos : Nat} {W W' : World} (h : ShM B K w o sl v l pos W)
    (hx : ∀ (j : Nat) (x : V), l[j]? = some x → ∃ u, xs[j]? = some u ∧ AnyV w u x) (hn : xs.length = l.length) (ho1 : W.ownsRow (B + 1) 20 1 v l.length xs)
    (ho : W'.ownsRow (B + 1) 20 1 v' (l.length + 1) (xs ++ [u])) (hu : AnyV w u x) (hb : Below (B + 1) W W') (hg : W.grownBy W' v.ownBlock) (hs : SameOrNew W v v') : ShM B K w o sl v' (l ++ [x]) pos W' := by
  have hk := (Array.getElem?_eq_some_iff.1 h.it).1
  have hkb := h.kb
  refine ⟨(hg.block K hk (fun e => h.ap K (by unfold ob; rw [Option.mem_toList]; exact e.symm) rfl)).trans h.it, (hb.block B (by omega)).trans h.bx, RowA.snoc hx hn ho hu, fun j hj => ?_, h.below.trans (hb.mono (by omega)), hkb⟩
  rcases (Chg.of_grown hg hs).2 j hj with h1 | h1
  · exact h.ap j h1
  · omega

end Go.Proofs.Ythkmihedkddnmaa
/- What clients ask: Bytes, walked. -/
namespace Go.Proofs.Ythkmihedkddnmaa
open Go.RowKit
set_option linter.unusedVariables false
set_option linter.unusedSimpArgs false
open Wire Cmd

theorem AnyV.one {w : World} {u : Value} {x : V} (h : AnyV w u x) : u.oneCell' = true := by
  rcases h with ⟨_, rfl, _⟩ | ⟨_, rfl⟩ | ⟨_, sl, rfl, _⟩ | ⟨_, rfl, _⟩ | ⟨_, _, _, _, h⟩
  · rfl
  · rfl
  · rfl
  · rfl
  · rcases h with ⟨n, rfl⟩ | rfl <;> rfl
theorem row_one {w : World} {l : List V} {xs : List Value} (hn : xs.length = l.length) (hx : ∀ (j : Nat) (x : V), l[j]? = some x → ∃ u, xs[j]? = some u ∧ AnyV w u x) : ∀ u ∈ xs, u.oneCell' = true := by
  intro u hu
  obtain ⟨j, hj⟩ := List.mem_iff_getElem?.1 hu
  have hjl : j < l.length := by rw [← hn]; exact (List.getElem?_eq_some_iff.1 hj).1
  obtain ⟨z, h1, h2⟩ := hx j _ (List.getElem?_eq_getElem hjl)
  rw [hj] at h1
  obtain rfl := Option.some.inj h1
  exact h2.one
theorem row_cons {w : World} {l : List V} {xs : List Value} {u : Value} {x : V} (hu : AnyV w u x) (hx : ∀ (j : Nat) (x : V), l[j]? = some x → ∃ u, xs[j]? = some u ∧ AnyV w u x) : ∀ (j : Nat) (y : V), (x :: l)[j]? = some y → ∃ z, (u :: xs)[j]? = some z ∧ AnyV w z y := by
  intro j y hj
  cases j with
  | zero => simp at hj; subst hj; exact ⟨u, rfl, hu⟩
  | succ j => exact hx j y (by simpa using hj)
theorem anysA {w W : World} {B : Nat} {v : Value} {l : List V} {xs : List Value} (ho : W.ownsRow B 20 1 v l.length xs) (hx : ∀ (j : Nat) (x : V), l[j]? = some x → ∃ u, xs[j]? = some u ∧ AnyV w u x) (hb : Below w.heap.size w W) :
    ∃ ao cap, v = .slice ao l.length cap ∧ (ao = none → cap = 0) ∧ Anys W ao l.length cap l := by
  obtain ⟨ao, cap, rfl, _, _, ⟨hn, h1, h2⟩, hc⟩ := Rd.of_own ho
  refine ⟨ao, cap, rfl, hn, rfl, h1, h2, fun j x hj => ?_⟩
  obtain ⟨u, hu, ha⟩ := hx j x hj
  obtain ⟨b, off, e, hbl, hce⟩ := hc j u hu
  exact ⟨b, off, u, e, hbl, hce, ha.below hb⟩
theorem vals_blen (o : Op0) (l : List UInt8) : ∀ v ∈ vals o l, v.b.length ≤ o.data.length := by
  intro v hv
  obtain ⟨c, _, rfl⟩ := List.mem_map.1 hv
  unfold vaL
  (repeat' split) <;> first | exact Nat.zero_le _ | exact Nat.le_refl _
theorem str_cons (l : List UInt8) (c : UInt8) : (⟨#[c]⟩ : ByteArray) ++ strB l = strB (c :: l) := by simp [strB, ByteArray.ext_iff]

end Go.Proofs.Ythkmihedkddnmaa
/- The reference's shape and value, walked. -/
namespace Go.Proofs.Ythkmihedkddnmaa
open Go.RowKit
set_option linter.unusedVariables false
set_option linter.unusedSimpArgs false
open Wire Cmd

theorem nm_shape (k : Int) : ∀ c ∈ nm k, (c = 100 → shL (c.toNat : Int) = 42) ∧ (c ≠ 100 → shL (c.toNat : Int) = 52) := by unfold nm; (repeat' split) <;> decide

end Go.Proofs.Ythkmihedkddnmaa
/- The reference's value, walked. -/
namespace Go.Proofs.Ythkmihedkddnmaa
open Go.RowKit
set_option linter.unusedVariables false
set_option linter.unusedSimpArgs false
open Wire Cmd

end Go.Proofs.Ythkmihedkddnmaa
/- The reference's Pack, walked. -/
namespace Go.Proofs.Ythkmihedkddnmaa
open Go.RowKit
set_option linter.unusedVariables false
set_option linter.unusedSimpArgs false
open Wire Cmd

theorem wp_build1 {P : Program} {o : Oper} {a : Act} {K : Act → World → Prop} {Q : Exit → Act → World → Prop} {w : World} (x : Operand) (t e : TypeId) (n : Nat) (z : Value) (L : List Value)
    (ho : o.op = .buildSlice t 1 #[(0, x)]) (hx : a.eval x = .agg L.toArray) (ht : P.underlying t = some (.slice e)) (hi : (P.info? e).map (fun i => (i.zero, i.size)) = some (some z, n)) (hz : z.cells.size = n) (hL : L.length = n) (hn : 0 < n) (hn2 : n ≤ 1000)
    (h : ∀ W, W = w.alloc (.cells L.toArray e) → K (a.put o.dst (.slice (some ⟨w.heap.size, 0, none⟩) 1 1)) W) : o.wp P a w K Q := by
  have hrun := run_buildSlice_one (P := P) w t e n z L ht hi hz hL hn hn2
  unfold Oper.wp execOp
  simp only [ho, List.map_toArray, List.map_cons, List.map_nil, hx, Sem.run_bind, hrun, Result.andThen_ok, Sem.run_pure]
  exact h _ rfl

theorem wp_app1 {P : Program} {o : Oper} {a : Act} {K : Act → World → Prop} {Q : Exit → Act → World → Prop} (s x : Operand) (t : TypeId)
    (ho : o.op = .call { callee := .builtin .append, args := #[s, x], argTypes := #[t, t] })
    (base : Nat) (e : TypeId) (z : Value) (size bytes : Nat) (ht : P.underlying t = some (.slice e)) (hinfo : (P.info? e).map (fun i => (i.zero, i.size, i.bytes)) = some (some z, size, bytes))
    (hzs : z.cells.size = size) (hsz : 0 < size) (hby : 0 < bytes)
    {W W2 : World} (v : Value) (n : Nat) (xs : List Value) (hs : a.eval s = v) (hown : W.ownsRow base e size v n xs)
    {cs : Array Value} {fr : TypeId} (hW : W2 = W.alloc (.cells cs fr)) (hx : a.eval x = .slice (some ⟨W.heap.size, 0, none⟩) 1 1) (hcs : cs.size = size) (h1 : ∀ u ∈ cs.toList, u.oneCell' = true)
    (hbytes : (n + 1) * bytes ≤ 140737488355328) (hbase : base ≤ W.heap.size)
    (h : ∀ v' w', w'.ownsRow base e size v' (n + 1) (xs ++ cs.toList) → Below base W w' → K (a.put o.dst v') w') : o.wp P a W2 K Q := by
  subst hW
  obtain ⟨i0, hi, hz0, hz1, hz2⟩ := info_parts hinfo
  have hn1 : n + 1 ≤ maxLen := by
    have : n + 1 ≤ (n + 1) * bytes := Nat.le_mul_of_pos_right _ hby
    unfold maxLen; omega
  refine wp_app _ s x t ho base e i0 z size bytes ht hi hz0 hz1 hz2 hzs hsz v n xs hs (hown.alloc _) ⟨W.heap.size, 0, none⟩ 1 1 cs.toList hx (by simp [hcs]) ?_ h1 hn1 hbytes (by simp; omega) ?_
  · intro j u hj
    have hadd : (⟨W.heap.size, 0, none⟩ : Addr).add j = ⟨W.heap.size, j, none⟩ := by unfold Addr.add; split <;> simp_all
    rw [hadd, cell_of_row (W.alloc (.cells cs fr)) W.heap.size j cs fr (0, 0) (heap_alloc_new W _)]
    simpa using hj
  · intro v' w' ho' hg hsn hne
    have hg2 : W.grownBy w' v.ownBlock := by
      have ha := World.grownBy_alloc W (.cells cs fr) v.ownBlock
      refine ⟨hg.os.trans ha.os, hg.tape.trans ha.tape, hg.output.trans ha.output, Nat.le_trans ha.size hg.size, fun k hk hkr => ?_⟩
      rw [hg.block k (by simp; omega) hkr, ha.block k hk hkr]
    exact h v' w' ho' ((Below.refl base W).grown hg2 hbase (fun k hk => (hown.lt k hk).1))

/-- A row of one, new. -/
theorem own_new (W : World) (B : Nat) (hB : B ≤ W.heap.size) (e : TypeId) (L : List Value) (n : Nat) (hL : L.length = n) : (W.alloc (.cells L.toArray e)).ownsRow B e n (.slice (some ⟨W.heap.size, 0, none⟩) 1 1) 1 L :=
  ⟨by omega, .inr ⟨W.heap.size, 1, L.toArray, rfl, hB, heap_alloc_new W _, Nat.le_refl _, by unfold maxLen; omega, by simp [hL], by simp [← hL]⟩⟩
theorem nm_six (k : Int) : ∀ c ∈ nm k, c = 118 ∨ c = 116 ∨ c = 115 ∨ c = 97 ∨ c = 99 ∨ c = 100 := by unfold nm; (repeat' split) <;> decide
theorem vaL_ok (o : Op0) (ok : o.Ok) (c : Int) : (vaL c o).Ok := by
  unfold vaL
  (repeat' split) <;> refine ⟨?_, rep256⟩
  · exact ok.vol
  · exact ok.to
  · exact u64_lt _
  · exact u64_lt _
  · exact u64_lt _
  · exact Nat.two_pow_pos 64
theorem rangeLow {w w' : World} {B b o : Nat} {cs : List Value} (h : w.rangeAt b o cs) (hl : b < B) (hb : Below B w w') : w'.rangeAt b o cs :=
  fun j u hj => (hb.cell (p := ⟨b, o + j, none⟩) hl).trans (h j u hj)
end Go.Proofs.Ythkmihedkddnmaa
/- Plain: an operation that may be has bytes. -/
namespace Go.Proofs.Ythkmihedkddnmaa
open Go.RowKit
set_option linter.unusedVariables false
open Wire Cmd

theorem lay_n4 {n : Nat} (h : n < 4294967296) : ∃ a, lay 52 (num n) = some a := by
  have h2 : isNum 52 = true ∧ n < 256 ^ wid 52 := ⟨rfl, by rw [show wid 52 = 4 from rfl]; exact h⟩
  exact ⟨low n (wid 52), if_pos h2⟩
theorem toU_of {n : Int} (h1 : 0 ≤ n) (h2 : n < 18446744073709551616) : ((toU n : Nat) : Int) = n := by unfold toU; omega
theorem lay_six (o : Op0) (c : UInt8) (hc : c = 118 ∨ c = 116 ∨ c = 115 ∨ c = 97 ∨ c = 99 ∨ c = 100) (hw : wIn (c.toNat : Int) o = true) : ∃ a, lay (shL (c.toNat : Int)) (vaL (c.toNat : Int) o) = some a := by
  rcases hc with rfl | rfl | rfl | rfl | rfl | rfl
  · have h : (decide (1 ≤ o.vol) && decide (o.vol < 4294967296)) = true := hw
    simp only [Bool.and_eq_true, decide_eq_true_eq] at h
    exact lay_n4 (n := o.vol) h.2
  · have h : (decide (1 ≤ o.to) && decide (o.to < 4294967296) && (o.to != o.vol)) = true := hw
    simp only [Bool.and_eq_true, decide_eq_true_eq] at h
    exact lay_n4 (n := o.to) h.1.2
  · have h : (decide (0 ≤ o.size) && decide (o.size ≤ 256)) = true := hw
    simp only [Bool.and_eq_true, decide_eq_true_eq] at h
    have := toU_of h.1 (by omega)
    exact lay_n4 (n := toU o.size) (by omega)
  · have h : (decide (0 ≤ o.pl) && decide (o.pl ≤ 1048576)) = true := hw
    simp only [Bool.and_eq_true, decide_eq_true_eq] at h
    have := toU_of h.1 (by omega)
    exact lay_n4 (n := toU o.pl) (by omega)
  · have h : (decide (1 ≤ o.count) && decide (o.count ≤ 1024)) = true := hw
    simp only [Bool.and_eq_true, decide_eq_true_eq] at h
    have := toU_of (n := o.count) (by omega) (by omega)
    exact lay_n4 (n := toU o.count) (by omega)
  · have h : (decide (64 ≤ o.data.length) && decide (o.data.length % 64 = 0) && decide (o.data.length ≤ 2048)) = true := hw
    simp only [Bool.and_eq_true, decide_eq_true_eq] at h
    show ∃ a, lay 42 (blob o.data) = some a
    have h2 : (42 : UInt8) = 42 ∧ o.data.length ≤ 16777216 := ⟨rfl, Nat.le_trans h.2 (by decide)⟩
    exact ⟨low o.data.length 4 ++ o.data, if_pos h2⟩
theorem pack_all (o : Op0) : ∀ l : List UInt8, (∀ c ∈ l, ∃ a, lay (shL (c.toNat : Int)) (vaL (c.toNat : Int) o) = some a) → ∃ bs, pack (shS l) (vals o l) = some bs
  | [], _ => ⟨[], rfl⟩
  | c :: l, h => by
    obtain ⟨a, ha⟩ := h c (by simp)
    obtain ⟨bs, hb⟩ := pack_all o l (fun d hd => h d (by simp [hd]))
    refine ⟨a ++ bs, ?_⟩
    show (lay (shL (c.toNat : Int)) (vaL (c.toNat : Int) o)).bind (fun a => (pack (shS l) (vals o l)).map (a ++ ·)) = _
    rw [ha, hb]; rfl
theorem mayO_parts {o : Op0} (h : mayO o = true) : (∀ c ∈ nm o.k, wIn (c.toNat : Int) o = true) ∧ 1 ≤ o.k ∧ o.k ≤ 9 := by
  unfold mayO at h
  simp only [Bool.and_eq_true, decide_eq_true_eq, List.all_eq_true] at h
  exact ⟨h.1.1, h.1.2.1, h.1.2.2⟩
/-- An operation that may be has bytes. -/
theorem packO_some {o : Op0} (h : mayO o = true) : ∃ bs, packO o = some bs ∧ pack (49 :: shS (nm o.k)) (num (toU o.k) :: vals o (nm o.k)) = some bs := by
  obtain ⟨h1, h2, h3⟩ := mayO_parts h
  obtain ⟨bs, hb⟩ := pack_all o (nm o.k) (fun c hc => lay_six o c (nm_six o.k c hc) (h1 c hc))
  have hk := toU_of (n := o.k) (by omega) (by omega)
  have hl : lay 49 (num (toU o.k)) = some (low (toU o.k) 1) := by
    have h4 : isNum 49 = true ∧ toU o.k < 256 ^ wid 49 := ⟨rfl, by rw [show wid 49 = 1 from rfl]; omega⟩
    exact if_pos h4
  have hp : pack (49 :: shS (nm o.k)) (num (toU o.k) :: vals o (nm o.k)) = some (low (toU o.k) 1 ++ bs) := by
    show (lay 49 (num (toU o.k))).bind (fun a => (pack (shS (nm o.k)) (vals o (nm o.k))).map (a ++ ·)) = _
    rw [hl, hb]; rfl
  exact ⟨_, by unfold packO; rw [if_pos h]; exact hp, hp⟩
theorem packO_none {o : Op0} (h : mayO o = false) : packO o = none := by unfold packO; rw [h]; rfl
theorem mayO_len {o : Op0} (h : mayO o = true) (hn : o.data.length ≤ 2048) : o.data.length ≤ 3000 := by omega
end Go.Proofs.Ythkmihedkddnmaa
/- A slice of several elements of many cells, made in place. -/
namespace Go.Proofs.Ythkmihedkddnmaa
open Go.RowKit
set_option linter.unusedVariables false
set_option linter.unusedSimpArgs false

theorem fold_part (o : Nat) (A : Array Value) (L : List Value) (h : o + L.length ≤ A.size) : (Array.foldl (fun (cs : Array Value) (x : Value × Nat) => cs.setIfInBounds (o + x.snd) x.fst) A L.toArray.zipIdx 0 L.toArray.zipIdx.size).toList = A.toList.take o ++ L ++ A.toList.drop (o + L.length) := by
  have hzi : L.toArray.zipIdx = (L.zipIdx 0).toArray := by apply Array.toList_inj.1; simp
  rw [hzi, List.foldl_toArray' _ _ _ (by simp)]
  have h1 := foldl_sets o L 0 A (by omega)
  rw [h1]
  simp
theorem fill_many (n : Nat) : ∀ (Ls : List (List Value)) (k : Nat) (A : Array Value), (∀ L ∈ Ls, L.length = n) → A.size = (k + Ls.length) * n →
    Instr.fill (fun i => some (i * n, n)) A ((Ls.zipIdx k).map fun p => (p.2, Value.agg p.1.toArray)) = some (A.toList.take (k * n) ++ Ls.flatten).toArray
  | [], k, A, _, h => by
    have e : A.toList.take (k * n) = A.toList := List.take_of_length_le (by rw [Array.length_toList, h]; simp)
    simp [Instr.fill, e]
  | L :: Ls, k, A, hL, h => by
    have hl : L.length = n := hL L (by simp)
    rw [List.length_cons] at h
    have hsz : k * n + n ≤ A.size := by
      rw [h, Nat.add_mul, Nat.add_mul, Nat.one_mul]; omega
    rw [List.zipIdx_cons, List.map_cons]
    unfold Instr.fill
    have e1 : (Value.agg L.toArray).cells = L.toArray := rfl
    simp only [e1, List.size_toArray, hl]
    rw [if_neg (by simp; omega)]
    have hA := fold_part (k * n) A L (by omega)
    generalize Array.foldl (fun (cs : Array Value) (x : Value × Nat) => cs.setIfInBounds (k * n + x.snd) x.fst) A L.toArray.zipIdx 0 L.toArray.zipIdx.size = A2 at hA ⊢
    have hs2 : A2.size = A.size := by
      rw [← Array.length_toList, hA]
      simp only [List.length_append, List.length_take, List.length_drop, Array.length_toList]
      omega
    have ih := fill_many n Ls (k + 1) A2 (fun l h => hL l (by simp [h])) (by rw [hs2, h]; congr 1; omega)
    rw [ih, hA]
    congr 2
    rw [List.flatten_cons, ← List.append_assoc, Nat.add_mul, Nat.one_mul]
    congr 1
    rw [List.take_append_of_le_length (by simp only [List.length_append, List.length_take, Array.length_toList]; omega)]
    exact List.take_of_length_le (by simp only [List.length_append, List.length_take, Array.length_toList]; omega)

theorem run_buildSlice_many {P : Program} (w : World) (t e : TypeId) (n : Nat) (z : Value) (Ls : List (List Value)) (m : Nat) (parts : Array (Nat × Value)) (hp : parts.toList = (Ls.zipIdx 0).map fun p => (p.2, Value.agg p.1.toArray)) (ht : P.underlying t = some (.slice e)) (hi : (P.info? e).map (fun i => (i.zero, i.size)) = some (some z, n)) (hz : z.cells.size = n) (hL : ∀ L ∈ Ls, L.length = n) (hm : Ls.length = m) (hn : 0 < n) (hn2 : n ≤ 1000) (hm0 : 0 < m) (hm2 : m ≤ 10) :
    (Instr.buildSlice t m parts).run P w = .ok (.slice (some ⟨w.heap.size, 0, none⟩) m m) (w.alloc (.cells Ls.flatten.toArray e)) := by
  cases hq : P.info? e with
  | none => rw [hq] at hi; cases hi
  | some i =>
    rw [hq] at hi
    simp only [Option.map_some, Option.some.injEq, Prod.mk.injEq] at hi
    obtain ⟨h1, h2⟩ := hi
    have hs : ∀ W, (sizeOf e).run P W = .ok n W := fun W => by simp [sizeOf, typeInfo, hq, h2]
    have hzv : ∀ W, (zeroValue e).run P W = .ok z W := fun W => by simp [zeroValue, typeInfo, hq, h1]
    have hf : ∀ A : Array Value, A.size = m * n → Instr.fill (fun i => some (i * n, n)) A parts.toList = some Ls.flatten.toArray := by
      intro A hA
      rw [hp, fill_many n Ls 0 A hL (by rw [hm, hA, Nat.zero_add])]
      simp
    have hmn : m * n ≤ 10 * 1000 := Nat.mul_le_mul hm2 hn2
    have hmn0 : 0 < m * n := Nat.mul_pos hm0 hn
    unfold Instr.buildSlice
    rw [Sem.run_bind, run_underlying ht w]
    simp only [Result.andThen_ok, Sem.run_bind, hs]
    rw [if_neg (by omega)]
    have hn0 : ¬ m * n = 0 := by omega
    simp only [hn0, if_false, Sem.run_bind, hzv, Result.andThen_ok, Sem.run_pure]
    rw [hf _ (by simp)]
    rfl

theorem wpList_buildN {P : Program} {ops : Array Oper} {rest : List Oper} {o : Oper} {a : Act} {Q : Exit → Act → World → Prop} {w : World} (hgd : o.guard = none) (xs : Array (Nat × Operand)) (t e : TypeId) (n : Nat) (z : Value) (Ls : List (List Value)) (m : Nat)
    (ho : o.op = .buildSlice t m xs) (hx : (xs.map fun (p : Nat × Operand) => (p.1, a.eval p.2)).toList = (Ls.zipIdx 0).map fun p => (p.2, Value.agg p.1.toArray)) (ht : P.underlying t = some (.slice e)) (hi : (P.info? e).map (fun i => (i.zero, i.size)) = some (some z, n)) (hz : z.cells.size = n) (hL : ∀ L ∈ Ls, L.length = n) (hm : Ls.length = m) (hn : 0 < n) (hn2 : n ≤ 1000) (hm0 : 0 < m) (hm2 : m ≤ 10)
    (h : wpList P ops Q rest (a.put o.dst (.slice (some ⟨w.heap.size, 0, none⟩) m m)) (w.alloc (.cells Ls.flatten.toArray e))) : wpList P ops Q (o :: rest) a w := by
  refine wpList_plain hgd fun K hK => ?_
  have hrun := run_buildSlice_many (P := P) w t e n z Ls m _ hx ht hi hz hL hm hn hn2 hm0 hm2
  unfold Oper.wp execOp
  simp only [ho, Sem.run_bind, hrun, Result.andThen_ok, Sem.run_pure]
  exact hK _ _ h
theorem wp_buildN {P : Program} {o : Oper} {a : Act} {K : Act → World → Prop} {Q : Exit → Act → World → Prop} {w : World} (xs : Array (Nat × Operand)) (t e : TypeId) (n : Nat) (z : Value) (Ls : List (List Value)) (m : Nat)
    (ho : o.op = .buildSlice t m xs) (hx : (xs.map fun (p : Nat × Operand) => (p.1, a.eval p.2)).toList = (Ls.zipIdx 0).map fun p => (p.2, Value.agg p.1.toArray)) (ht : P.underlying t = some (.slice e)) (hi : (P.info? e).map (fun i => (i.zero, i.size)) = some (some z, n)) (hz : z.cells.size = n) (hL : ∀ L ∈ Ls, L.length = n) (hm : Ls.length = m) (hn : 0 < n) (hn2 : n ≤ 1000) (hm0 : 0 < m) (hm2 : m ≤ 10)
    (h : ∀ W, W = w.alloc (.cells Ls.flatten.toArray e) → K (a.put o.dst (.slice (some ⟨w.heap.size, 0, none⟩) m m)) W) : o.wp P a w K Q := by
  have hrun := run_buildSlice_many (P := P) w t e n z Ls m _ hx ht hi hz hL hm hn hn2 hm0 hm2
  unfold Oper.wp execOp
  simp only [ho, Sem.run_bind, hrun, Result.andThen_ok, Sem.run_pure]
  exact h _ rfl
/-- A row of many, new. -/
theorem own_newN (W : World) (B : Nat) (hB : B ≤ W.heap.size) (e : TypeId) (L : List Value) (n m : Nat) (hL : L.length = m * n) (hm : m ≤ 10) : (W.alloc (.cells L.toArray e)).ownsRow B e n (.slice (some ⟨W.heap.size, 0, none⟩) m m) m L :=
  ⟨by rw [hL], .inr ⟨W.heap.size, m, L.toArray, rfl, hB, heap_alloc_new W _, Nat.le_refl _, by unfold maxLen; omega, by simp [hL], by simp [← hL]⟩⟩
end Go.Proofs.Ythkmihedkddnmaa
/- The reference's Pack, walked. -/
namespace Go.Proofs.Ythkmihedkddnmaa
open Go.RowKit
set_option linter.unusedVariables false
set_option linter.unusedSimpArgs false
open Wire Cmd

end Go.Proofs.Ythkmihedkddnmaa
/- What an operation is answered: plain Lean (no program). -/
namespace Go.Proofs.Ythkmihedkddnmaa
open Go.RowKit
set_option linter.unusedVariables false
open Wire Cmd
namespace Cmd
/-- An answer. -/
structure Ans0 where
  code : Int
  done : Int
  data : List UInt8
deriving DecidableEq
def ansEq (a b : Ans0) : Bool := decide (a = b)
theorem ansEq_no {a b : Ans0} (h : a ≠ b) : ansEq a b = false := decide_eq_false h
theorem ansEq_yes {a b : Ans0} (h : a = b) : ansEq a b = true := decide_eq_true h
theorem ansEq_iff {a b : Ans0} : ansEq a b = true ↔ a = b := by unfold ansEq; exact decide_eq_true_iff
structure Ans0.Ok (a : Ans0) : Prop where
  code : -9223372036854775808 ≤ a.code ∧ a.code ≤ 9223372036854775807
  done : -9223372036854775808 ≤ a.done ∧ a.done ≤ 9223372036854775807
/-- May an answer be? -/
def MayA (a : Ans0) : Prop := 0 ≤ a.code ∧ a.code ≤ 14 ∧ 0 ≤ a.done ∧ a.done ≤ 1024 ∧ (a.done = 0 ∨ a.code = 8) ∧ a.data.length % 64 = 0 ∧ a.data.length ≤ 65536 ∧ (a.code = 0 ∨ a.data.length = 0)
instance (a : Ans0) : Decidable (MayA a) := by unfold MayA; infer_instance
def mayA (a : Ans0) : Bool := decide (MayA a)
theorem mayA_iff {a : Ans0} : mayA a = true ↔ MayA a := by unfold mayA; exact decide_eq_true_iff
theorem mayA_no {a : Ans0} (h : ¬ MayA a) : mayA a = false := decide_eq_false h
theorem mayA_yes {a : Ans0} (h : MayA a) : mayA a = true := decide_eq_true h
/-- An answer's bytes; none: it may not be. -/
def packA (a : Ans0) : Option (List UInt8) := if mayA a then pack [49, 52, 42] [num (toU a.code), num (toU a.done), blob a.data] else none
end Cmd
theorem lay_n1 {n : Nat} (h : n < 256) : lay 49 (num n) = some [UInt8.ofNat n] := by
  have h2 : isNum 49 = true ∧ n < 256 ^ wid 49 := ⟨rfl, by rw [show wid 49 = 1 from rfl]; omega⟩
  have h3 : lay 49 (num n) = some (low n (wid 49)) := if_pos h2
  rw [h3, show wid 49 = 1 from rfl]
  show some [UInt8.ofNat (n % 256)] = _
  rw [Nat.mod_eq_of_lt h]
theorem lay_b42 {l : List UInt8} (h : l.length ≤ 16777216) : lay 42 (blob l) = some (low l.length 4 ++ l) := by
  have h2 : (42 : UInt8) = 42 ∧ l.length ≤ 16777216 := ⟨rfl, h⟩
  exact if_pos h2
/-- An answer that may be has bytes. -/
theorem packA_some {a : Ans0} (h : mayA a = true) : ∃ bs, packA a = some bs ∧ pack [49, 52, 42] [num (toU a.code), num (toU a.done), blob a.data] = some bs := by
  have hm := mayA_iff.1 h
  obtain ⟨h1, h2, h3, h4, h5, h6, h7, h8⟩ := hm
  have e1 := toU_of (n := a.code) (by omega) (by omega)
  have e2 := toU_of (n := a.done) (by omega) (by omega)
  obtain ⟨b2, hb2⟩ := lay_n4 (n := toU a.done) (by omega)
  have hp : pack [49, 52, 42] [num (toU a.code), num (toU a.done), blob a.data] = some ([UInt8.ofNat (toU a.code)] ++ (b2 ++ ((low a.data.length 4 ++ a.data) ++ []))) := by
    simp only [pack, lay_n1 (n := toU a.code) (by omega), hb2, lay_b42 (l := a.data) (by omega), Option.bind_some, Option.map_some]
  exact ⟨_, by unfold packA; rw [if_pos h]; exact hp, hp⟩
theorem packA_none {a : Ans0} (h : mayA a = false) : packA a = none := by unfold packA; rw [h]; rfl
end Go.Proofs.Ythkmihedkddnmaa
/- SameAnswer of both, the reference's MayAnswer, walked. -/
namespace Go.Proofs.Ythkmihedkddnmaa
open Go.RowKit
set_option linter.unusedVariables false
set_option linter.unusedSimpArgs false
open Wire Cmd

/-- An answer's cells; by value. -/
def aC (a : Ans0) (sl : Value) : Array Value := #[.int .i64 a.code, .int .i64 a.done, sl]
end Go.Proofs.Ythkmihedkddnmaa
/- MayAnswer, walked. -/
namespace Go.Proofs.Ythkmihedkddnmaa
open Go.RowKit
set_option linter.unusedVariables false
set_option linter.unusedSimpArgs false
open Wire Cmd

end Go.Proofs.Ythkmihedkddnmaa
/- CopyAnswer, AnswerBytes, the reference's PackAnswer, walked. -/
namespace Go.Proofs.Ythkmihedkddnmaa
open Go.RowKit
set_option linter.unusedVariables false
set_option linter.unusedSimpArgs false
open Wire Cmd
theorem infoAn : (Try.prog.info? 35).map (·.size) = some 3 := by kernel_rfl

theorem packA_len {a : Ans0} (h : mayA a = true) : a.data.length ≤ 65536 := (mayA_iff.1 h).2.2.2.2.2.2.1
end Go.Proofs.Ythkmihedkddnmaa
/- The reference's PackAnswer, walked. -/
namespace Go.Proofs.Ythkmihedkddnmaa
open Go.RowKit
set_option linter.unusedVariables false
set_option linter.unusedSimpArgs false
open Wire Cmd

end Go.Proofs.Ythkmihedkddnmaa
/- What bytes are: an operation, an answer: plain Lean (no program). -/
namespace Go.Proofs.Ythkmihedkddnmaa
set_option linter.unusedVariables false
open Wire Cmd
namespace Cmd
/-- An operation with what a letter stands for. -/
def getL (o : Op0) (c : UInt8) (v : V) : Op0 :=
  if c = 118 then { o with vol := v.n } else if c = 116 then ⟨o.k, o.vol, v.n, o.size, o.pl, o.count, o.data⟩ else if c = 115 then { o with size := (v.n : Int) }
  else if c = 97 then { o with pl := (v.n : Int) } else if c = 99 then { o with count := (v.n : Int) } else { o with data := v.b }
def getAll : Op0 → List UInt8 → List V → Op0
  | o, c :: cs, v :: vs => getAll (getL o c v) cs vs
  | o, _, _ => o
def kind0 (k : UInt8) : Op0 := ⟨(k.toNat : Int), 0, 0, 0, 0, 0, []⟩
/-- The operation of bytes; none: none's. -/
def ofO : List UInt8 → Option Op0
  | [] => none
  | k :: r => (unpack (shS (nm (k.toNat : Int))) r).bind fun p =>
    if p.2 = r.length then (if mayO (getAll (kind0 k) (nm (k.toNat : Int)) p.1) then some (getAll (kind0 k) (nm (k.toNat : Int)) p.1) else none) else none
/-- The answer of values. -/
def ansV : List V → Option Ans0
  | [x, y, z] => if mayA ⟨(x.n : Int), (y.n : Int), z.b⟩ then some ⟨(x.n : Int), (y.n : Int), z.b⟩ else none
  | _ => none
/-- The answer of bytes; none: none's. -/
def ofA (b : List UInt8) : Option Ans0 := (unpack [49, 52, 42] b).bind fun p => if p.2 = b.length then ansV p.1 else none
end Cmd

theorem getAll_k : ∀ (cs : List UInt8) (l : List V) (o : Op0), (getAll o cs l).k = o.k
  | [], _, _ => by unfold getAll; rfl
  | _ :: _, [], _ => by unfold getAll; rfl
  | c :: cs, v :: vs, o => by
    rw [getAll, getAll_k cs vs]
    unfold getL
    (repeat' split) <;> rfl
theorem same_num {v : V} {n : Nat} (h : SameV v (num n)) : v.n = n := by
  obtain ⟨h1, h2⟩ := h
  have e : v.letter = 56 := h1
  rcases h2 with h | h | h | h
  · exact h.2
  · exact absurd (e.symm.trans h.1) (by decide)
  · exact absurd (e.symm.trans h.1) (by decide)
  · exact absurd (e.symm.trans h.1) (by decide)
theorem same_blob {v : V} {l : List UInt8} (h : SameV v (blob l)) : v.b = l := by
  obtain ⟨h1, h2⟩ := h
  have e : v.letter = 42 := h1
  rcases h2 with h | h | h | h
  · exact absurd (e.symm.trans h.1) (by decide)
  · exact absurd (e.symm.trans h.1) (by decide)
  · exact h.2
  · exact absurd (e.symm.trans h.1) (by decide)
def six (c : UInt8) : Prop := c = 118 ∨ c = 116 ∨ c = 115 ∨ c = 97 ∨ c = 99 ∨ c = 100
theorem getL_setL (o b : Op0) (c : UInt8) (v : V) (hc : six c) (hw : wIn (c.toNat : Int) o = true) (hv : SameV v (vaL (c.toNat : Int) o)) : getL b c v = setL b (c.toNat : Int) o := by
  rcases hc with rfl | rfl | rfl | rfl | rfl | rfl
  · have e := same_num (n := o.vol) hv
    show ({ b with vol := v.n } : Op0) = { b with vol := o.vol }
    rw [e]
  · have e := same_num (n := o.to) hv
    show (⟨b.k, b.vol, v.n, b.size, b.pl, b.count, b.data⟩ : Op0) = ⟨b.k, b.vol, o.to, b.size, b.pl, b.count, b.data⟩
    rw [e]
  · have e := same_num (n := toU o.size) hv
    have h : (decide (0 ≤ o.size) && decide (o.size ≤ 256)) = true := hw
    simp only [Bool.and_eq_true, decide_eq_true_eq] at h
    show ({ b with size := (v.n : Int) } : Op0) = { b with size := o.size }
    rw [e, toU_of h.1 (by omega)]
  · have e := same_num (n := toU o.pl) hv
    have h : (decide (0 ≤ o.pl) && decide (o.pl ≤ 1048576)) = true := hw
    simp only [Bool.and_eq_true, decide_eq_true_eq] at h
    show ({ b with pl := (v.n : Int) } : Op0) = { b with pl := o.pl }
    rw [e, toU_of h.1 (by omega)]
  · have e := same_num (n := toU o.count) hv
    have h : (decide (1 ≤ o.count) && decide (o.count ≤ 1024)) = true := hw
    simp only [Bool.and_eq_true, decide_eq_true_eq] at h
    show ({ b with count := (v.n : Int) } : Op0) = { b with count := o.count }
    rw [e, toU_of (by omega) (by omega)]
  · have e := same_blob (l := o.data) hv
    show ({ b with data := v.b } : Op0) = { b with data := o.data }
    rw [e]
theorem getAll_bare (o : Op0) : ∀ (cs : List UInt8) (l : List V) (b : Op0), SameVs l (vals o cs) → (∀ c ∈ cs, six c ∧ wIn (c.toNat : Int) o = true) → getAll b cs l = cs.foldl (fun b c => setL b (c.toNat : Int) o) b
  | [], l, b, _, _ => by unfold getAll; rfl
  | c :: cs, l, b, hs, hc => by
    cases l with
    | nil => exact absurd hs.1 (by simp [vals])
    | cons v vs =>
      rw [getAll, List.foldl_cons, getL_setL o b c v (hc c (by simp)).1 (hc c (by simp)).2 (hs.2 0 v _ rfl rfl)]
      refine getAll_bare o cs vs _ ⟨?_, fun j x y h1 h2 => hs.2 (j + 1) x y (by simpa using h1) (by simpa [vals] using h2)⟩ fun d hd => hc d (by simp [hd])
      have := hs.1
      simp [vals] at this ⊢
      omega
theorem vals_x (o : Op0) (l : List UInt8) : ∀ v ∈ vals o l, v.x.length = 256 := by
  intro v hv
  obtain ⟨c, _, rfl⟩ := List.mem_map.1 hv
  unfold vaL
  (repeat' split) <;> exact List.length_replicate
theorem packO_parts {o : Op0} {bs : List UInt8} (h : packO o = some bs) : mayO o = true ∧ ∃ r, bs = UInt8.ofNat (toU o.k) :: r ∧ pack (shS (nm o.k)) (vals o (nm o.k)) = some r := by
  cases hm : mayO o with
  | false => rw [packO_none hm] at h; cases h
  | true =>
    obtain ⟨bs', h1, h2⟩ := packO_some hm
    rw [h] at h1
    obtain rfl := Option.some.inj h1
    obtain ⟨_, k1, k2⟩ := mayO_parts hm
    have hk := toU_of (n := o.k) (by omega) (by omega)
    refine ⟨rfl, ?_⟩
    rw [pack, lay_n1 (by omega), Option.bind_some] at h2
    cases hp : pack (shS (nm o.k)) (vals o (nm o.k)) with
    | none => rw [hp] at h2; cases h2
    | some r => rw [hp] at h2; exact ⟨r, (Option.some.inj h2).symm, rfl⟩
/-- What was packed is read as it was. -/
theorem ofO_packO {o : Op0} {bs : List UInt8} (h : packO o = some bs) : ofO bs = some o := by
  obtain ⟨hm, r, rfl, hp⟩ := packO_parts h
  obtain ⟨h1, k1, k2⟩ := mayO_parts hm
  have hk := toU_of (n := o.k) (by omega) (by omega)
  have hk2 : (UInt8.ofNat (toU o.k)).toNat = toU o.k := by rw [UInt8.toNat_ofNat']; omega
  obtain ⟨_, l', hu, hs⟩ := unpack_pack _ _ _ (vals_x o _) hp []
  rw [List.append_nil] at hu
  have hg := getAll_bare o (nm o.k) l' (bare0 o) hs (fun c hc => ⟨nm_six o.k c hc, h1 c hc⟩)
  have hb : bare o (nm o.k) = o := by
    unfold mayO at hm
    simp only [Bool.and_eq_true] at hm
    exact (opEq_iff.1 hm.2).symm
  have hk0 : kind0 (UInt8.ofNat (toU o.k)) = bare0 o := by unfold kind0 bare0; rw [hk2, hk]
  rw [ofO, hk2, hk, hu, Option.bind_some, if_pos rfl, hk0, hg]
  show (if mayO (bare o (nm o.k)) = true then some (bare o (nm o.k)) else none) = _
  rw [hb, if_pos hm]
/-- Unlike ones have unlike bytes. -/
theorem packO_inj {o p : Op0} {x y : List UInt8} (ho : packO o = some x) (hp : packO p = some y) : (x == y) = opEq o p := by
  by_cases h : o = p
  · subst h
    rw [ho] at hp
    obtain rfl := Option.some.inj hp
    rw [opEq_yes rfl]; simp
  · rw [opEq_no h, beq_eq_false_iff_ne]
    rintro rfl
    have := (ofO_packO ho).symm.trans (ofO_packO hp)
    exact h (Option.some.inj this)
/-- What a letter's value is. -/
def ValOf (c : UInt8) (v : V) : Prop := (shL (c.toNat : Int) = 52 ∧ v = num v.n ∧ v.n < 4294967296) ∨ (shL (c.toNat : Int) = 42 ∧ v = blob v.b)
theorem lift_52 {b : List UInt8} {v : V} {k : Nat} (h : lift 52 b = some (v, k)) : v = num v.n ∧ v.n < 4294967296 := by
  unfold lift at h
  split at h
  · cases h
  · rename_i hl
    rw [if_neg (by decide), if_neg (by decide), if_neg (by decide)] at h
    obtain ⟨rfl, rfl⟩ := Prod.mk.inj (Option.some.inj h)
    refine ⟨rfl, ?_⟩
    have := sum_take_pow b (wid 52) (by omega)
    exact this
theorem lift_42 {b : List UInt8} {v : V} {k : Nat} (h : lift 42 b = some (v, k)) : v = blob v.b := by
  unfold lift at h
  split at h
  · cases h
  · rw [if_neg (by decide), if_pos rfl] at h
    split at h
    · cases h
    · obtain ⟨rfl, rfl⟩ := Prod.mk.inj (Option.some.inj h)
      rfl
theorem shL_or (c : Int) : shL c = 52 ∨ shL c = 42 := by unfold shL; split <;> simp
theorem may_shS (cs : List UInt8) : may (shS cs) = true := by
  unfold may shS
  rw [List.all_eq_true]
  intro x hx
  obtain ⟨c, _, rfl⟩ := List.mem_map.1 hx
  rcases shL_or (c.toNat : Int) with h | h <;> rw [h] <;> decide
inductive VTs : List UInt8 → List V → Prop
  | nil : VTs [] []
  | cons {c : UInt8} {cs : List UInt8} {v : V} {vs : List V} : ValOf c v → VTs cs vs → VTs (c :: cs) (v :: vs)
theorem unpackT : ∀ (cs : List UInt8) (r : List UInt8) (l : List V) (n : Nat), unpack (shS cs) r = some (l, n) → VTs cs l
  | [], r, l, n, h => by
    obtain ⟨rfl, rfl⟩ := Prod.mk.inj (Option.some.inj h)
    exact .nil
  | c :: cs, r, l, n, h => by
    have e : shS (c :: cs) = shL (c.toNat : Int) :: shS cs := rfl
    rw [e, unpack] at h
    cases hl : lift (shL (c.toNat : Int)) r with
    | none => rw [hl] at h; cases h
    | some p =>
      obtain ⟨v, k⟩ := p
      rw [hl, Option.bind_some] at h
      dsimp only at h
      cases hu : unpack (shS cs) (r.drop k) with
      | none => rw [hu] at h; cases h
      | some q =>
        obtain ⟨vs, m⟩ := q
        rw [hu] at h
        obtain ⟨rfl, rfl⟩ := Prod.mk.inj (Option.some.inj h)
        refine .cons ?_ (unpackT cs _ _ _ hu)
        rcases shL_or (c.toNat : Int) with h1 | h1
        · rw [h1] at hl; exact .inl ⟨h1, lift_52 hl⟩
        · rw [h1] at hl; exact .inr ⟨h1, lift_42 hl⟩
theorem toU_nat {n : Nat} (h : n < 4294967296) : toU (n : Int) = n := by unfold toU; omega
theorem valN {c : UInt8} {v : V} (h : ValOf c v) (hc : shL (c.toNat : Int) = 52) : v = num v.n ∧ toU (v.n : Int) = v.n := by
  rcases h with h | h
  · exact ⟨h.2.1, toU_nat h.2.2⟩
  · rw [hc] at h; exact absurd h.1 (by decide)
theorem valB {c : UInt8} {v : V} (h : ValOf c v) (hc : shL (c.toNat : Int) = 42) : v = blob v.b := by
  rcases h with h | h
  · rw [hc] at h; exact absurd h.1 (by decide)
  · exact h.2
theorem nm_cases (k : Int) : nm k = [118, 115] ∨ nm k = [118] ∨ nm k = [118, 116] ∨ nm k = [118, 97, 100] ∨ nm k = [118, 97, 99] ∨ nm k = [] := by
  unfold nm; (repeat' split) <;> simp
theorem vals_getAll (b : Op0) (k : Int) (l : List V) (h : VTs (nm k) l) : vals (getAll b (nm k) l) (nm k) = l := by
  rcases nm_cases k with e | e | e | e | e | e
  · rw [e] at h ⊢
    obtain _ | ⟨h1, _ | ⟨h2, _ | _⟩⟩ := h
    obtain ⟨e1, t1⟩ := valN h1 rfl
    obtain ⟨e2, t2⟩ := valN h2 rfl
    rename_i v1 v2
    show [num v1.n, num (toU (v2.n : Int))] = _
    rw [t2, ← e1, ← e2]
  · rw [e] at h ⊢
    obtain _ | ⟨h1, _ | _⟩ := h
    obtain ⟨e1, t1⟩ := valN h1 rfl
    rename_i v1
    show [num v1.n] = _
    rw [← e1]
  · rw [e] at h ⊢
    obtain _ | ⟨h1, _ | ⟨h2, _ | _⟩⟩ := h
    obtain ⟨e1, t1⟩ := valN h1 rfl
    obtain ⟨e2, t2⟩ := valN h2 rfl
    rename_i v1 v2
    show [num v1.n, num v2.n] = _
    rw [← e1, ← e2]
  · rw [e] at h ⊢
    obtain _ | ⟨h1, _ | ⟨h2, _ | ⟨h3, _ | _⟩⟩⟩ := h
    obtain ⟨e1, t1⟩ := valN h1 rfl
    obtain ⟨e2, t2⟩ := valN h2 rfl
    have e3 := valB h3 rfl
    rename_i v1 v2 v3
    show [num v1.n, num (toU (v2.n : Int)), blob v3.b] = _
    rw [t2, ← e1, ← e2, ← e3]
  · rw [e] at h ⊢
    obtain _ | ⟨h1, _ | ⟨h2, _ | ⟨h3, _ | _⟩⟩⟩ := h
    obtain ⟨e1, t1⟩ := valN h1 rfl
    obtain ⟨e2, t2⟩ := valN h2 rfl
    obtain ⟨e3, t3⟩ := valN h3 rfl
    rename_i v1 v2 v3
    show [num v1.n, num (toU (v2.n : Int)), num (toU (v3.n : Int))] = _
    rw [t2, t3, ← e1, ← e2, ← e3]
  · rw [e] at h ⊢
    obtain _ | _ := h
    rfl
/-- Bytes that are read are just those of what comes. -/
theorem packO_ofO {b : List UInt8} {d : Op0} (h : ofO b = some d) : packO d = some b := by
  cases b with
  | nil => cases h
  | cons k r =>
    rw [ofO] at h
    cases hu : unpack (shS (nm (k.toNat : Int))) r with
    | none => rw [hu] at h; cases h
    | some p =>
      obtain ⟨l, n⟩ := p
      rw [hu, Option.bind_some] at h
      by_cases hn : n = r.length
      · rw [if_pos hn] at h
        cases hm : mayO (getAll (kind0 k) (nm (k.toNat : Int)) l) with
        | false => rw [hm] at h; cases h
        | true =>
          rw [hm, if_pos rfl] at h
          obtain rfl := Option.some.inj h
          have hv := vals_getAll (kind0 k) (k.toNat : Int) l (unpackT _ _ _ _ hu)
          have hp := pack_unpack _ _ _ _ (may_shS _) hu
          have hk : (getAll (kind0 k) (nm (k.toNat : Int)) l).k = (k.toNat : Int) := getAll_k _ _ _
          rw [hn, List.take_length] at hp
          have hkl := k.toNat_lt
          unfold packO
          rw [if_pos hm, hk, hv, toU_nat (by omega), pack, lay_n1 (by omega), Option.bind_some, hp, UInt8.ofNat_toNat]
          rfl
      · rw [if_neg hn] at h; cases h
theorem packA_parts {a : Ans0} {bs : List UInt8} (h : packA a = some bs) : mayA a = true ∧ pack [49, 52, 42] [num (toU a.code), num (toU a.done), blob a.data] = some bs := by
  cases hm : mayA a with
  | false => rw [packA_none hm] at h; cases h
  | true =>
    obtain ⟨bs', h1, h2⟩ := packA_some hm
    rw [h] at h1
    obtain rfl := Option.some.inj h1
    exact ⟨rfl, h2⟩
theorem ofA_packA {a : Ans0} {bs : List UInt8} (h : packA a = some bs) : ofA bs = some a := by
  obtain ⟨hm, hp⟩ := packA_parts h
  obtain ⟨h1, h2, h3, h4, _⟩ := mayA_iff.1 hm
  obtain ⟨_, l', hu, hs⟩ := unpack_pack _ _ _ (fun v hv => by
    simp only [List.mem_cons, List.not_mem_nil, or_false] at hv
    rcases hv with rfl | rfl | rfl <;> exact List.length_replicate) hp []
  rw [List.append_nil] at hu
  have hl := hs.1
  match l', hl with
  | [x, y, z], _ =>
    have e1 := same_num (hs.2 0 x _ rfl rfl)
    have e2 := same_num (hs.2 1 y _ rfl rfl)
    have e3 := same_blob (hs.2 2 z _ rfl rfl)
    rw [ofA, hu, Option.bind_some, if_pos rfl, ansV, e1, e2, e3, toU_of h1 (by omega), toU_of h3 (by omega)]
    exact if_pos hm
/-- The letters of an answer's shape, as they were those of a kind. -/
theorem lift_49 {b : List UInt8} {v : V} {k : Nat} (h : lift 49 b = some (v, k)) : v = num v.n ∧ v.n < 256 := by
  unfold lift at h
  split at h
  · cases h
  · rename_i hl
    rw [if_neg (by decide), if_neg (by decide), if_neg (by decide)] at h
    obtain ⟨rfl, rfl⟩ := Prod.mk.inj (Option.some.inj h)
    refine ⟨rfl, ?_⟩
    have := sum_take_pow b (wid 49) (by omega)
    exact this
theorem unpack_cons {c : UInt8} {s b : List UInt8} {l : List V} {n : Nat} (h : unpack (c :: s) b = some (l, n)) : ∃ v k vs m, lift c b = some (v, k) ∧ unpack s (b.drop k) = some (vs, m) ∧ l = v :: vs ∧ n = k + m := by
  rw [unpack] at h
  cases hl : lift c b with
  | none => rw [hl] at h; cases h
  | some p =>
    obtain ⟨v, k⟩ := p
    rw [hl, Option.bind_some] at h
    dsimp only at h
    cases hu : unpack s (b.drop k) with
    | none => rw [hu] at h; cases h
    | some q =>
      obtain ⟨vs, m⟩ := q
      rw [hu] at h
      obtain ⟨rfl, rfl⟩ := Prod.mk.inj (Option.some.inj h)
      exact ⟨v, k, vs, m, rfl, hu, rfl, rfl⟩
theorem unpack_ans {b : List UInt8} {l : List V} {n : Nat} (h : unpack [49, 52, 42] b = some (l, n)) : ∃ p q d, l = [num p, num q, blob d] ∧ p < 256 ∧ q < 4294967296 ∧ d.length ≤ b.length := by
  have hbl := (unpack_blen _ _ _ _ h).1
  obtain ⟨v1, k1, l1, m1, e1, h1, q1, _⟩ := unpack_cons h
  obtain ⟨v2, k2, l2, m2, e2, h2, q2, _⟩ := unpack_cons h1
  obtain ⟨v3, k3, l3, m3, e3, h3, q3, _⟩ := unpack_cons h2
  obtain ⟨q4, _⟩ := Prod.mk.inj (Option.some.inj h3)
  subst q1 q2 q3
  subst q4
  obtain ⟨a1, b1⟩ := lift_49 e1
  obtain ⟨a2, b2⟩ := lift_52 e2
  have a3 := lift_42 e3
  exact ⟨v1.n, v2.n, v3.b, by rw [← a1, ← a2, ← a3], b1, b2, hbl v3 (by simp)⟩
theorem packA_ofA {b : List UInt8} {d : Ans0} (h : ofA b = some d) : packA d = some b := by
  rw [ofA] at h
  cases hu : unpack [49, 52, 42] b with
  | none => rw [hu] at h; cases h
  | some p =>
    obtain ⟨l, n⟩ := p
    rw [hu, Option.bind_some] at h
    by_cases hn : n = b.length
    · rw [if_pos hn] at h
      obtain ⟨x, y, z, rfl, hx, hy, _⟩ := unpack_ans hu
      have hp := pack_unpack _ _ _ _ (by decide) hu
      rw [hn, List.take_length] at hp
      have h' : (if mayA ⟨(x : Int), (y : Int), z⟩ then some (⟨(x : Int), (y : Int), z⟩ : Ans0) else none) = some d := h
      cases hm : mayA ⟨(x : Int), (y : Int), z⟩ with
      | false => rw [hm] at h'; cases h'
      | true =>
        rw [hm, if_pos rfl] at h'
        obtain rfl := Option.some.inj h'
        unfold packA
        rw [if_pos hm, toU_nat (by omega), toU_nat hy]
        exact hp
    · rw [if_neg hn] at h; cases h
end Go.Proofs.Ythkmihedkddnmaa
