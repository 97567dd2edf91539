import Derived.Maps.OwnSet
import Derived.Test.YtgmahhdnjikdjaaGreatPG16
import Derived.Test.YtgmahhdnjikdjaaGreatPG1
import Derived.Laws.Bits64b
import Derived.Test.YtgmahhdnjikdjaaGreatPG8
import Derived.Test.YtgmahhdnjikdjaaGreatPG10
import Derived.Test.YtgmahhdnjikdjaaGreatPG2
set_option linter.unusedVariables false
set_option linter.unusedSimpArgs false
/- Maps with integer keys, in memory, as lists by rising numbers. -/
namespace Go.Proofs.YtgmahhdnjikdjaaGreat
open Go.RowKit Go.Maps
set_option linter.unusedVariables false
set_option linter.unusedSimpArgs false
section
variable {α : Type} {P : Program} {k : TypeId} {R : Value → Option (DataW Unit × List MemPlace)} {q : IntKind} {f : α → DataW Unit}
/-- Block b is a map that reads as the list l. -/
def MapL (w : World) (P : Program) (k : TypeId) (R : Value → Option (DataW Unit × List MemPlace)) (q : IntKind) (f : α → DataW Unit) (b : Nat) (l : List (Nat × α)) : Prop := w.ownsMap P k R b l.length (encM q f l)
theorem mapL_of {w : World} {b n : Nat} {l : List (Nat × α)} (h : w.ownsMap P k R b n (encM q f l)) : MapL w P k R q f b l := by
 obtain ⟨es, clock, hb, F, hs, hD⟩ := h
 refine ⟨es, clock, hb, F, ?_, hD⟩
 have h1 := DataW.map.inj hD
 have h2 := congrArg List.length h1
 rw [length_read] at h2
 have h3 : (encA q f l).length = l.length := by simp [encA]
 omega
theorem mapL_new (w : World) (P : Program) (k : TypeId) (R : Value → Option (DataW Unit × List MemPlace)) (q : IntKind) (f : α → DataW Unit) : MapL (w.alloc (.map #[] 0)) P k R q f w.heap.size [] := World.ownsMap_made w P k R
theorem MapL.lt {w : World} {b : Nat} {l : List (Nat × α)} (h : MapL w P k R q f b l) : b < w.heap.size := World.ownsMap.lt h
theorem MapL.at_ {w w' : World} {b : Nat} {l : List (Nat × α)} (h : MapL w P k R q f b l) (hb : w'.heap[b]? = w.heap[b]?) : MapL w' P k R q f b l := by
 obtain ⟨es, clock, h1, h2⟩ := h
 exact ⟨es, clock, hb.trans h1, h2⟩
theorem MapL.below {w w' : World} {b : Nat} {l : List (Nat × α)} (h : MapL w P k R q f b l) (hb : Below w.heap.size w w') : MapL w' P k R q f b l := h.at_ (hb.block _ h.lt)
theorem MapL.mods {w w' : World} {F : List Nat} {b : Nat} {l : List (Nat × α)} (h : MapL w P k R q f b l) (hm : Mods F w w') (hb : b ∉ F) : MapL w' P k R q f b l := h.at_ (hm.block _ h.lt hb)
theorem keyL {P : Program} {k : TypeId} {q : IntKind} (hk : P.underlying k = some (.int q)) {n : Nat} (hw : (Lit.int q (n : Int)).wf = true) : keyOf P k (.int q (n : Int)) = some (.int q (n : Int)) := keyOf_int_mk hk hw
/-- Written. -/
theorem MapL.put {w : World} {b : Nat} {l : List (Nat × α)} (h : MapL w P k R q f b l) (hk : P.underlying k = some (.int q)) {t e : TypeId} (ht : P.underlying t = some (.map k e)) (hn : l.length < maxLen) {n : Nat} (hw : (Lit.int q (n : Int)).wf = true) {v : Value} {a : α} {ps : List MemPlace} (hv : R v = some (f a, ps)) :
  ∃ w', (Instr.mapUpdate t (.map (some b)) (.int q (n : Int)) v).run P w = .ok () w' ∧ MapL w' P k R q f b (putA n a l) ∧ Mods [b] w w' := by
 obtain ⟨w', h1, h2, h3⟩ := World.ownsMap.update h (int_keyed hk) ht hn (keyL hk hw) hv
 rw [put_enc] at h2
 exact ⟨w', h1, mapL_of h2, ⟨h3.os, h3.tape, h3.output, h3.size, fun i hi hne => h3.block i hi (fun e => hne (by simp [Option.some.inj e]))⟩⟩
theorem MapL.len {w : World} {b : Nat} {l : List (Nat × α)} (h : MapL w P k R q f b l) {t e : TypeId} (ht : P.underlying t = some (.map k e)) (ty : TypeId) : (Builtin.len_ #[t] ty #[.map (some b)]).run P w = .ok (.int .i64 (l.length : Int)) w := by
 have := World.ownsMap.len h ht ty
 rw [size_enc] at this
 exact this
end
end Go.Proofs.YtgmahhdnjikdjaaGreat
/- Nodes in memory; block.Copy, walked. -/
namespace Go.Proofs.YtgmahhdnjikdjaaGreat
open Go.RowKit Go.Maps Wire
set_option linter.unusedVariables false
set_option linter.unusedSimpArgs false
/-- A node. -/
structure Nd where
 k : Int
 b : Nat
 keys : List Nat
 vals : List Nat
/-- A node's cells: its slices lie at the head of a block, or are nil. -/
structure NdV where
 k : Int
 b : Nat
 g1 : Option Nat
 n1 : Nat
 c1 : Nat
 g2 : Option Nat
 n2 : Nat
 c2 : Nat
def slO (g : Option Nat) (n c : Nat) : Value := .slice (g.map fun g => ⟨g, 0, none⟩) n c
def ndL (x : NdV) : List Value := [.int .i64 x.k, .int .u64 (x.b : Int), slO x.g1 x.n1 x.c1, slO x.g2 x.n2 x.c2]
def ndA (x : NdV) : Value := .agg (ndL x).toArray
def optI : Option Nat → Int
 | none => -1
 | some b => (b : Int)
def ndD (x : NdV) : DataW Unit := .agg [.lit (.int .i64 x.k), .lit (.int .i64 (x.b : Int)), .lit (.int .i64 (optI x.g1)), .lit (.int .i64 (x.n1 : Int)), .lit (.int .i64 (x.c1 : Int)), .lit (.int .i64 (optI x.g2)), .lit (.int .i64 (x.n2 : Int)), .lit (.int .i64 (x.c2 : Int))]
open Classical in
/-- How a node, as a map's element, reads. -/
noncomputable def RNd (v : Value) : Option (DataW Unit × List MemPlace) := if h : ∃ x : NdV, v = ndA x then some (ndD h.choose, []) else none
/-- Numbers as cells. -/
def qV (l : List Nat) : List Value := l.map fun c => .int .u64 ((c : Nat) : Int)
/-- A node's rows are its keys and its values; they lie behind the base, apart. -/
structure NdAt (w : World) (base : Nat) (x : NdV) (y : Nd) : Prop where
 k : x.k = y.k
 b : x.b = y.b
 n1 : x.n1 = y.keys.length
 n2 : x.n2 = y.vals.length
 r1 : w.ownsRow base 26 1 (slO x.g1 x.n1 x.c1) y.keys.length (qV y.keys)
 r2 : w.ownsRow base 26 1 (slO x.g2 x.n2 x.c2) y.vals.length (qV y.vals)
 dj : ∀ j ∈ ob (slO x.g2 x.n2 x.c2), j ∉ ob (slO x.g1 x.n1 x.c1)
theorem NdAt.below {w w' : World} {base : Nat} {x : NdV} {y : Nd} (h : NdAt w base x y) (hb : Below w.heap.size w w') : NdAt w' base x y :=
 ⟨h.k, h.b, h.n1, h.n2, ownsRow_below h.r1 hb, ownsRow_below h.r2 hb, h.dj⟩
theorem infoU64 : (Tryz.prog.info? 26).map (fun i => (i.zero, i.size, i.bytes)) = some (some (.int .u64 0), 1, 8) := by kernel_rfl
/-- What Copy leaves. -/
def CopyP (w : World) (y : Nd) (e : Ending) (w' : World) : Prop := ∃ x, e = .returned (ndA x) ∧ NdAt w' w.heap.size x y ∧ Below w.heap.size w w'
end Go.Proofs.YtgmahhdnjikdjaaGreat
/- block.May, Find, walked. -/
namespace Go.Proofs.YtgmahhdnjikdjaaGreat
open Go.RowKit Go.Maps Wire
set_option linter.unusedVariables false
set_option linter.unusedSimpArgs false
/-- May a node be? -/
structure Nd.Ok (y : Nd) : Prop where
 k : 1 ≤ y.k ∧ y.k ≤ 3
 n : y.keys.length ≤ 6
 m : y.vals.length = y.keys.length
 up : ∀ (i a b : Nat), y.keys[i]? = some a → y.keys[i + 1]? = some b → a < b
 ku : ∀ x ∈ y.keys, x < 18446744073709551616
 vu : ∀ x ∈ y.vals, x < 18446744073709551616
/-- A key's place. -/
def findI (ks : List Nat) (x : Nat) : Nat := (ks.takeWhile (· < x)).length
/-- Keys that rise: those ahead of a place are below, the others are not. -/
def Rises (ks : List Nat) : Prop := ∀ (i j a b : Nat), i < j → ks[i]? = some a → ks[j]? = some b → a < b
end Go.Proofs.YtgmahhdnjikdjaaGreat
/- block: what is no node's (its kind is none's), walked: May, Block, Of. -/
namespace Go.Proofs.YtgmahhdnjikdjaaGreat
open Go.RowKit Wire
set_option linter.unusedVariables false
set_option linter.unusedSimpArgs false
set_option maxRecDepth 100000 in
set_option maxHeartbeats 6400000 in
theorem bmay_low (w : World) (kd : Int) (hk : kd < 1) (b : Int) (v1 v2 : Value) : Calls Tryz.prog 124 #[.agg #[.int .i64 kd, .int .u64 b, v1, v2]] w fun e w' => e = .returned (.bool false) ∧ Below w.heap.size w w' := by
 have HB1 : Hid (Below w.heap.size w (w.alloc (.cells #[.int .i64 kd, .int .u64 b, v1, v2] 159))) := Lib.hid (balloc (Below.refl _ _) _)
 go_enter Tryz.func124, Tryz.ntmps124
 go_wp2_with fail
 go_ret
 exact ⟨rfl, HB1.out⟩
set_option maxRecDepth 100000 in
set_option maxHeartbeats 6400000 in
theorem bmay_high (w : World) (kd : Int) (hk : 3 < kd) (b : Int) (v1 v2 : Value) : Calls Tryz.prog 124 #[.agg #[.int .i64 kd, .int .u64 b, v1, v2]] w fun e w' => e = .returned (.bool false) ∧ Below w.heap.size w w' := by
 have HB1 : Hid (Below w.heap.size w (w.alloc (.cells #[.int .i64 kd, .int .u64 b, v1, v2] 159))) := Lib.hid (balloc (Below.refl _ _) _)
 go_enter Tryz.func124, Tryz.ntmps124
 go_wp2_with fail
 go_ret
 exact ⟨rfl, HB1.out⟩
theorem bmay_kind (w : World) (kd : Int) (hk : kd < 1 ∨ 3 < kd) (b : Int) (v1 v2 : Value) : Calls Tryz.prog 124 #[.agg #[.int .i64 kd, .int .u64 b, v1, v2]] w fun e w' => e = .returned (.bool false) ∧ Below w.heap.size w w' := by
 rcases hk with h | h
 ·exact bmay_low w kd h b v1 v2
 ·exact bmay_high w kd h b v1 v2
set_option maxRecDepth 100000 in
set_option maxHeartbeats 6400000 in
theorem bblock_no (w : World) (no : Int) (kd : Int) (hk : kd < 1 ∨ 3 < kd) (bb : Int) (v1 v2 : Value) : Calls Tryz.prog 110 #[.int .u32 no, .agg #[.int .i64 kd, .int .u64 bb, v1, v2]] w fun e w' => e = .returned (.tuple #[bA (zeros 256), .int .i64 2]) ∧ Below w.heap.size w w' := by
 have CMX : Hid (∀ X, Calls Tryz.prog 124 #[.agg #[.int .i64 kd, .int .u64 bb, v1, v2]] X fun e w' => e = .returned (.bool false) ∧ Below X.heap.size X w') := Lib.hid (fun X => bmay_kind X kd hk bb v1 v2)
 clear hk
 obtain ⟨w1, hw1⟩ : ∃ W, w.alloc (.cells #[.int .i64 kd, .int .u64 bb, v1, v2] 159) = W := ⟨_, rfl⟩
 have hb1 : Below w.heap.size w w1 := by rw [← hw1]; exact balloc (Below.refl _ _) _
 have hx1 : w1.heap[w.heap.size]? = some (.cells #[.int .i64 kd, .int .u64 bb, v1, v2] 159 (0, 0)) := by rw [← hw1]; exact heap_alloc_new _ _
 obtain ⟨w2, hw2⟩ : ∃ W, w1.alloc (.cells Tryz.zeroCells78 78) = W := ⟨_, rfl⟩
 have hb2 : Below w1.heap.size w1 w2 := by rw [← hw2]; exact balloc (Below.refl _ _) _
 obtain ⟨R, hR⟩ : ∃ R, zeros 256 = R := ⟨_, rfl⟩
 have hx2 : BoxB w2 w1.heap.size R := by
  have e : (bV (zeros 256)).toArray = Tryz.zeroCells78 := by
   show (bV (List.replicate 256 0)).toArray = _
   kernel_rfl
  unfold BoxB
  rw [← hR, e, ← hw2]; exact heap_alloc_new _ _
 have HRL : Hid (R.length = 256) := Lib.hid (by rw [← hR]; exact List.length_replicate)
 rw [hR]
 have HB1 := Lib.hid hb1
 have HX2 := Lib.hid hx2
 have HB12 := Lib.hid hb2
 have hx12 := (hb2.block _ (Array.getElem?_eq_some_iff.1 hx1).1).trans hx1
 have d0 := cellOf hx12 0 (v := .int .i64 kd) rfl
 have d1 := cellOf hx12 1 (v := .int .u64 bb) rfl
 have d2 := cellOf hx12 2 (v := v1) rfl
 have d3 := cellOf hx12 3 (v := v2) rfl
 have hrb : (bV R).toArray.size = 256 := by rw [List.size_toArray, bV_len, HRL.out]
 clear hb1 hx1 hb2 hx2 hR hx12
 go_enter Tryz.func110, Tryz.ntmps110
 go_upto_region 1 with fail
 (try rw [hw1, hw2])
 go_wp2_with fail
 refine (CMX.out w2).mono ?_
 rintro e w3 ⟨rfl, hb3⟩
 dsimp only
 have hx3 : BoxB w3 w1.heap.size R := (hb3.block _ (Array.getElem?_eq_some_iff.1 HX2.out).1).trans HX2.out
 have HRA : Hid (w3.rangeAt w1.heap.size 0 (bV R)) := Lib.hid (rangeOf hx3)
 have HTH : Hid (w3.there w1.heap.size 0 256) := Lib.hid (thereOf hx3 (by rw [hrb]; exact Nat.le_refl _))
 have HB3 : Hid (Below w1.heap.size w1 w3) := Lib.hid (bthn HB12.out hb3)
 clear hb3 hx3 hw1 hw2 d0 d1 d2 d3
 go_wp2_with (first
  | (refine wpList_load_mid rfl 78 _ rfl w1.heap.size 0 rfl (bV R) _ HRA.out Tryz.underlying78 rfl (by rw [bV_len, HRL.out]; exact infoBlk) ?_)
  | (refine wpList_store_mid rfl 78 _ _ rfl w1.heap.size 0 (bV R).toArray rfl rfl (by rw [hrb]; exact HTH.out) (by rw [hrb]; exact infoBlk) (blk_one R) ?_))
 refine bodyPost_ret (v := .tuple #[bA R, .int .i64 2]) (res_blk rfl _ _ w1.heap.size R _ rfl rfl (World.rangeAt_setCells_same _ _ _ _ (by rw [bV_len, HRL.out]; exact HTH.out)) HRL.out) rfl ⟨rfl, ?_⟩
 exact bthn HB1.out (belowSets (Nat.le_refl _) _ _ _ HB3.out)
set_option maxRecDepth 100000 in
set_option maxHeartbeats 6400000 in
theorem bget_at (w : World) (qb qa a : Nat) (bs : List UInt8) (hx : BoxB w qb bs) (hl : bs.length = 256) (ha : w.heap[qa]? = some (.cells #[.int .i64 (a : Int)] 3 (0, 0))) (hak : a + 8 ≤ 256) :
  Calls Tryz.prog 155 #[.pointer (some ⟨qb, 0, none⟩), .pointer (some ⟨qa, 0, none⟩)] w fun e w' => e = .returned (.int .u64 (getN 8 (bs.drop a) : Int)) ∧ w' = w.setCell ⟨qa, 0, none⟩ (.int .i64 ((a + 8 : Nat) : Int)) := by
 have HX := Lib.hid hx
 have HL := Lib.hid hl
 have a0 := cellOf ha 0 (v := .int .i64 (a : Int)) rfl
 have af := frozenOf ha 0
 clear hx ha
 go_enter Tryz.func155, Tryz.ntmps155
 go_wp2_with fail
 go_loopw [2, 4] (fun n v wr => ∃ i : Nat, i ≤ 8 ∧ v = .int .i64 (i : Int) ∧ n = .int .u64 ((sum ((bs.drop a).take i) : Nat) : Int) ∧ w = wr) (fun _ v _ => 8 - (Go.RowKit.intOf v).toNat)
 case atStart => exact ⟨0, by omega, rfl, rfl, rfl⟩
 case round =>
  obtain ⟨i, hi, rfl, rfl, rfl⟩ := hrel
  by_cases hlt : i < 8
  ·obtain ⟨c, hc⟩ : ∃ c, bs[a + i]? = some c := ⟨_, List.getElem?_eq_getElem (by omega)⟩
   have e0 := cellOf HX.out (a + i) (v := .int .u8 (c.toNat : Int)) (by simpa using bV_get hc)
   have htk : (bs.drop a).take (i + 1) = (bs.drop a).take i ++ [c] := by
    rw [List.take_add_one, List.getElem?_drop, hc]
    rfl
   have hln : ((bs.drop a).take i).length = i := by rw [List.length_take, List.length_drop]; omega
   have HSN : Hid (sum ((bs.drop a).take (i + 1)) = sum ((bs.drop a).take i) + 256 ^ i * c.toNat) := Lib.hid (by rw [htk, sum_snoc, hln])
   obtain ⟨sa, hsa⟩ : ∃ s, sum ((bs.drop a).take i) = s := ⟨_, rfl⟩
   have hsl : sa < 256 ^ i := by
    have := sum_lt ((bs.drop a).take i)
    rw [hln, hsa] at this
    exact this
   obtain ⟨cn, hcn⟩ : ∃ x, c.toNat = x := ⟨_, rfl⟩
   have hcl : cn < 256 := by rw [← hcn]; exact byte_lt c
   rw [hsa, hcn] at HSN
   rw [hcn] at e0
   rw [hsa]
   have HOR := Lib.hid (or_shl (i := i) (by omega) hsl hcl)
   clear hc htk hln hsa hcn hsl
   go_wp2_with fail
   refine ⟨⟨i + 1, by omega, by go_num, ?_, trivial⟩, by simp [Go.RowKit.intOf]; omega⟩
   rw [shl_val (by omega) hcl, HOR.out, HSN.out]
  ·obtain rfl : i = 8 := by omega
   have HG : Hid (getN 8 (bs.drop a) = sum ((bs.drop a).take 8)) := Lib.hid rfl
   obtain ⟨sa, hsa⟩ : ∃ s, sum ((bs.drop a).take 8) = s := ⟨_, rfl⟩
   rw [hsa] at HG ⊢
   clear hsa
   go_wp2_with fail
   go_ret
   refine ⟨?_, by rw [show ((a + 8 : Nat) : Int) = (a : Int) + 8 by omega]⟩
   rw [HG.out]
   rfl
end Go.Proofs.YtgmahhdnjikdjaaGreat
/- A region that draws its order and ends in stores: a condition on the world that holds up to the first of these. -/
namespace Go.Proofs.YtgmahhdnjikdjaaGreat
open Go.RowKit
set_option linter.unusedVariables false
section
variable {P : Program} {ops : Array Oper} {Q : Exit → Act → World → Prop} {md : Region.Mode} {S : World → Prop} {L : List Nat}
/-- None of L has come up. -/
def Ahead (L : List Nat) (listed : Array Bool) : Prop := ∀ l ∈ L, listed.getD l true = false
/-- Whatever order is picked; S holds behind each operation as long as none of L has come up. -/
def wpAnyL (P : Program) (md : Region.Mode) (ops : Array Oper) (Q : Exit → Act → World → Prop) (S : World → Prop) (L : List Nat) : Nat → Array Bool → Act → World → Prop
 | 0, listed, a, w => Region.ready md ops listed = [] ∧ Q .normal a w
 | f + 1, listed, a, w => (Region.ready md ops listed = [] → Q .normal a w) ∧
  ∀ i ∈ Region.ready md ops listed, wpOp P ops Q i (fun a' w' => ((Ahead L listed ∧ i ∉ L) → S w') ∧ wpAnyL P md ops Q S L f (listed.setIfInBounds i true) a' w') a w
theorem wpAny_of_L : ∀ (f : Nat) (listed : Array Bool) (a : Act) (w : World), wpAnyL P md ops Q S L f listed a w → wpAny P md ops Q f listed a w
 | 0, _, _, _, h => h
 | f + 1, _, _, _, h => ⟨h.1, fun i hi => wpOp_mono (fun a' w' h' => wpAny_of_L f _ a' w' h'.2) (h.2 i hi)⟩
/-- All of C wait for i, or for others of C; L is of them. -/
def chainB (md : Region.Mode) (ops : Array Oper) (C L : List Nat) (i : Nat) : Bool :=
 L.all (fun l => C.contains l) && C.all fun c => c != i && match ops[c]? with
  | none => true
  | some o => o.after.any fun e => Region.binds md e && (e.on == i || C.contains e.on)
theorem chain_not {C : List Nat} {i j : Nat} {listed : Array Bool} (h : chainB md ops C L i = true) (hC : Ahead C listed) (hi : listed.getD i true = false) (hj : j ∈ Region.ready md ops listed) : j ∉ C := by
 intro hjc
 obtain ⟨_, o, ho, hall⟩ := mem_ready.1 hj
 unfold chainB at h
 simp only [Bool.and_eq_true, List.all_eq_true] at h
 have h1 := (h.2 j hjc).2
 rw [ho] at h1
 obtain ⟨k, hk, he⟩ := Array.any_eq_true.1 h1
 simp only [Bool.and_eq_true, Bool.or_eq_true, beq_iff_eq, List.contains_iff_mem] at he
 have h2 := hall _ (Array.getElem_mem hk) he.1
 have hun : ∀ m, listed.getD m true = false → listed.getD m false = true → False := fun m a b => by
  rcases Nat.lt_or_ge m listed.size with h' | h'
  ·simp [h'] at a b; rw [a] at b; cases b
  ·simp [Array.getElem?_eq_none h'] at b
 rcases he.2 with e | e
 ·rw [e] at h2; exact hun i hi h2
 ·exact hun _ (hC _ e) h2
theorem wpAnyL_first {i : Nat} {oi : Oper} {v : Value} {C : List Nat} (hi : ops[i]? = some oi) (hsel : ∀ (j : Nat) (o : Oper) cs b, ops[j]? = some o → o.op ≠ .select cs b)
  (hQ : ∀ c a w, Q (.panic c) (a.put oi.dst v) w → Q (.panic c) a w) (hc : chainB md ops C L i = true) : ∀ (f : Nat) (listed : Array Bool) (a : Act) (w : World),
   (∀ j oj, ops[j]? = some oj → j ≠ i → listed.getD j true = false → (∀ e ∈ oj.after, Region.binds md e = true → e.on ≠ i) → oi.apart ops oj = true) →
   i ∈ Region.ready md ops listed → Ahead C listed → YieldsIf P ops S oi v a → S w →
   wpAnyL P md ops Q S L f (listed.setIfInBounds i true) (a.put oi.dst v) w → wpAnyL P md ops Q S L (f + 1) listed a w := by
 have hLC : ∀ l ∈ L, l ∈ C := fun l hl => by
  unfold chainB at hc
  simp only [Bool.and_eq_true, List.all_eq_true, List.contains_iff_mem] at hc
  exact hc.1 l hl
 have hCi : ∀ c ∈ C, c ≠ i := fun c hcc => by
  unfold chainB at hc
  simp only [Bool.and_eq_true, List.all_eq_true, bne_iff_ne] at hc
  exact (hc.2 c hcc).1
 intro f
 induction f with
 | zero =>
  intro listed a w _ hr _ hy hS H
  refine ⟨fun h => (by rw [h] at hr; cases hr), fun j hj => ?_⟩
  by_cases hji : j = i
  ·subst hji; exact hy.wpOp hi hS ⟨fun _ => hS, H⟩
  ·have h0 := ready_mono hj hji
   rw [H.1] at h0
   cases h0
 | succ f ih =>
  intro listed a w hfree hr hC hy hS H
  refine ⟨fun h => (by rw [h] at hr; cases hr), fun j hj => ?_⟩
  by_cases hji : j = i
  ·subst hji; exact hy.wpOp hi hS ⟨fun _ => hS, H⟩
  ·have hi0 := (mem_ready.1 hr).1
   have hjC := chain_not hc hC hi0 hj
   obtain ⟨hjun, oj, hoj, hall⟩ := mem_ready.1 hj
   have hnot : ∀ e ∈ oj.after, Region.binds md e = true → e.on ≠ i := fun e he hb heq => by
    have h1 := hall e he hb
    rw [heq] at h1
    rcases Nat.lt_or_ge i listed.size with h' | h'
    ·simp [h'] at hi0 h1; rw [hi0] at h1; cases h1
    ·simp [Array.getElem?_eq_none h'] at h1
   have h2 := wpOp_putIf hoj (hfree j oj hoj hji hjun hnot) (fun cs b => hsel i oi cs b hi) (fun cs b => hsel j oj cs b hoj) hQ hy (H.2 j (ready_mono hj hji))
   refine wpOp_mono (fun a' w' h3 => ?_) h2
   have hSw : S w' := h3.2.1 ⟨fun l hl => by rw [getD_set_ne true (Ne.symm (hCi l (hLC l hl)))]; exact hC l (hLC l hl), fun hl => hjC (hLC j hl)⟩
   refine ⟨fun _ => hSw, ih (listed.setIfInBounds j true) a' w' (fun k ok hk hki hun hno => ?_) (ready_mono hr (Ne.symm hji)) (fun c hcc => ?_) h3.1 hSw ?_⟩
   ·refine hfree k ok hk hki ?_ hno
    by_cases hjk : j = k
    ·subst hjk; exact hjun
    ·rw [getD_set_ne true hjk] at hun; exact hun
   ·rw [getD_set_ne true (fun (e : j = c) => hjC (by rw [e]; exact hcc))]; exact hC c hcc
   ·rw [Array.setIfInBounds_comm _ _ hji]; exact h3.2.2
/-- Number i is taken first. -/
theorem wpAnyL_take (C : List Nat) {i : Nat} {oi : Oper} {v : Value} {f : Nat} {listed : Array Bool} {a : Act} {w : World} (hi : ops[i]? = some oi)
  (hs : Region.noSelect ops = true) (hf : Region.free md ops listed i = true) (hr : (Region.ready md ops listed).contains i = true)
  (hc : chainB md ops C L i = true) (hC : C.all (fun c => !(listed.getD c true)) = true)
  (hQ : ∀ c a w, Q (.panic c) (a.put oi.dst v) w → Q (.panic c) a w) (hy : YieldsIf P ops S oi v a) (hS : S w)
  (h : wpAnyL P md ops Q S L f (listed.setIfInBounds i true) (a.put oi.dst v) w) : wpAnyL P md ops Q S L (f + 1) listed a w :=
 wpAnyL_first hi (Region.noSelect_spec hs) hQ hc f listed a w (Region.free_spec hi hf) (by simpa using hr) (fun c hcc => by simpa using List.all_eq_true.1 hC c hcc) hy hS h
def AllReadyL (P : Program) (md : Region.Mode) (ops : Array Oper) (Q : Exit → Act → World → Prop) (S : World → Prop) (L : List Nat) (f : Nat) (listed : Array Bool) (a : Act) (w : World) (rs : List Nat) : Prop :=
 ∀ i ∈ rs, wpOp P ops Q i (fun a' w' => ((Ahead L listed ∧ i ∉ L) → S w') ∧ wpAnyL P md ops Q S L f (listed.setIfInBounds i true) a' w') a w
theorem AllReadyL.nil {f : Nat} {listed : Array Bool} {a : Act} {w : World} : AllReadyL P md ops Q S L f listed a w [] := fun _ h => by cases h
theorem AllReadyL.cons {f : Nat} {listed : Array Bool} {a : Act} {w : World} {i : Nat} {o : Oper} {rs : List Nat} (ho : ops[i]? = some o)
  (h : ∀ K' : Act → World → Prop, Shut (∀ a w, S w → (S w → wpAnyL P md ops Q S L f (listed.setIfInBounds i true) a w) → K' a w) → if Region.wanted o (yielded ops a.tmps) = true then Oper.wp P o a w K' Q else K' (a.put o.dst undef) w)
  (hs : AllReadyL P md ops Q S L f listed a w rs) : AllReadyL P md ops Q S L f listed a w (i :: rs) := fun j hj => by
 rcases List.mem_cons.1 hj with rfl | hj
 ·exact wpOp_step ho (fun K' hK => h K' (fun a w hS hW => hK a w ⟨fun _ => hS, hW hS⟩))
 ·exact hs j hj
/-- One of L, or behind one of L: S is not asked. -/
theorem AllReadyL.late {f : Nat} {listed : Array Bool} {a : Act} {w : World} {i : Nat} {o : Oper} (ho : ops[i]? = some o) (hl : (L.contains i || L.any (fun l => listed.getD l true)) = true)
  (h : ∀ K' : Act → World → Prop, Shut (∀ a w, wpAnyL P md ops Q S L f (listed.setIfInBounds i true) a w → K' a w) → if Region.wanted o (yielded ops a.tmps) = true then Oper.wp P o a w K' Q else K' (a.put o.dst undef) w) :
  AllReadyL P md ops Q S L f listed a w [i] := fun j hj => by
 obtain rfl := List.mem_singleton.1 hj
 refine wpOp_step ho (fun K' hK => h K' (fun a w hW => hK a w ⟨fun hh => ?_, hW⟩))
 exfalso
 rcases Bool.or_eq_true_iff.1 hl with h1 | h1
 ·exact hh.2 (by simpa using h1)
 ·obtain ⟨l, hl, hb⟩ := List.any_eq_true.1 h1
  rw [hh.1 l hl] at hb
  cases hb
theorem wpAnyL_ready {rs : List Nat} {f : Nat} {listed : Array Bool} {a : Act} {w : World} (hr : Region.ready md ops listed = rs) (hne : rs ≠ [])
  (h : AllReadyL P md ops Q S L f listed a w rs) : wpAnyL P md ops Q S L (f + 1) listed a w := ⟨fun h0 => absurd (hr ▸ h0) hne, hr ▸ h⟩
theorem wpAnyL_done {listed : Array Bool} {a : Act} {w : World} (hr : Region.ready md ops listed = []) (h : Q .normal a w) : ∀ f, wpAnyL P md ops Q S L f listed a w
 | 0 => ⟨hr, h⟩
 | _ + 1 => ⟨fun _ => h, by rw [hr]; simp⟩
theorem wp_region_late (L : List Nat) {id : Nat} {a : Act} {w : World} (hm : P.follows .mixedOrders = true) (hS : S w.drew)
  (h : S w.drew → wpAnyL P .any ops Q S L ops.size (Array.replicate ops.size false) a w.drew) : (Code.region id ops true).wp P Q a w :=
 wp_region_any hm (wpAny_of_L _ _ _ _ (h hS))
end
end Go.Proofs.YtgmahhdnjikdjaaGreat
