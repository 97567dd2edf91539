import Derived.Test.YtgmahhdnjikdjaaGreatVG24
set_option linter.unusedVariables false
set_option linter.unusedSimpArgs false
/- btree.put of a key behind all others into a leaf that has room, walked. -/
namespace Go.Proofs.YtgmahhdnjikdjaaGreat
open Go.RowKit Go.Maps Wire
set_option linter.unusedVariables false
set_option linter.unusedSimpArgs false
/-- A leaf with one key more, at its end. -/
def Nd.add (y : Nd) (k v : Nat) : Nd := { y with keys := y.keys ++ [k], vals := y.vals ++ [v] }
theorem Nd.Ok.add {y : Nd} (h : y.Ok) (h5 : y.keys.length ≤ 5) {k v : Nat} (hlt : ∀ a ∈ y.keys, a < k) (hk : k < 18446744073709551616) (hv : v < 18446744073709551616) : (y.add k v).Ok := by
 refine ⟨h.k, by show (y.keys ++ [k]).length ≤ 6; simp; omega, by show (y.vals ++ [v]).length = (y.keys ++ [k]).length; simp [h.m], ?_, ?_, ?_⟩
 ·intro i a b ha hb
  have ha : (y.keys ++ [k])[i]? = some a := ha
  have hb : (y.keys ++ [k])[i + 1]? = some b := hb
  rw [List.getElem?_append] at ha hb
  split at hb
  ·rename_i h1
   rw [if_pos (by omega)] at ha
   exact h.up i a b ha hb
  ·rename_i h1
   split at ha
   ·rename_i h2
    have e : i + 1 - y.keys.length = 0 := by omega
    rw [e] at hb
    obtain rfl : k = b := by simpa using hb
    exact hlt a (List.mem_of_getElem? ha)
   ·rename_i h2
    have e : i + 1 - y.keys.length = (i - y.keys.length) + 1 := by omega
    rw [e] at hb
    simp at hb
 ·intro x hx
  rcases List.mem_append.1 hx with hx | hx
  ·exact h.ku x hx
  ·rw [List.mem_singleton.1 hx]; exact hk
 ·intro x hx
  rcases List.mem_append.1 hx with hx | hx
  ·exact h.vu x hx
  ·rw [List.mem_singleton.1 hx]; exact hv
/-- What put leaves. -/
def PutLP (w : World) (S B pm pd mf md : Nat) (s : Su) (A D : M) (Fm Fd : List Nat) (l : List (Nat × (NdV × Nd))) (i : Nat) (y : Nd) (ov : Nat) (had : Bool) (e : Ending) (w' : World) : Prop :=
 ∃ x, e = .returned (.tuple #[.agg #[.int .u32 (i : Int), .int .u32 0, .int .u64 (y.keys.getD 0 0 : Nat), .int .u64 0, .int .u64 (ov : Int), .bool had], .int .i64 0]) ∧ StF w' S B pm pd mf md s A D Fm Fd (putA i (x, y) l) ∧ Mods [mf] w w' ∧ ∀ k ∈ obN x, w.heap.size ≤ k
set_option maxRecDepth 100000 in
set_option maxHeartbeats 12800000 in
theorem tput_leafE {w : World} {S B pm pd mf md : Nat} {s : Su} {A D : M} {Fm Fd : List Nat} {l : List (Nat × (NdV × Nd))} (h : StF w S B pm pd mf md s A D Fm Fd l) (i : Nat) (h0 : i ≠ 0) (hi9 : i < A.now.length) (hc : ctN A.now i = 1) (x : NdV) (y : Nd) (hg : getA i l = some (x, y)) (hy : y.Ok) (hk : y.k ≠ 1) (hlen : l.length ≤ 10000) (key val : Nat) (hkv : key < 18446744073709551616 ∧ val < 18446744073709551616) (hlt : ∀ a ∈ y.keys, a < key) (h15 : 1 ≤ y.keys.length ∧ y.keys.length ≤ 5) (yn : Nd) (hya : yn = y.add key val) (ov : Nat) (ohad : Bool) (hov : ov = 0 ∧ ohad = false) :
  Calls Tryz.prog 78 #[.pointer (some ⟨S, 0, none⟩), .int .u32 (i : Int), .int .i64 y.k, .agg #[.int .u64 (key : Int), .int .u64 (val : Int)], .int .i64 0] w (PutLP w S B pm pd mf md s A D Fm Fd l i yn ov ohad) := by
 have HE0 : Hid (findI y.keys key = y.keys.length) := Lib.hid (findI_of (Nat.le_refl _) (fun j a _ ha => hlt a (List.mem_of_getElem? ha)) (fun a ha => by simp at ha))
 have HOV := Lib.hid hov
 have HYA := Lib.hid hya
 have HLT := Lib.hid hlt
 have HKV := Lib.hid hkv
 have H15 := Lib.hid h15
 clear hov hya hlt hkv h15
 have hyn := hy.n
 have hym := hy.m
 have hm9 := h.st.mok.max
 obtain ⟨wA, hwA⟩ : ∃ W, w.alloc (.cells #[.int .u64 (key : Int), .int .u64 (val : Int)] 94) = W := ⟨_, rfl⟩
 have hbA : Below w.heap.size w wA := by rw [← hwA]; exact balloc (Below.refl _ _) _
 have hxA : wA.heap[w.heap.size]? = some (.cells #[.int .u64 (key : Int), .int .u64 (val : Int)] 94 (0, 0)) := by rw [← hwA]; exact heap_alloc_new _ _
 obtain ⟨w1, hw1⟩ : ∃ W, wA.alloc (.cells #[.int .u32 0, .int .u32 0, .int .u64 0, .int .u64 0, .int .u64 0, .bool false] 167) = W := ⟨_, rfl⟩
 have hbB : Below wA.heap.size wA w1 := by rw [← hw1]; exact balloc (Below.refl _ _) _
 have hb1 := bthn hbA hbB
 have hx1 : w1.heap[wA.heap.size]? = some (.cells #[.int .u32 0, .int .u32 0, .int .u64 0, .int .u64 0, .int .u64 0, .bool false] 167 (0, 0)) := by rw [← hw1]; exact heap_alloc_new _ _
 have h1 := h.below hb1
 have CS := sshad_in h1 i h0 hi9 hc x y hg (by omega) (by omega)
 have HB1 := Lib.hid hb1
 have HX1 := Lib.hid hx1
 have HP1 := Lib.hid ((hbB.block _ (Array.getElem?_eq_some_iff.1 hxA).1).trans hxA)
 have HH := Lib.hid h
 have HY := Lib.hid hy
 have HG := Lib.hid hg
 have HYM := Lib.hid hym
 have HPR := Lib.hid (And.intro h0 (And.intro hi9 (And.intro hc hlen)))
 have HAL : Hid (w.heap.size < wA.heap.size) := Lib.hid (Array.getElem?_eq_some_iff.1 hxA).1
 obtain ⟨yk, hyk⟩ : ∃ z, y.k = z := ⟨_, rfl⟩
 have hk1 : (yk == 1) = false := by rw [← hyk]; simp; exact hk
 have hk2 : (yk != 1) = true := by simp [bne, hk1]
 have hk3 : (yk != yk) = false := by simp
 rw [hyk]
 have HYK := Lib.hid hyk
 clear h h1 hy hg hym hb1 hx1 hi9 hc hlen hk hbA hxA hbB hyk
 go_enter Tryz.func78, Tryz.ntmps78
 go_wp2_with fail
 (try rw [hwA])
 (try rw [hw1])
 clear hwA hw1
 refine CS.mono ?_
 rintro e w2 ⟨x1, rfl, hnd, hb2⟩
 have HB2 := Lib.hid hb2
 have HX2 := Lib.hid ((hb2.block _ (Array.getElem?_eq_some_iff.1 HX1.out).1).trans HX1.out)
 have HP2 := Lib.hid ((hb2.block _ (Array.getElem?_eq_some_iff.1 HP1.out).1).trans HP1.out)
 obtain ⟨a1, a2, e1, e2, e3⟩ := ndA_eq x1
 rw [e1]
 have HE := Lib.hid (And.intro e2 e3)
 have HKB : Hid (x1.b = y.b ∧ x1.n1 = y.keys.length ∧ x1.n2 = y.vals.length) := Lib.hid ⟨hnd.b, hnd.n1, hnd.n2⟩
 rw [show x1.k = yk from hnd.k.trans HYK.out]
 obtain ⟨bb, hbb⟩ : ∃ z, x1.b = z := ⟨_, rfl⟩
 obtain ⟨n1, hn1⟩ : ∃ z, x1.n1 = z := ⟨_, rfl⟩
 obtain ⟨n2, hn2⟩ : ∃ z, x1.n2 = z := ⟨_, rfl⟩
 obtain ⟨c1, hc1⟩ : ∃ z, x1.c1 = z := ⟨_, rfl⟩
 obtain ⟨c2, hc2⟩ : ∃ z, x1.c2 = z := ⟨_, rfl⟩
 rw [hbb, hn1, hn2, hc1, hc2]
 rw [hbb, hn1, hn2] at HKB
 have HEQ := Lib.hid (And.intro hn1 (And.intro hc1 (And.intro hn2 hc2)))
 obtain ⟨w3, hw3⟩ : ∃ W, w2.alloc (.cells #[.int .i64 yk, .int .u64 (bb : Int), .slice a1 n1 c1, .slice a2 n2 c2] 159) = W := ⟨_, rfl⟩
 have hb3 : Below w2.heap.size w2 w3 := by rw [← hw3]; exact balloc (Below.refl _ _) _
 have hx3 : w3.heap[w2.heap.size]? = some (.cells #[.int .i64 yk, .int .u64 (bb : Int), .slice a1 n1 c1, .slice a2 n2 c2] 159 (0, 0)) := by rw [← hw3]; exact heap_alloc_new _ _
 have HX3 := Lib.hid hx3
 have HB3 := Lib.hid hb3
 have HC3 := Lib.hid ((hb3.block _ (Array.getElem?_eq_some_iff.1 HX2.out).1).trans HX2.out)
 have HP3 := Lib.hid ((hb3.block _ (Array.getElem?_eq_some_iff.1 HP2.out).1).trans HP2.out)
 have HN3 := Lib.hid (hnd.below hb3)
 clear CS hnd hb2 e1 e2 e3 hbb hn1 hn2 hc1 hc2 hb3 hx3
 dsimp only
 go_upto_region 4 with fail
 (try rw [hw3])
 clear hw3
 obtain ⟨q, hq⟩ : ∃ q, w2.heap.size = q := ⟨_, rfl⟩
 rw [hq] at HX3 ⊢
 have HQ : Hid (wA.heap.size < q) := Lib.hid (by rw [← hq]; exact (Array.getElem?_eq_some_iff.1 HX2.out).1)
 obtain ⟨cb, hcb⟩ : ∃ z, wA.heap.size = z := ⟨_, rfl⟩
 have HCL : Hid (cb < w1.heap.size) := Lib.hid (by rw [← hcb]; exact (Array.getElem?_eq_some_iff.1 HX1.out).1)
 rw [hcb] at HQ HC3 HAL ⊢
 have t0 := cellOf HC3.out 0 (v := .int .u32 0) rfl
 have f0 := frozenOf HC3.out 0
 clear hq hcb
 go_upto_region 9 with fail
 clear t0 f0
 obtain ⟨w4, hw4⟩ : ∃ W, w3.setCell ⟨cb, 0, none⟩ (.int .u32 (i : Int)) = W := ⟨_, rfl⟩
 rw [hw4]
 have hc4 : w4.heap[cb]? = some (.cells #[.int .u32 (i : Int), .int .u32 0, .int .u64 0, .int .u64 0, .int .u64 0, .bool false] 167 (0, 0)) := by rw [← hw4]; exact setOf HC3.out 0 _
 have HM4 : Hid (Mods [cb] w3 w4) := Lib.hid (by rw [← hw4]; exact (Mods.refl _ _).setCell (p := ⟨cb, 0, none⟩) (List.mem_singleton.2 rfl) _)
 have HC4 := Lib.hid hc4
 have HX4 := Lib.hid ((HM4.out.block _ (Array.getElem?_eq_some_iff.1 HX3.out).1 (fun hh => by have := HQ.out; have := List.mem_singleton.1 hh; omega)).trans HX3.out)
 have HP4 := Lib.hid ((HM4.out.block _ (Array.getElem?_eq_some_iff.1 HP3.out).1 (fun hh => by have := HAL.out; have := List.mem_singleton.1 hh; omega)).trans HP3.out)
 have HN4 : Hid (NdAt w4 w1.heap.size x1 y) := Lib.hid (HN3.out.at_ (fun j hj => HM4.out.block j (HN3.out.lt j hj) (fun hh => by have := HN3.out.ge j hj; have := HCL.out; have := List.mem_singleton.1 hh; omega)))
 have d0 := cellOf HX4.out 0 (v := .int .i64 yk) rfl
 have d1 := cellOf HX4.out 1 (v := .int .u64 (bb : Int)) rfl
 have d2 := cellOf HX4.out 2 (v := .slice a1 n1 c1) rfl
 have d3 := cellOf HX4.out 3 (v := .slice a2 n2 c2) rfl
 have p0 := cellOf HP4.out 0 (v := .int .u64 (key : Int)) rfl
 have HR1 : Hid (Rd w4 1 (.slice a1 n1 c1) n1 (qV y.keys)) := Lib.hid (by
  have := Rd.of_own HN4.out.r1
  rw [HE.out.1, HEQ.out.1, HEQ.out.2.1] at this
  rw [← HKB.out.2.1] at this
  exact this)
 have CF := find_at w4 y (.slice a1 n1 c1) (.slice a2 n2 c2) (by omega) (rises_up HY.out.up) (by rw [← HKB.out.2.1]; exact HR1.out) key
 rw [HYK.out, ← HKB.out.1] at CF
 clear hw4 hc4
 have hnf : ¬ y.keys[findI y.keys key]? = some key := by rw [HE0.out]; simp
 rw [decide_eq_false hnf, HE0.out, ← HKB.out.2.1] at CF
 clear hnf
 go_wp2_with fail
 refine CF.mono ?_
 rintro e w5 ⟨rfl, hb5⟩
 have HX5 := Lib.hid ((hb5.block _ (Array.getElem?_eq_some_iff.1 HX4.out).1).trans HX4.out)
 have HC5 := Lib.hid ((hb5.block _ (Array.getElem?_eq_some_iff.1 HC4.out).1).trans HC4.out)
 have HP5 := Lib.hid ((hb5.block _ (Array.getElem?_eq_some_iff.1 HP4.out).1).trans HP4.out)
 have HN5' := Lib.hid (HN4.out.below hb5)
 have HO1 : Hid (w5.ownsRow w1.heap.size 26 1 (.slice a1 n1 c1) n1 (qV y.keys)) := Lib.hid (by
  have := HN5'.out.r1
  rw [HE.out.1, HEQ.out.1, HEQ.out.2.1, ← HKB.out.2.1] at this
  exact this)
 have HO2 : Hid (w5.ownsRow w1.heap.size 26 1 (.slice a2 n2 c2) n2 (qV y.vals)) := Lib.hid (by
  have := HN5'.out.r2
  rw [HE.out.2, HEQ.out.2.2.1, HEQ.out.2.2.2, ← HKB.out.2.2] at this
  exact this)
 have HBD : Hid (1 ≤ n1 ∧ n1 ≤ 5 ∧ n1 = n2) := Lib.hid (by have h1 := HKB.out; have h3 := HYM.out; have := H15.out; omega)
 have HNQ : Hid (q ∉ (ob (.slice a1 n1 c1) ++ ob (.slice a2 n2 c2)) ∧ w.heap.size ∉ (ob (.slice a1 n1 c1) ++ ob (.slice a2 n2 c2)) ∧ cb ∉ (ob (.slice a1 n1 c1) ++ ob (.slice a2 n2 c2)) ∧ (∀ k ∈ ob (.slice a2 n2 c2), k ∉ ob (.slice a1 n1 c1)) ∧ (∀ k ∈ (ob (.slice a1 n1 c1) ++ ob (.slice a2 n2 c2)), k < w5.heap.size) ∧ ∀ k ∈ (ob (.slice a1 n1 c1) ++ ob (.slice a2 n2 c2)), w1.heap.size ≤ k) := Lib.hid (by
  have hn : ∀ (g : Nat) (cs : Array Value) (t : TypeId), w5.heap[g]? = some (.cells cs t (0, 0)) → t ≠ 26 → g ∉ (ob (.slice a1 n1 c1) ++ ob (.slice a2 n2 c2)) := fun g cs t hh hne hm => by
   rcases List.mem_append.1 hm with h1 | h1
   ·exact ob_tag HO1.out hh hne h1
   ·exact ob_tag HO2.out hh hne h1
  refine ⟨hn _ _ _ HX5.out (by decide), hn _ _ _ HP5.out (by decide), hn _ _ _ HC5.out (by decide), ?_, ?_, ?_⟩
  ·have := HN5'.out.dj
   rw [HE.out.1, HE.out.2, HEQ.out.1, HEQ.out.2.1, HEQ.out.2.2.1, HEQ.out.2.2.2] at this
   exact this
  ·intro k hk
   rcases List.mem_append.1 hk with h1 | h1
   ·exact ownsRow_lt HO1.out k h1
   ·exact ownsRow_lt HO2.out k h1
  ·intro k hk
   rcases List.mem_append.1 hk with h1 | h1
   ·exact ownsRow_ge HO1.out k h1
   ·exact ownsRow_ge HO2.out k h1)
 have HMA5 : Hid (Mods [] w w5) := Lib.hid (((((Mods.of_below HB1.out).thenBelow HB2.out).thenBelow HB3.out).trans HM4.out (fun k hk => .inr (by have := HAL.out; rw [List.mem_singleton.1 hk]; omega))).thenBelow hb5)
 have HBW : Hid (w1.heap.size ≤ w5.heap.size) := Lib.hid (Nat.le_trans HB2.out.size (Nat.le_trans HB3.out.size (Nat.le_trans HM4.out.size hb5.size)))
 have CI1 : Hid (∀ X b, X.ownsRow w1.heap.size 26 1 (.slice a1 n1 c1) n1 (qV y.keys) → w1.heap.size ≤ X.heap.size → X.heap[b]? = some (.cells #[.int .u64 (key : Int)] 26 (0, 0)) → Calls Tryz.prog 126 #[.slice a1 n1 c1, .int .i64 (n1 : Int), .slice (some ⟨b, 0, none⟩) 1 1] X fun e w' => ∃ v', e = .returned v' ∧ w'.ownsRow w1.heap.size 26 1 v' (n1 + 1) (qV (y.keys ++ [key])) ∧ Mods (ob (.slice a1 n1 c1)) X w' ∧ ∀ j ∈ ob v', j ∈ ob (.slice a1 n1 c1) ∨ X.heap.size ≤ j) := Lib.hid (fun X b hX hs hb => sins_end hX HBD.out.1 (by have := HBD.out; omega) hs b key hb)
 have CI2 : Hid (∀ X b, X.ownsRow w1.heap.size 26 1 (.slice a2 n2 c2) n2 (qV y.vals) → w1.heap.size ≤ X.heap.size → X.heap[b]? = some (.cells #[.int .u64 (val : Int)] 26 (0, 0)) → Calls Tryz.prog 126 #[.slice a2 n2 c2, .int .i64 (n1 : Int), .slice (some ⟨b, 0, none⟩) 1 1] X fun e w' => ∃ v', e = .returned v' ∧ w'.ownsRow w1.heap.size 26 1 v' (n2 + 1) (qV (y.vals ++ [val])) ∧ Mods (ob (.slice a2 n2 c2)) X w' ∧ ∀ j ∈ ob v', j ∈ ob (.slice a2 n2 c2) ∨ X.heap.size ≤ j) := Lib.hid (fun X b hX hs hb => by
  have h9 := sins_end hX (by have := HBD.out; omega) (by have := HBD.out; omega) hs b val hb
  rw [show (n2 : Int) = (n1 : Int) by have := HBD.out; omega] at h9
  exact h9)
 clear CF hb5 d0 d1 d2 d3 p0
 dsimp only
 go_upto_region 8 with fail
 have HSS : Hid (∀ X, Mods (ob (.slice a1 n1 c1) ++ ob (.slice a2 n2 c2)) w5 X → (X.cell? ⟨q, 2, none⟩ = some (.slice a1 n1 c1) ∧ X.cell? ⟨q, 3, none⟩ = some (.slice a2 n2 c2) ∧ X.cell? ⟨w.heap.size, 0, none⟩ = some (.int .u64 (key : Int)) ∧ X.cell? ⟨w.heap.size, 1, none⟩ = some (.int .u64 (val : Int))) ∧ Mods (ob (.slice a1 n1 c1) ++ ob (.slice a2 n2 c2)) w5 X) := Lib.hid (fun X hb => ⟨⟨(World.cell?_of_block (hb.block _ ((Array.getElem?_eq_some_iff.1 HX5.out).1) (HNQ.out.1))).trans (cellOf HX5.out 2 rfl), (World.cell?_of_block (hb.block _ ((Array.getElem?_eq_some_iff.1 HX5.out).1) (HNQ.out.1))).trans (cellOf HX5.out 3 rfl), (World.cell?_of_block (hb.block _ ((Array.getElem?_eq_some_iff.1 HP5.out).1) (HNQ.out.2.1))).trans (cellOf HP5.out 0 rfl), (World.cell?_of_block (hb.block _ ((Array.getElem?_eq_some_iff.1 HP5.out).1) (HNQ.out.2.1))).trans (cellOf HP5.out 1 rfl)⟩, hb⟩)
 refine wp_region_late (S := fun X => (X.cell? ⟨q, 2, none⟩ = some (.slice a1 n1 c1) ∧ X.cell? ⟨q, 3, none⟩ = some (.slice a2 n2 c2) ∧ X.cell? ⟨w.heap.size, 0, none⟩ = some (.int .u64 (key : Int)) ∧ X.cell? ⟨w.heap.size, 1, none⟩ = some (.int .u64 (val : Int))) ∧ Mods (ob (.slice a1 n1 c1) ++ ob (.slice a2 n2 c2)) w5 X) [15] (by kernel_rfl) (HSS.out _ (Mods.of_below (Below.refl _ _).drew)) (fun hHeld => ?_)
 have hbe : Below w5.heap.size w5 w5.drew := (Below.refl _ _).drew
 obtain ⟨wd, hwd⟩ : ∃ y, w5.drew = y := ⟨_, rfl⟩
 rw [hwd] at hHeld hbe ⊢
 have HBE := Lib.hid hbe
 have HS0 : Hid (w5.heap.size ≤ wd.heap.size) := Lib.hid HBE.out.size
 clear hwd hbe
 have HMD := Lib.hid (Mods.of_below (F := (ob (.slice a1 n1 c1) ++ ob (.slice a2 n2 c2))) HBE.out)
 have HMD := Lib.hid (Mods.of_below (F := (ob (.slice a1 n1 c1) ++ ob (.slice a2 n2 c2))) HBE.out)
 have HO1 := Lib.hid (ownsRow_below HO1.out HBE.out)
 have HO2 := Lib.hid (ownsRow_below HO2.out HBE.out)
 refine wpAnyL_take [1, 6, 13, 14, 15, 16, 17] (i := 0) (v := ?_) rfl (by kernel_rfl) (by kernel_rfl) (by kernel_rfl) (by kernel_rfl) (by kernel_rfl) (fun _ _ _ h => h) (Or.inl ⟨by rfl, ?_⟩) (by assumption) ?_
 rotate_left
 ·(intro w hSw; (try dsimp only at hSw); simp only [List.getElem_toArray, List.getElem_cons_zero, List.getElem_cons_succ]; go_simp; first | done | with_reducible rfl)
 simp only [List.getElem_toArray, List.getElem_cons_zero, List.getElem_cons_succ, Act.put, List.setIfInBounds_toArray, List.set_cons_zero, List.set_cons_succ]
 refine wpAnyL_take [6, 13, 14, 15, 16, 17] (i := 2) (v := ?_) rfl (by kernel_rfl) (by kernel_rfl) (by kernel_rfl) (by kernel_rfl) (by kernel_rfl) (fun _ _ _ h => h) (Or.inl ⟨by rfl, ?_⟩) (by assumption) ?_
 rotate_left
 ·(intro w hSw; (try dsimp only at hSw); simp only [List.getElem_toArray, List.getElem_cons_zero, List.getElem_cons_succ]; go_simp; first | done | with_reducible rfl)
 simp only [List.getElem_toArray, List.getElem_cons_zero, List.getElem_cons_succ, Act.put, List.setIfInBounds_toArray, List.set_cons_zero, List.set_cons_succ]
 refine wpAnyL_take [4, 5, 6, 13, 14, 15, 16, 17] (i := 3) (v := ?_) rfl (by kernel_rfl) (by kernel_rfl) (by kernel_rfl) (by kernel_rfl) (by kernel_rfl) (fun _ _ _ h => h) (Or.inl ⟨by rfl, ?_⟩) (by assumption) ?_
 rotate_left
 ·(intro w hSw; (try dsimp only at hSw); simp only [List.getElem_toArray, List.getElem_cons_zero, List.getElem_cons_succ]; go_simp; first | done | with_reducible rfl)
 simp only [List.getElem_toArray, List.getElem_cons_zero, List.getElem_cons_succ, Act.put, List.setIfInBounds_toArray, List.set_cons_zero, List.set_cons_succ]
 refine wpAnyL_take [8, 13, 14, 15, 16, 17] (i := 7) (v := ?_) rfl (by kernel_rfl) (by kernel_rfl) (by kernel_rfl) (by kernel_rfl) (by kernel_rfl) (fun _ _ _ h => h) (Or.inl ⟨by rfl, ?_⟩) (by assumption) ?_
 rotate_left
 ·(intro w hSw; (try dsimp only at hSw); simp only [List.getElem_toArray, List.getElem_cons_zero, List.getElem_cons_succ]; go_simp; first | done | with_reducible rfl)
 simp only [List.getElem_toArray, List.getElem_cons_zero, List.getElem_cons_succ, Act.put, List.setIfInBounds_toArray, List.set_cons_zero, List.set_cons_succ]
 refine wpAnyL_take [13, 14, 15, 16, 17] (i := 9) (v := ?_) rfl (by kernel_rfl) (by kernel_rfl) (by kernel_rfl) (by kernel_rfl) (by kernel_rfl) (fun _ _ _ h => h) (Or.inl ⟨by rfl, ?_⟩) (by assumption) ?_
 rotate_left
 ·(intro w hSw; (try dsimp only at hSw); simp only [List.getElem_toArray, List.getElem_cons_zero, List.getElem_cons_succ]; go_simp; first | done | with_reducible rfl)
 simp only [List.getElem_toArray, List.getElem_cons_zero, List.getElem_cons_succ, Act.put, List.setIfInBounds_toArray, List.set_cons_zero, List.set_cons_succ]
 refine wpAnyL_take [11, 12, 13, 14, 15, 16, 17] (i := 10) (v := ?_) rfl (by kernel_rfl) (by kernel_rfl) (by kernel_rfl) (by kernel_rfl) (by kernel_rfl) (fun _ _ _ h => h) (Or.inl ⟨by rfl, ?_⟩) (by assumption) ?_
 rotate_left
 ·(intro w hSw; (try dsimp only at hSw); simp only [List.getElem_toArray, List.getElem_cons_zero, List.getElem_cons_succ]; go_simp; first | done | with_reducible rfl)
 simp only [List.getElem_toArray, List.getElem_cons_zero, List.getElem_cons_succ, Act.put, List.setIfInBounds_toArray, List.set_cons_zero, List.set_cons_succ]
 refine wpAnyL_take [6, 13, 14, 15, 16, 17] (i := 1) (v := ?_) rfl (by kernel_rfl) (by kernel_rfl) (by kernel_rfl) (by kernel_rfl) (by kernel_rfl) (fun _ _ _ h => h) (Or.inl ⟨by rfl, ?_⟩) (by assumption) ?_
 rotate_left
 ·(intro w hSw; (try dsimp only at hSw); simp only [List.getElem_toArray, List.getElem_cons_zero, List.getElem_cons_succ]; go_simp; first | done | with_reducible rfl)
 simp only [List.getElem_toArray, List.getElem_cons_zero, List.getElem_cons_succ, Act.put, List.setIfInBounds_toArray, List.set_cons_zero, List.set_cons_succ]
 refine wpAnyL_take [5, 6, 13, 14, 15, 16, 17] (i := 4) (v := ?_) rfl (by kernel_rfl) (by kernel_rfl) (by kernel_rfl) (by kernel_rfl) (by kernel_rfl) (fun _ _ _ h => h) (Or.inl ⟨by rfl, ?_⟩) (by assumption) ?_
 rotate_left
 ·(intro w hSw; (try dsimp only at hSw); simp only [List.getElem_toArray, List.getElem_cons_zero, List.getElem_cons_succ]; go_simp; first | done | with_reducible rfl)
 simp only [List.getElem_toArray, List.getElem_cons_zero, List.getElem_cons_succ, Act.put, List.setIfInBounds_toArray, List.set_cons_zero, List.set_cons_succ]
 refine wpAnyL_take [13, 14, 15, 16, 17] (i := 8) (v := ?_) rfl (by kernel_rfl) (by kernel_rfl) (by kernel_rfl) (by kernel_rfl) (by kernel_rfl) (fun _ _ _ h => h) (Or.inl ⟨by rfl, ?_⟩) (by assumption) ?_
 rotate_left
 ·(intro w hSw; (try dsimp only at hSw); simp only [List.getElem_toArray, List.getElem_cons_zero, List.getElem_cons_succ]; go_simp; first | done | with_reducible rfl)
 simp only [List.getElem_toArray, List.getElem_cons_zero, List.getElem_cons_succ, Act.put, List.setIfInBounds_toArray, List.set_cons_zero, List.set_cons_succ]
 refine wpAnyL_take [12, 13, 14, 15, 16, 17] (i := 11) (v := ?_) rfl (by kernel_rfl) (by kernel_rfl) (by kernel_rfl) (by kernel_rfl) (by kernel_rfl) (fun _ _ _ h => h) (Or.inl ⟨by rfl, ?_⟩) (by assumption) ?_
 rotate_left
 ·(intro w hSw; (try dsimp only at hSw); simp only [List.getElem_toArray, List.getElem_cons_zero, List.getElem_cons_succ]; go_simp; first | done | with_reducible rfl)
 simp only [List.getElem_toArray, List.getElem_cons_zero, List.getElem_cons_succ, Act.put, List.setIfInBounds_toArray, List.set_cons_zero, List.set_cons_succ]
 refine wpAnyL_ready (rs := [5, 12]) (by kernel_rfl) (by simp) ?_
 refine AllReadyL.cons rfl (fun K hK => ?_) (AllReadyL.cons rfl (fun K hK => ?_) (AllReadyL.nil))
 ·skip
  simp only [List.getElem_toArray, List.getElem_cons_zero, List.getElem_cons_succ]
  go_simp
  obtain ⟨b5, hw5⟩ : ∃ b, wd.heap.size = b := ⟨_, rfl⟩
  obtain ⟨y5, hy5⟩ : ∃ y, wd.alloc (.cells #[.int .u64 (key : Int)] 26) = y := ⟨_, rfl⟩
  rw [hy5, hw5]
  have hx5 : Below wd.heap.size wd y5 := by rw [← hy5]; exact balloc (Below.refl _ _) _
  have HN5 : Hid (y5.heap[b5]? = some (.cells #[.int .u64 (key : Int)] 26 (0, 0))) := Lib.hid (by rw [← hy5, ← hw5]; exact heap_alloc_new _ _)
  have HG5 : Hid (w5.heap.size ≤ b5) := Lib.hid (by have := HMD.out.size; omega)
  clear hy5 hw5
  have HMD := Lib.hid (HMD.out.thenBelow hx5)
  have hSp := HSS.out _ HMD.out
  clear hHeld
  refine hK.out _ _ hSp (fun hHeld => ?_)
  clear hSp hK K
  try simp only [Act.put, List.setIfInBounds_toArray, List.set_cons_zero, List.set_cons_succ]
  have HO1 := Lib.hid (ownsRow_below HO1.out hx5)
  have HO2 := Lib.hid (ownsRow_below HO2.out hx5)
  clear hx5
  refine wpAnyL_ready (rs := [6, 12]) (by kernel_rfl) (by simp) ?_
  refine AllReadyL.cons rfl (fun K hK => ?_) (AllReadyL.cons rfl (fun K hK => ?_) (AllReadyL.nil))
  ·skip
   simp only [List.getElem_toArray, List.getElem_cons_zero, List.getElem_cons_succ]
   go_simp
   refine (CI1.out _ _ HO1.out (Nat.le_trans HBW.out HMD.out.size) HN5.out).mono ?_
   rintro e w6 ⟨va, rfl, ho1, hm6, hn6⟩
   dsimp only
   refine hK.out _ _ ?_ (fun hHeld => ?_)
   ·exact HSS.out _ (HMD.out.trans hm6 (fun k hk => .inl (List.mem_append_left _ hk)))
   clear hK K
   try simp only [Act.put, List.setIfInBounds_toArray, List.set_cons_zero, List.set_cons_succ]
   have HDJ : Hid (∀ k ∈ ob va, k ∉ ob (.slice a2 n2 c2)) := Lib.hid (fun k hk hh => by rcases hn6 k hk with h1 | h1; exact HNQ.out.2.2.2.1 k hh h1; have h2 := HNQ.out.2.2.2.2.1 k (List.mem_append_right _ hh); have h3 := HMD.out.size; omega)
   have HO2 := Lib.hid (ownsRow_at HO2.out (fun k hk => hm6.block k (ownsRow_lt HO2.out k hk) (HNQ.out.2.2.2.1 k hk)))
   have HN5 := Lib.hid ((hm6.block _ (Array.getElem?_eq_some_iff.1 HN5.out).1 (fun hh => by have h1 := HG5.out; have h2 := HNQ.out.2.2.2.2.1 _ (List.mem_append_left _ hh); omega)).trans HN5.out)
   (try have HN12 := Lib.hid ((hm6.block _ (Array.getElem?_eq_some_iff.1 HN12.out).1 (fun hh => by have h1 := HG12.out; have h2 := HNQ.out.2.2.2.2.1 _ (List.mem_append_left _ hh); omega)).trans HN12.out))
   have HMD := Lib.hid (HMD.out.trans hm6 (fun k hk => .inl (List.mem_append_left _ hk)))
   obtain ⟨aa, c1', ea⟩ := row_slx ho1
   subst ea
   have HO1 := Lib.hid ho1
   clear ho1 hm6 hn6
   refine wpAnyL_ready (rs := [12]) (by kernel_rfl) (by simp) ?_
   refine AllReadyL.cons rfl (fun K hK => ?_) (AllReadyL.nil)
   simp only [List.getElem_toArray, List.getElem_cons_zero, List.getElem_cons_succ]
   go_simp
   obtain ⟨b12, hw12⟩ : ∃ b, w6.heap.size = b := ⟨_, rfl⟩
   obtain ⟨y12, hy12⟩ : ∃ y, w6.alloc (.cells #[.int .u64 (val : Int)] 26) = y := ⟨_, rfl⟩
   rw [hy12, hw12]
   have hx12 : Below w6.heap.size w6 y12 := by rw [← hy12]; exact balloc (Below.refl _ _) _
   have HN12 : Hid (y12.heap[b12]? = some (.cells #[.int .u64 (val : Int)] 26 (0, 0))) := Lib.hid (by rw [← hy12, ← hw12]; exact heap_alloc_new _ _)
   have HG12 : Hid (w5.heap.size ≤ b12) := Lib.hid (by have := HMD.out.size; omega)
   have HNE5_12 : Hid (b5 ≠ b12) := Lib.hid (by have := (Array.getElem?_eq_some_iff.1 HN5.out).1; omega)
   clear hy12 hw12
   have HMD := Lib.hid (HMD.out.thenBelow hx12)
   have hSp := HSS.out _ HMD.out
   clear hHeld
   refine hK.out _ _ hSp (fun hHeld => ?_)
   clear hSp hK K
   try simp only [Act.put, List.setIfInBounds_toArray, List.set_cons_zero, List.set_cons_succ]
   have HN5 := Lib.hid ((hx12.block b5 (Array.getElem?_eq_some_iff.1 HN5.out).1).trans HN5.out)
   have HO1 := Lib.hid (ownsRow_below HO1.out hx12)
   have HO2 := Lib.hid (ownsRow_below HO2.out hx12)
   clear hx12
   refine wpAnyL_ready (rs := [13]) (by kernel_rfl) (by simp) ?_
   refine AllReadyL.cons rfl (fun K hK => ?_) (AllReadyL.nil)
   simp only [List.getElem_toArray, List.getElem_cons_zero, List.getElem_cons_succ]
   go_simp
   refine (CI2.out _ _ HO2.out (Nat.le_trans HBW.out HMD.out.size) HN12.out).mono ?_
   rintro e w13 ⟨vb, rfl, ho2, hm13, hn13⟩
   dsimp only
   refine hK.out _ _ ?_ (fun hHeld => ?_)
   ·exact HSS.out _ (HMD.out.trans hm13 (fun k hk => .inl (List.mem_append_right _ hk)))
   clear hK K
   try simp only [Act.put, List.setIfInBounds_toArray, List.set_cons_zero, List.set_cons_succ]
   have HO1 := Lib.hid (ownsRow_at HO1.out (fun k hk => hm13.block k (ownsRow_lt HO1.out k hk) (HDJ.out k hk)))
   have HMD := Lib.hid (HMD.out.trans hm13 (fun k hk => .inl (List.mem_append_right _ hk)))
   obtain ⟨ab, c2', eb⟩ := row_slx ho2
   subst eb
   have HO2 := Lib.hid ho2
   clear ho2 hm13 hn13
   refine wpAnyL_take [15, 16, 17] (i := 14) (v := ?_) rfl (by kernel_rfl) (by kernel_rfl) (by kernel_rfl) (by kernel_rfl) (by kernel_rfl) (fun _ _ _ h => h) (Or.inl ⟨by rfl, ?_⟩) (by assumption) ?_
   rotate_left
   ·(intro w hSw; (try dsimp only at hSw); simp only [List.getElem_toArray, List.getElem_cons_zero, List.getElem_cons_succ]; go_simp; first | done | with_reducible rfl)
   simp only [List.getElem_toArray, List.getElem_cons_zero, List.getElem_cons_succ, Act.put, List.setIfInBounds_toArray, List.set_cons_zero, List.set_cons_succ]
   refine wpAnyL_ready (rs := [15]) (by kernel_rfl) (by simp) ?_
   refine AllReadyL.late rfl (by kernel_rfl) (fun K hK => ?_)
   clear hHeld
   have HXQ := Lib.hid ((HMD.out.block _ (Array.getElem?_eq_some_iff.1 HX5.out).1 HNQ.out.1).trans HX5.out)
   have g0 := cellOf HXQ.out 2 (v := .slice a1 n1 c1) rfl
   have f0 := frozenOf HXQ.out 2
   simp only [List.getElem_toArray, List.getElem_cons_zero, List.getElem_cons_succ]
   go_simp
   refine hK.out _ _ ?_
   clear hK K
   try simp only [Act.put, List.setIfInBounds_toArray, List.set_cons_zero, List.set_cons_succ]
   clear g0 f0
   obtain ⟨w15, hw15⟩ : ∃ W, w13.setCell ⟨q, 2, none⟩ (.slice aa (n1 + 1) c1') = W := ⟨_, rfl⟩
   rw [hw15]
   have HX15 : Hid (w15.heap[q]? = some (.cells #[.int .i64 yk, .int .u64 (bb : Int), .slice aa (n1 + 1) c1', .slice a2 n2 c2] 159 (0, 0))) := Lib.hid (by rw [← hw15]; exact setOf HXQ.out 2 _)
   have HM15 : Hid (Mods [q] w13 w15) := Lib.hid (by rw [← hw15]; exact (Mods.refl _ _).setCell (p := ⟨q, 2, none⟩) (List.mem_singleton.2 rfl) _)
   clear hw15
   refine wpAnyL_ready (rs := [16]) (by kernel_rfl) (by simp) ?_
   refine AllReadyL.late rfl (by kernel_rfl) (fun K hK => ?_)
   simp only [List.getElem_toArray, List.getElem_cons_zero, List.getElem_cons_succ]
   go_simp
   refine hK.out _ _ ?_
   clear hK K
   try simp only [Act.put, List.setIfInBounds_toArray, List.set_cons_zero, List.set_cons_succ]
   refine wpAnyL_ready (rs := [17]) (by kernel_rfl) (by simp) ?_
   refine AllReadyL.late rfl (by kernel_rfl) (fun K hK => ?_)
   have g0 := cellOf HX15.out 3 (v := .slice a2 n2 c2) rfl
   have f0 := frozenOf HX15.out 3
   simp only [List.getElem_toArray, List.getElem_cons_zero, List.getElem_cons_succ]
   go_simp
   refine hK.out _ _ ?_
   clear hK K
   try simp only [Act.put, List.setIfInBounds_toArray, List.set_cons_zero, List.set_cons_succ]
   clear g0 f0
   obtain ⟨w17, hw17⟩ : ∃ W, w15.setCell ⟨q, 3, none⟩ (.slice ab (n2 + 1) c2') = W := ⟨_, rfl⟩
   rw [hw17]
   have HX17 : Hid (w17.heap[q]? = some (.cells #[.int .i64 yk, .int .u64 (bb : Int), .slice aa (n1 + 1) c1', .slice ab (n2 + 1) c2'] 159 (0, 0))) := Lib.hid (by rw [← hw17]; exact setOf HX15.out 3 _)
   have HM17 : Hid (Mods [q] w13 w17) := Lib.hid (by rw [← hw17]; exact HM15.out.setCell (p := ⟨q, 3, none⟩) (List.mem_singleton.2 rfl) _)
   clear hw17
   refine wpAnyL_done (by kernel_rfl) ?_ _
   clear HSS
   obtain ⟨m1, hm1⟩ : ∃ z, n1 + 1 = z := ⟨_, rfl⟩
   obtain ⟨m2, hm2⟩ : ∃ z, n2 + 1 = z := ⟨_, rfl⟩
   rw [hm1] at HX17 HO1 ⊢
   rw [hm2] at HX17 HO2 ⊢
   have HM6 : Hid (m1 ≤ 6) := Lib.hid (by have := HBD.out; omega)
   have HLN : Hid (yn.keys.length = m1 ∧ yn.vals.length = m2) := Lib.hid (by
    have h1 := HKB.out
    rw [HYA.out]
    constructor
    ·show (y.keys ++ [key]).length = m1
     simp; omega
    ·show (y.vals ++ [val]).length = m2
     simp; omega)
   have HYN : Hid (yn.k = yk ∧ yn.b = bb) := Lib.hid ⟨by rw [HYA.out]; exact HYK.out, by rw [HYA.out]; exact HKB.out.1.symm⟩
   have HYB : Hid (yn.b = y.b) := Lib.hid (by rw [HYA.out]; rfl)
   have HYO : Hid yn.Ok := Lib.hid (by rw [HYA.out]; exact HY.out.add (by have := HBD.out; have := HKB.out; omega) HLT.out HKV.out.1 HKV.out.2)
   have HO1 : Hid (w17.ownsRow w1.heap.size 26 1 (.slice aa m1 c1') m1 (qV yn.keys)) := Lib.hid (by
    rw [HYA.out]
    exact ownsRow_at HO1.out (fun k hk => HM17.out.block k (ownsRow_lt HO1.out k hk) (fun hh => ob_tag HO1.out HXQ.out (by decide) (by rw [← List.mem_singleton.1 hh]; exact hk))))
   have HO2 : Hid (w17.ownsRow w1.heap.size 26 1 (.slice ab m2 c2') m2 (qV yn.vals)) := Lib.hid (by
    rw [HYA.out]
    exact ownsRow_at HO2.out (fun k hk => HM17.out.block k (ownsRow_lt HO2.out k hk) (fun hh => ob_tag HO2.out HXQ.out (by decide) (by rw [← List.mem_singleton.1 hh]; exact hk))))
   have HC17 : Hid (w17.heap[cb]? = some (.cells #[.int .u32 (i : Int), .int .u32 0, .int .u64 0, .int .u64 0, .int .u64 (ov : Int), .bool ohad] 167 (0, 0))) := Lib.hid (by
    rw [HOV.out.1, HOV.out.2]
    have e1 := (HMD.out.block _ (Array.getElem?_eq_some_iff.1 HC5.out).1 HNQ.out.2.2.1).trans HC5.out
    exact (HM17.out.block _ (Array.getElem?_eq_some_iff.1 e1).1 (fun hh => by have := HQ.out; have := List.mem_singleton.1 hh; omega)).trans e1)
   have HMA : Hid (Mods [] w w17) := Lib.hid ((HMA5.out.trans HMD.out (fun k hk => .inr (by have := HNQ.out.2.2.2.2.2 k hk; have := HB1.out.size; omega))).trans HM17.out (fun k hk => .inr (by have := HQ.out; have := HAL.out; rw [List.mem_singleton.1 hk]; omega)))
   have HQ : Hid (w.heap.size ≤ q ∧ ¬ q = cb) := Lib.hid (by have := HQ.out; have := HAL.out; omega)
   have HCB : Hid (w.heap.size ≤ cb ∧ cb < w1.heap.size) := Lib.hid (by have := HCL.out; have := HAL.out; omega)
   have HLN := HLN
   clear HMD HM17 HXQ HMA5 hm1 hm2
   have CC := tcut_no w17 (.pointer (some ⟨S, 0, none⟩)) (.pointer (some ⟨cb, 0, none⟩)) (.int .i64 yk) (.int .u64 (bb : Int)) (.slice ab m2 c2') q m1 c1' aa HX17.out HM6.out
   go_wp2_with fail
   refine CC.mono ?_
   rintro e w18 ⟨rfl, rfl⟩
   clear CC
   have CFt := tfirst_at w17 yn (.slice aa m1 c1') (.slice ab m2 c2') (by rw [HLN.out.1]; exact Rd.of_own HO1.out)
   rw [HYN.out.1, HYN.out.2] at CFt
   obtain ⟨fk, hfk⟩ : ∃ z, yn.keys.getD 0 0 = z := ⟨_, rfl⟩
   rw [hfk] at CFt
   have HFK := Lib.hid hfk
   have d0 := cellOf HX17.out 0 (v := .int .i64 yk) rfl
   have d1 := cellOf HX17.out 1 (v := .int .u64 (bb : Int)) rfl
   have d2 := cellOf HX17.out 2 (v := .slice aa m1 c1') rfl
   have d3 := cellOf HX17.out 3 (v := .slice ab m2 c2') rfl
   clear hfk
   go_wp2_with fail
   refine CFt.mono ?_
   rintro e w11 ⟨rfl, hb11⟩
   have HB11 := Lib.hid hb11
   have HC11 := Lib.hid ((hb11.block _ (Array.getElem?_eq_some_iff.1 HC17.out).1).trans HC17.out)
   have HX11 := Lib.hid ((hb11.block _ (Array.getElem?_eq_some_iff.1 HX17.out).1).trans HX17.out)
   have HO1 := Lib.hid (ownsRow_below HO1.out hb11)
   have HO2 := Lib.hid (ownsRow_below HO2.out hb11)
   have t2 := cellOf HC11.out 2 (v := .int .u64 0) rfl
   have f2 := frozenOf HC11.out 2
   clear CFt hb11 d0 d1 d2 d3
   go_upto_region 24 with fail
   clear t2 f2
   obtain ⟨w12, hw12⟩ : ∃ W, w11.setCell ⟨cb, 2, none⟩ (.int .u64 (fk : Int)) = W := ⟨_, rfl⟩
   rw [hw12]
   have HC12 : Hid (w12.heap[cb]? = some (.cells #[.int .u32 (i : Int), .int .u32 0, .int .u64 (fk : Int), .int .u64 0, .int .u64 (ov : Int), .bool ohad] 167 (0, 0))) := Lib.hid (by rw [← hw12]; exact setOf HC11.out 2 _)
   have HM12 : Hid (Mods [cb] w11 w12) := Lib.hid (by rw [← hw12]; exact (Mods.refl _ _).setCell (p := ⟨cb, 2, none⟩) (List.mem_singleton.2 rfl) _)
   have HX12 := Lib.hid ((HM12.out.block _ (Array.getElem?_eq_some_iff.1 HX11.out).1 (fun hh => HQ.out.2 (List.mem_singleton.1 hh))).trans HX11.out)
   have HO1 := Lib.hid (ownsRow_at HO1.out (fun k hk => HM12.out.block k (ownsRow_lt HO1.out k hk) (fun hh => ob_tag HO1.out HC11.out (by decide) (by rw [← List.mem_singleton.1 hh]; exact hk))))
   have HO2 := Lib.hid (ownsRow_at HO2.out (fun k hk => HM12.out.block k (ownsRow_lt HO2.out k hk) (fun hh => ob_tag HO2.out HC11.out (by decide) (by rw [← List.mem_singleton.1 hh]; exact hk))))
   have HB12 : Hid (Below w.heap.size w w12) := Lib.hid (((HMA.out.thenBelow HB11.out).trans HM12.out (fun k hk => .inr (by rw [List.mem_singleton.1 hk]; exact HCB.out.1))).below (fun k hk => by simp at hk) (Nat.le_refl _))
   have HMF : Hid (mf < w.heap.size) := Lib.hid HH.out.map.lt
   have CP : Hid (∀ X, Below w12.heap.size w12 X → Calls Tryz.prog 129 #[.pointer (some ⟨S, 0, none⟩), .int .u32 (i : Int), .agg #[.int .i64 yk, .int .u64 (bb : Int), .slice aa m1 c1', .slice ab m2 c2']] X (PutP X S B pm pd mf md s A D Fm Fd l yn i yn.b)) := Lib.hid (fun X hX => by
    have h9 := sput_in (HH.out.below (bthn HB12.out hX)) yn (.slice aa m1 c1') (.slice ab m2 c2') HYO.out (by rw [HLN.out.1]; exact Rd.of_own (ownsRow_below HO1.out hX)) (by rw [HLN.out.2]; exact Rd.of_own (ownsRow_below HO2.out hX)) i HPR.out.1 HPR.out.2.1 x y HG.out HPR.out.2.2.2
    rw [show y.b = yn.b from HYB.out.symm, HYN.out.1, HYN.out.2] at h9
    rw [HYN.out.2]
    exact h9)
   clear hw12
   have HSS : Hid (∀ X, Mods [mf] w12 X → (X.cell? ⟨q, 0, none⟩ = some (.int .i64 yk) ∧ X.cell? ⟨q, 1, none⟩ = some (.int .u64 (bb : Int)) ∧ X.cell? ⟨q, 2, none⟩ = some (.slice aa m1 c1') ∧ X.cell? ⟨q, 3, none⟩ = some (.slice ab m2 c2') ∧ X.cell? ⟨cb, 0, none⟩ = some (.int .u32 (i : Int)) ∧ X.cell? ⟨cb, 1, none⟩ = some (.int .u32 0) ∧ X.cell? ⟨cb, 2, none⟩ = some (.int .u64 (fk : Int)) ∧ X.cell? ⟨cb, 3, none⟩ = some (.int .u64 0) ∧ X.cell? ⟨cb, 4, none⟩ = some (.int .u64 (ov : Int)) ∧ X.cell? ⟨cb, 5, none⟩ = some (.bool ohad)) ∧ Mods [mf] w12 X) := Lib.hid (fun X hb => ⟨⟨(World.cell?_of_block (hb.block _ ((Array.getElem?_eq_some_iff.1 HX12.out).1) (by have := HQ.out; have := HMF.out; simp; omega))).trans (cellOf HX12.out 0 rfl), (World.cell?_of_block (hb.block _ ((Array.getElem?_eq_some_iff.1 HX12.out).1) (by have := HQ.out; have := HMF.out; simp; omega))).trans (cellOf HX12.out 1 rfl), (World.cell?_of_block (hb.block _ ((Array.getElem?_eq_some_iff.1 HX12.out).1) (by have := HQ.out; have := HMF.out; simp; omega))).trans (cellOf HX12.out 2 rfl), (World.cell?_of_block (hb.block _ ((Array.getElem?_eq_some_iff.1 HX12.out).1) (by have := HQ.out; have := HMF.out; simp; omega))).trans (cellOf HX12.out 3 rfl), (World.cell?_of_block (hb.block _ ((Array.getElem?_eq_some_iff.1 HC12.out).1) (by have := HCB.out; have := HMF.out; simp; omega))).trans (cellOf HC12.out 0 rfl), (World.cell?_of_block (hb.block _ ((Array.getElem?_eq_some_iff.1 HC12.out).1) (by have := HCB.out; have := HMF.out; simp; omega))).trans (cellOf HC12.out 1 rfl), (World.cell?_of_block (hb.block _ ((Array.getElem?_eq_some_iff.1 HC12.out).1) (by have := HCB.out; have := HMF.out; simp; omega))).trans (cellOf HC12.out 2 rfl), (World.cell?_of_block (hb.block _ ((Array.getElem?_eq_some_iff.1 HC12.out).1) (by have := HCB.out; have := HMF.out; simp; omega))).trans (cellOf HC12.out 3 rfl), (World.cell?_of_block (hb.block _ ((Array.getElem?_eq_some_iff.1 HC12.out).1) (by have := HCB.out; have := HMF.out; simp; omega))).trans (cellOf HC12.out 4 rfl), (World.cell?_of_block (hb.block _ ((Array.getElem?_eq_some_iff.1 HC12.out).1) (by have := HCB.out; have := HMF.out; simp; omega))).trans (cellOf HC12.out 5 rfl)⟩, hb⟩)
   refine wp_region_late (S := fun X => (X.cell? ⟨q, 0, none⟩ = some (.int .i64 yk) ∧ X.cell? ⟨q, 1, none⟩ = some (.int .u64 (bb : Int)) ∧ X.cell? ⟨q, 2, none⟩ = some (.slice aa m1 c1') ∧ X.cell? ⟨q, 3, none⟩ = some (.slice ab m2 c2') ∧ X.cell? ⟨cb, 0, none⟩ = some (.int .u32 (i : Int)) ∧ X.cell? ⟨cb, 1, none⟩ = some (.int .u32 0) ∧ X.cell? ⟨cb, 2, none⟩ = some (.int .u64 (fk : Int)) ∧ X.cell? ⟨cb, 3, none⟩ = some (.int .u64 0) ∧ X.cell? ⟨cb, 4, none⟩ = some (.int .u64 (ov : Int)) ∧ X.cell? ⟨cb, 5, none⟩ = some (.bool ohad)) ∧ Mods [mf] w12 X) [5] (by kernel_rfl) (HSS.out _ (Mods.of_below (Below.refl _ _).drew)) (fun hHeld => ?_)
   have hbe : Below w12.heap.size w12 w12.drew := (Below.refl _ _).drew
   obtain ⟨wd, hwd⟩ : ∃ y, w12.drew = y := ⟨_, rfl⟩
   rw [hwd] at hHeld hbe ⊢
   have HBE := Lib.hid hbe
   have HS0 : Hid (w12.heap.size ≤ wd.heap.size) := Lib.hid HBE.out.size
   clear hwd hbe
   have HMD := Lib.hid (Mods.of_below (F := [mf]) HBE.out)
   refine wpAnyL_take [5, 6] (i := 0) (v := ?_) rfl (by kernel_rfl) (by kernel_rfl) (by kernel_rfl) (by kernel_rfl) (by kernel_rfl) (fun _ _ _ h => h) (Or.inl ⟨by rfl, ?_⟩) (by assumption) ?_
   rotate_left
   ·(intro w hSw; (try dsimp only at hSw); simp only [List.getElem_toArray, List.getElem_cons_zero, List.getElem_cons_succ]; go_simp; first | done | with_reducible rfl)
   simp only [List.getElem_toArray, List.getElem_cons_zero, List.getElem_cons_succ, Act.put, List.setIfInBounds_toArray, List.set_cons_zero, List.set_cons_succ]
   refine wpAnyL_take [4, 5, 6] (i := 1) (v := ?_) rfl (by kernel_rfl) (by kernel_rfl) (by kernel_rfl) (by kernel_rfl) (by kernel_rfl) (fun _ _ _ h => h) (Or.inl ⟨by rfl, ?_⟩) (by assumption) ?_
   rotate_left
   ·(intro w hSw; (try dsimp only at hSw); simp only [List.getElem_toArray, List.getElem_cons_zero, List.getElem_cons_succ]; go_simp; first | done | with_reducible rfl)
   simp only [List.getElem_toArray, List.getElem_cons_zero, List.getElem_cons_succ, Act.put, List.setIfInBounds_toArray, List.set_cons_zero, List.set_cons_succ]
   refine wpAnyL_take [4, 5, 6] (i := 2) (v := ?_) rfl (by kernel_rfl) (by kernel_rfl) (by kernel_rfl) (by kernel_rfl) (by kernel_rfl) (fun _ _ _ h => h) (Or.inl ⟨by rfl, ?_⟩) (by assumption) ?_
   rotate_left
   ·(intro w hSw; (try dsimp only at hSw); simp only [List.getElem_toArray, List.getElem_cons_zero, List.getElem_cons_succ]; go_simp; first | done | with_reducible rfl)
   simp only [List.getElem_toArray, List.getElem_cons_zero, List.getElem_cons_succ, Act.put, List.setIfInBounds_toArray, List.set_cons_zero, List.set_cons_succ]
   refine wpAnyL_take [4, 5, 6] (i := 3) (v := ?_) rfl (by kernel_rfl) (by kernel_rfl) (by kernel_rfl) (by kernel_rfl) (by kernel_rfl) (fun _ _ _ h => h) (Or.inl ⟨by rfl, ?_⟩) (by assumption) ?_
   rotate_left
   ·(intro w hSw; (try dsimp only at hSw); simp only [List.getElem_toArray, List.getElem_cons_zero, List.getElem_cons_succ]; go_simp; first | done | with_reducible rfl)
   simp only [List.getElem_toArray, List.getElem_cons_zero, List.getElem_cons_succ, Act.put, List.setIfInBounds_toArray, List.set_cons_zero, List.set_cons_succ]
   refine wpAnyL_ready (rs := [4]) (by kernel_rfl) (by simp) ?_
   refine AllReadyL.cons rfl (fun K hK => ?_) (AllReadyL.nil)
   simp only [List.getElem_toArray, List.getElem_cons_zero, List.getElem_cons_succ]
   go_simp
   refine (CP.out _ HBE.out).mono ?_
   rintro e w13 ⟨x2, rfl, hst, hms, hge⟩
   dsimp only
   refine hK.out _ _ ?_ (fun hHeld => ?_)
   ·exact HSS.out _ (HMD.out.trans hms (fun k hk => .inl hk))
   clear hK K
   try simp only [Act.put, List.setIfInBounds_toArray, List.set_cons_zero, List.set_cons_succ]
   have HCW := Lib.hid ((hms.block _ (Nat.lt_of_lt_of_le (Array.getElem?_eq_some_iff.1 HC12.out).1 HBE.out.size) (fun hh => by have := HMF.out; have := HCB.out; have := List.mem_singleton.1 hh; omega)).trans ((HBE.out.block _ (Array.getElem?_eq_some_iff.1 HC12.out).1).trans HC12.out))
   have HST := Lib.hid hst
   have HMS : Hid (Mods [mf] w12 w13) := Lib.hid ((Mods.of_below HBE.out).trans hms (fun k hk => .inl hk))
   have HGE : Hid (∀ k ∈ obN x2, w12.heap.size ≤ k) := Lib.hid (fun k hk => Nat.le_trans HBE.out.size (hge k hk))
   clear hst hms hge
   refine wpAnyL_ready (rs := [5]) (by kernel_rfl) (by simp) ?_
   refine AllReadyL.late rfl (by kernel_rfl) (fun K hK => ?_)
   clear hHeld
   have g0 := cellOf HCW.out 0 (v := .int .u32 (i : Int)) rfl
   have g1 := cellOf HCW.out 1 (v := .int .u32 0) rfl
   have g2 := cellOf HCW.out 2 (v := .int .u64 (fk : Int)) rfl
   have g3 := cellOf HCW.out 3 (v := .int .u64 0) rfl
   have g4 := cellOf HCW.out 4 (v := .int .u64 (ov : Int)) rfl
   have g5 := cellOf HCW.out 5 (v := .bool ohad) rfl
   have f0 := frozenOf HCW.out 0
   have f1 := frozenOf HCW.out 1
   have f2 := frozenOf HCW.out 2
   have f3 := frozenOf HCW.out 3
   have f4 := frozenOf HCW.out 4
   have f5 := frozenOf HCW.out 5
   simp only [List.getElem_toArray, List.getElem_cons_zero, List.getElem_cons_succ]
   go_simp
   refine hK.out _ _ ?_
   clear hK K
   try simp only [Act.put, List.setIfInBounds_toArray, List.set_cons_zero, List.set_cons_succ]
   clear g0 g1 g2 g3 g4 g5 f0 f1 f2 f3 f4 f5
   obtain ⟨z14, hz14⟩ : ∃ W, ((((((w13.setCell ⟨cb, 0, none⟩ (.int .u32 (i : Int))).setCell ⟨cb, 1, none⟩ (.int .u32 0)).setCell ⟨cb, 2, none⟩ (.int .u64 (fk : Int))).setCell ⟨cb, 3, none⟩ (.int .u64 0)).setCell ⟨cb, 4, none⟩ (.int .u64 (ov : Int))).setCell ⟨cb, 5, none⟩ (.bool ohad)) = W := ⟨_, rfl⟩
   rw [hz14]
   have HCE : Hid (z14.heap[cb]? = some (.cells #[.int .u32 (i : Int), .int .u32 0, .int .u64 (fk : Int), .int .u64 0, .int .u64 (ov : Int), .bool ohad] 167 (0, 0))) := Lib.hid (by rw [← hz14]; exact setOf (setOf (setOf (setOf (setOf (setOf HCW.out 0 _) 1 _) 2 _) 3 _) 4 _) 5 _)
   have HME : Hid (Mods [cb] w13 z14) := Lib.hid (by rw [← hz14]; exact (((((((Mods.refl _ _).setCell (p := ⟨cb, 0, none⟩) (by simp) _).setCell (p := ⟨cb, 1, none⟩) (by simp) _).setCell (p := ⟨cb, 2, none⟩) (by simp) _).setCell (p := ⟨cb, 3, none⟩) (by simp) _).setCell (p := ⟨cb, 4, none⟩) (by simp) _).setCell (p := ⟨cb, 5, none⟩) (by simp) _))
   clear hz14
   refine wpAnyL_ready (rs := [6]) (by kernel_rfl) (by simp) ?_
   refine AllReadyL.late rfl (by kernel_rfl) (fun K hK => ?_)
   simp only [List.getElem_toArray, List.getElem_cons_zero, List.getElem_cons_succ]
   go_simp
   refine hK.out _ _ ?_
   clear hK K
   try simp only [Act.put, List.setIfInBounds_toArray, List.set_cons_zero, List.set_cons_succ]
   refine wpAnyL_done (by kernel_rfl) ?_ _
   go_wp2_with fail
   refine bodyPost_ret (v := .tuple #[.agg #[.int .u32 (i : Int), .int .u32 0, .int .u64 (fk : Int), .int .u64 0, .int .u64 (ov : Int), .bool ohad], .int .i64 0]) ?_ rfl ⟨x2, ?_, ?_, ?_, ?_⟩
   ·rw [results_cell_tmp rfl]
    have r1 := run_loadVar_mid (P := Tryz.prog) z14 cb 0 167 [.int .u32 (i : Int), .int .u32 0, .int .u64 (fk : Int), .int .u64 0, .int .u64 (ov : Int), .bool ohad] _ (rangeOf HCE.out) Tryz.underlying167 rfl infoCh
    simp only [asAddr, Array.getD_eq_getD_getElem?, List.getElem?_toArray, List.getElem?_cons_succ, List.getElem?_cons_zero, Option.getD_some, Sem.run_pure, Result.andThen_ok, r1]
   ·rw [HFK.out]
   ·refine HST.out.other HME.out (fun k hk hh => ?_) (fun p hp k hk hh => ?_)
    ·have := HH.out.lt k hk
     have := List.mem_singleton.1 hh
     have := HCB.out.1
     omega
    ·have e := List.mem_singleton.1 hh
     have hcb := HCB.out
     rcases mem_putA hp with rfl | hp
     ·have h1 := HGE.out k hk
      have h4 := (Array.getElem?_eq_some_iff.1 HC12.out).1
      omega
     ·have := (HH.out.nd p hp).lt k hk
      omega
   ·exact ((Mods.of_below HB12.out).trans HMS.out (fun k hk => .inl hk)).trans HME.out (fun k hk => .inr (by rw [List.mem_singleton.1 hk]; exact HCB.out.1))
   ·exact fun k hk => Nat.le_trans HB12.out.size (HGE.out k hk)
  ·skip
   simp only [List.getElem_toArray, List.getElem_cons_zero, List.getElem_cons_succ]
   go_simp
   obtain ⟨b12, hw12⟩ : ∃ b, y5.heap.size = b := ⟨_, rfl⟩
   obtain ⟨y12, hy12⟩ : ∃ y, y5.alloc (.cells #[.int .u64 (val : Int)] 26) = y := ⟨_, rfl⟩
   rw [hy12, hw12]
   have hx12 : Below y5.heap.size y5 y12 := by rw [← hy12]; exact balloc (Below.refl _ _) _
   have HN12 : Hid (y12.heap[b12]? = some (.cells #[.int .u64 (val : Int)] 26 (0, 0))) := Lib.hid (by rw [← hy12, ← hw12]; exact heap_alloc_new _ _)
   have HG12 : Hid (w5.heap.size ≤ b12) := Lib.hid (by have := HMD.out.size; omega)
   have HNE5_12 : Hid (b5 ≠ b12) := Lib.hid (by have := (Array.getElem?_eq_some_iff.1 HN5.out).1; omega)
   clear hy12 hw12
   have HMD := Lib.hid (HMD.out.thenBelow hx12)
   have hSp := HSS.out _ HMD.out
   clear hHeld
   refine hK.out _ _ hSp (fun hHeld => ?_)
   clear hSp hK K
   try simp only [Act.put, List.setIfInBounds_toArray, List.set_cons_zero, List.set_cons_succ]
   have HN5 := Lib.hid ((hx12.block b5 (Array.getElem?_eq_some_iff.1 HN5.out).1).trans HN5.out)
   have HO1 := Lib.hid (ownsRow_below HO1.out hx12)
   have HO2 := Lib.hid (ownsRow_below HO2.out hx12)
   clear hx12
   refine wpAnyL_ready (rs := [6]) (by kernel_rfl) (by simp) ?_
   refine AllReadyL.cons rfl (fun K hK => ?_) (AllReadyL.nil)
   simp only [List.getElem_toArray, List.getElem_cons_zero, List.getElem_cons_succ]
   go_simp
   refine (CI1.out _ _ HO1.out (Nat.le_trans HBW.out HMD.out.size) HN5.out).mono ?_
   rintro e w6 ⟨va, rfl, ho1, hm6, hn6⟩
   dsimp only
   refine hK.out _ _ ?_ (fun hHeld => ?_)
   ·exact HSS.out _ (HMD.out.trans hm6 (fun k hk => .inl (List.mem_append_left _ hk)))
   clear hK K
   try simp only [Act.put, List.setIfInBounds_toArray, List.set_cons_zero, List.set_cons_succ]
   have HDJ : Hid (∀ k ∈ ob va, k ∉ ob (.slice a2 n2 c2)) := Lib.hid (fun k hk hh => by rcases hn6 k hk with h1 | h1; exact HNQ.out.2.2.2.1 k hh h1; have h2 := HNQ.out.2.2.2.2.1 k (List.mem_append_right _ hh); have h3 := HMD.out.size; omega)
   have HO2 := Lib.hid (ownsRow_at HO2.out (fun k hk => hm6.block k (ownsRow_lt HO2.out k hk) (HNQ.out.2.2.2.1 k hk)))
   have HN5 := Lib.hid ((hm6.block _ (Array.getElem?_eq_some_iff.1 HN5.out).1 (fun hh => by have h1 := HG5.out; have h2 := HNQ.out.2.2.2.2.1 _ (List.mem_append_left _ hh); omega)).trans HN5.out)
   (try have HN12 := Lib.hid ((hm6.block _ (Array.getElem?_eq_some_iff.1 HN12.out).1 (fun hh => by have h1 := HG12.out; have h2 := HNQ.out.2.2.2.2.1 _ (List.mem_append_left _ hh); omega)).trans HN12.out))
   have HMD := Lib.hid (HMD.out.trans hm6 (fun k hk => .inl (List.mem_append_left _ hk)))
   obtain ⟨aa, c1', ea⟩ := row_slx ho1
   subst ea
   have HO1 := Lib.hid ho1
   clear ho1 hm6 hn6
   refine wpAnyL_ready (rs := [13]) (by kernel_rfl) (by simp) ?_
   refine AllReadyL.cons rfl (fun K hK => ?_) (AllReadyL.nil)
   simp only [List.getElem_toArray, List.getElem_cons_zero, List.getElem_cons_succ]
   go_simp
   refine (CI2.out _ _ HO2.out (Nat.le_trans HBW.out HMD.out.size) HN12.out).mono ?_
   rintro e w13 ⟨vb, rfl, ho2, hm13, hn13⟩
   dsimp only
   refine hK.out _ _ ?_ (fun hHeld => ?_)
   ·exact HSS.out _ (HMD.out.trans hm13 (fun k hk => .inl (List.mem_append_right _ hk)))
   clear hK K
   try simp only [Act.put, List.setIfInBounds_toArray, List.set_cons_zero, List.set_cons_succ]
   have HO1 := Lib.hid (ownsRow_at HO1.out (fun k hk => hm13.block k (ownsRow_lt HO1.out k hk) (HDJ.out k hk)))
   have HMD := Lib.hid (HMD.out.trans hm13 (fun k hk => .inl (List.mem_append_right _ hk)))
   obtain ⟨ab, c2', eb⟩ := row_slx ho2
   subst eb
   have HO2 := Lib.hid ho2
   clear ho2 hm13 hn13
   refine wpAnyL_take [15, 16, 17] (i := 14) (v := ?_) rfl (by kernel_rfl) (by kernel_rfl) (by kernel_rfl) (by kernel_rfl) (by kernel_rfl) (fun _ _ _ h => h) (Or.inl ⟨by rfl, ?_⟩) (by assumption) ?_
   rotate_left
   ·(intro w hSw; (try dsimp only at hSw); simp only [List.getElem_toArray, List.getElem_cons_zero, List.getElem_cons_succ]; go_simp; first | done | with_reducible rfl)
   simp only [List.getElem_toArray, List.getElem_cons_zero, List.getElem_cons_succ, Act.put, List.setIfInBounds_toArray, List.set_cons_zero, List.set_cons_succ]
   refine wpAnyL_ready (rs := [15]) (by kernel_rfl) (by simp) ?_
   refine AllReadyL.late rfl (by kernel_rfl) (fun K hK => ?_)
   clear hHeld
   have HXQ := Lib.hid ((HMD.out.block _ (Array.getElem?_eq_some_iff.1 HX5.out).1 HNQ.out.1).trans HX5.out)
   have g0 := cellOf HXQ.out 2 (v := .slice a1 n1 c1) rfl
   have f0 := frozenOf HXQ.out 2
   simp only [List.getElem_toArray, List.getElem_cons_zero, List.getElem_cons_succ]
   go_simp
   refine hK.out _ _ ?_
   clear hK K
   try simp only [Act.put, List.setIfInBounds_toArray, List.set_cons_zero, List.set_cons_succ]
   clear g0 f0
   obtain ⟨w15, hw15⟩ : ∃ W, w13.setCell ⟨q, 2, none⟩ (.slice aa (n1 + 1) c1') = W := ⟨_, rfl⟩
   rw [hw15]
   have HX15 : Hid (w15.heap[q]? = some (.cells #[.int .i64 yk, .int .u64 (bb : Int), .slice aa (n1 + 1) c1', .slice a2 n2 c2] 159 (0, 0))) := Lib.hid (by rw [← hw15]; exact setOf HXQ.out 2 _)
   have HM15 : Hid (Mods [q] w13 w15) := Lib.hid (by rw [← hw15]; exact (Mods.refl _ _).setCell (p := ⟨q, 2, none⟩) (List.mem_singleton.2 rfl) _)
   clear hw15
   refine wpAnyL_ready (rs := [16]) (by kernel_rfl) (by simp) ?_
   refine AllReadyL.late rfl (by kernel_rfl) (fun K hK => ?_)
   simp only [List.getElem_toArray, List.getElem_cons_zero, List.getElem_cons_succ]
   go_simp
   refine hK.out _ _ ?_
   clear hK K
   try simp only [Act.put, List.setIfInBounds_toArray, List.set_cons_zero, List.set_cons_succ]
   refine wpAnyL_ready (rs := [17]) (by kernel_rfl) (by simp) ?_
   refine AllReadyL.late rfl (by kernel_rfl) (fun K hK => ?_)
   have g0 := cellOf HX15.out 3 (v := .slice a2 n2 c2) rfl
   have f0 := frozenOf HX15.out 3
   simp only [List.getElem_toArray, List.getElem_cons_zero, List.getElem_cons_succ]
   go_simp
   refine hK.out _ _ ?_
   clear hK K
   try simp only [Act.put, List.setIfInBounds_toArray, List.set_cons_zero, List.set_cons_succ]
   clear g0 f0
   obtain ⟨w17, hw17⟩ : ∃ W, w15.setCell ⟨q, 3, none⟩ (.slice ab (n2 + 1) c2') = W := ⟨_, rfl⟩
   rw [hw17]
   have HX17 : Hid (w17.heap[q]? = some (.cells #[.int .i64 yk, .int .u64 (bb : Int), .slice aa (n1 + 1) c1', .slice ab (n2 + 1) c2'] 159 (0, 0))) := Lib.hid (by rw [← hw17]; exact setOf HX15.out 3 _)
   have HM17 : Hid (Mods [q] w13 w17) := Lib.hid (by rw [← hw17]; exact HM15.out.setCell (p := ⟨q, 3, none⟩) (List.mem_singleton.2 rfl) _)
   clear hw17
   refine wpAnyL_done (by kernel_rfl) ?_ _
   clear HSS
   obtain ⟨m1, hm1⟩ : ∃ z, n1 + 1 = z := ⟨_, rfl⟩
   obtain ⟨m2, hm2⟩ : ∃ z, n2 + 1 = z := ⟨_, rfl⟩
   rw [hm1] at HX17 HO1 ⊢
   rw [hm2] at HX17 HO2 ⊢
   have HM6 : Hid (m1 ≤ 6) := Lib.hid (by have := HBD.out; omega)
   have HLN : Hid (yn.keys.length = m1 ∧ yn.vals.length = m2) := Lib.hid (by
    have h1 := HKB.out
    rw [HYA.out]
    constructor
    ·show (y.keys ++ [key]).length = m1
     simp; omega
    ·show (y.vals ++ [val]).length = m2
     simp; omega)
   have HYN : Hid (yn.k = yk ∧ yn.b = bb) := Lib.hid ⟨by rw [HYA.out]; exact HYK.out, by rw [HYA.out]; exact HKB.out.1.symm⟩
   have HYB : Hid (yn.b = y.b) := Lib.hid (by rw [HYA.out]; rfl)
   have HYO : Hid yn.Ok := Lib.hid (by rw [HYA.out]; exact HY.out.add (by have := HBD.out; have := HKB.out; omega) HLT.out HKV.out.1 HKV.out.2)
   have HO1 : Hid (w17.ownsRow w1.heap.size 26 1 (.slice aa m1 c1') m1 (qV yn.keys)) := Lib.hid (by
    rw [HYA.out]
    exact ownsRow_at HO1.out (fun k hk => HM17.out.block k (ownsRow_lt HO1.out k hk) (fun hh => ob_tag HO1.out HXQ.out (by decide) (by rw [← List.mem_singleton.1 hh]; exact hk))))
   have HO2 : Hid (w17.ownsRow w1.heap.size 26 1 (.slice ab m2 c2') m2 (qV yn.vals)) := Lib.hid (by
    rw [HYA.out]
    exact ownsRow_at HO2.out (fun k hk => HM17.out.block k (ownsRow_lt HO2.out k hk) (fun hh => ob_tag HO2.out HXQ.out (by decide) (by rw [← List.mem_singleton.1 hh]; exact hk))))
   have HC17 : Hid (w17.heap[cb]? = some (.cells #[.int .u32 (i : Int), .int .u32 0, .int .u64 0, .int .u64 0, .int .u64 (ov : Int), .bool ohad] 167 (0, 0))) := Lib.hid (by
    rw [HOV.out.1, HOV.out.2]
    have e1 := (HMD.out.block _ (Array.getElem?_eq_some_iff.1 HC5.out).1 HNQ.out.2.2.1).trans HC5.out
    exact (HM17.out.block _ (Array.getElem?_eq_some_iff.1 e1).1 (fun hh => by have := HQ.out; have := List.mem_singleton.1 hh; omega)).trans e1)
   have HMA : Hid (Mods [] w w17) := Lib.hid ((HMA5.out.trans HMD.out (fun k hk => .inr (by have := HNQ.out.2.2.2.2.2 k hk; have := HB1.out.size; omega))).trans HM17.out (fun k hk => .inr (by have := HQ.out; have := HAL.out; rw [List.mem_singleton.1 hk]; omega)))
   have HQ : Hid (w.heap.size ≤ q ∧ ¬ q = cb) := Lib.hid (by have := HQ.out; have := HAL.out; omega)
   have HCB : Hid (w.heap.size ≤ cb ∧ cb < w1.heap.size) := Lib.hid (by have := HCL.out; have := HAL.out; omega)
   have HLN := HLN
   clear HMD HM17 HXQ HMA5 hm1 hm2
   have CC := tcut_no w17 (.pointer (some ⟨S, 0, none⟩)) (.pointer (some ⟨cb, 0, none⟩)) (.int .i64 yk) (.int .u64 (bb : Int)) (.slice ab m2 c2') q m1 c1' aa HX17.out HM6.out
   go_wp2_with fail
   refine CC.mono ?_
   rintro e w18 ⟨rfl, rfl⟩
   clear CC
   have CFt := tfirst_at w17 yn (.slice aa m1 c1') (.slice ab m2 c2') (by rw [HLN.out.1]; exact Rd.of_own HO1.out)
   rw [HYN.out.1, HYN.out.2] at CFt
   obtain ⟨fk, hfk⟩ : ∃ z, yn.keys.getD 0 0 = z := ⟨_, rfl⟩
   rw [hfk] at CFt
   have HFK := Lib.hid hfk
   have d0 := cellOf HX17.out 0 (v := .int .i64 yk) rfl
   have d1 := cellOf HX17.out 1 (v := .int .u64 (bb : Int)) rfl
   have d2 := cellOf HX17.out 2 (v := .slice aa m1 c1') rfl
   have d3 := cellOf HX17.out 3 (v := .slice ab m2 c2') rfl
   clear hfk
   go_wp2_with fail
   refine CFt.mono ?_
   rintro e w11 ⟨rfl, hb11⟩
   have HB11 := Lib.hid hb11
   have HC11 := Lib.hid ((hb11.block _ (Array.getElem?_eq_some_iff.1 HC17.out).1).trans HC17.out)
   have HX11 := Lib.hid ((hb11.block _ (Array.getElem?_eq_some_iff.1 HX17.out).1).trans HX17.out)
   have HO1 := Lib.hid (ownsRow_below HO1.out hb11)
   have HO2 := Lib.hid (ownsRow_below HO2.out hb11)
   have t2 := cellOf HC11.out 2 (v := .int .u64 0) rfl
   have f2 := frozenOf HC11.out 2
   clear CFt hb11 d0 d1 d2 d3
   go_upto_region 24 with fail
   clear t2 f2
   obtain ⟨w12, hw12⟩ : ∃ W, w11.setCell ⟨cb, 2, none⟩ (.int .u64 (fk : Int)) = W := ⟨_, rfl⟩
   rw [hw12]
   have HC12 : Hid (w12.heap[cb]? = some (.cells #[.int .u32 (i : Int), .int .u32 0, .int .u64 (fk : Int), .int .u64 0, .int .u64 (ov : Int), .bool ohad] 167 (0, 0))) := Lib.hid (by rw [← hw12]; exact setOf HC11.out 2 _)
   have HM12 : Hid (Mods [cb] w11 w12) := Lib.hid (by rw [← hw12]; exact (Mods.refl _ _).setCell (p := ⟨cb, 2, none⟩) (List.mem_singleton.2 rfl) _)
   have HX12 := Lib.hid ((HM12.out.block _ (Array.getElem?_eq_some_iff.1 HX11.out).1 (fun hh => HQ.out.2 (List.mem_singleton.1 hh))).trans HX11.out)
   have HO1 := Lib.hid (ownsRow_at HO1.out (fun k hk => HM12.out.block k (ownsRow_lt HO1.out k hk) (fun hh => ob_tag HO1.out HC11.out (by decide) (by rw [← List.mem_singleton.1 hh]; exact hk))))
   have HO2 := Lib.hid (ownsRow_at HO2.out (fun k hk => HM12.out.block k (ownsRow_lt HO2.out k hk) (fun hh => ob_tag HO2.out HC11.out (by decide) (by rw [← List.mem_singleton.1 hh]; exact hk))))
   have HB12 : Hid (Below w.heap.size w w12) := Lib.hid (((HMA.out.thenBelow HB11.out).trans HM12.out (fun k hk => .inr (by rw [List.mem_singleton.1 hk]; exact HCB.out.1))).below (fun k hk => by simp at hk) (Nat.le_refl _))
   have HMF : Hid (mf < w.heap.size) := Lib.hid HH.out.map.lt
   have CP : Hid (∀ X, Below w12.heap.size w12 X → Calls Tryz.prog 129 #[.pointer (some ⟨S, 0, none⟩), .int .u32 (i : Int), .agg #[.int .i64 yk, .int .u64 (bb : Int), .slice aa m1 c1', .slice ab m2 c2']] X (PutP X S B pm pd mf md s A D Fm Fd l yn i yn.b)) := Lib.hid (fun X hX => by
    have h9 := sput_in (HH.out.below (bthn HB12.out hX)) yn (.slice aa m1 c1') (.slice ab m2 c2') HYO.out (by rw [HLN.out.1]; exact Rd.of_own (ownsRow_below HO1.out hX)) (by rw [HLN.out.2]; exact Rd.of_own (ownsRow_below HO2.out hX)) i HPR.out.1 HPR.out.2.1 x y HG.out HPR.out.2.2.2
    rw [show y.b = yn.b from HYB.out.symm, HYN.out.1, HYN.out.2] at h9
    rw [HYN.out.2]
    exact h9)
   clear hw12
   have HSS : Hid (∀ X, Mods [mf] w12 X → (X.cell? ⟨q, 0, none⟩ = some (.int .i64 yk) ∧ X.cell? ⟨q, 1, none⟩ = some (.int .u64 (bb : Int)) ∧ X.cell? ⟨q, 2, none⟩ = some (.slice aa m1 c1') ∧ X.cell? ⟨q, 3, none⟩ = some (.slice ab m2 c2') ∧ X.cell? ⟨cb, 0, none⟩ = some (.int .u32 (i : Int)) ∧ X.cell? ⟨cb, 1, none⟩ = some (.int .u32 0) ∧ X.cell? ⟨cb, 2, none⟩ = some (.int .u64 (fk : Int)) ∧ X.cell? ⟨cb, 3, none⟩ = some (.int .u64 0) ∧ X.cell? ⟨cb, 4, none⟩ = some (.int .u64 (ov : Int)) ∧ X.cell? ⟨cb, 5, none⟩ = some (.bool ohad)) ∧ Mods [mf] w12 X) := Lib.hid (fun X hb => ⟨⟨(World.cell?_of_block (hb.block _ ((Array.getElem?_eq_some_iff.1 HX12.out).1) (by have := HQ.out; have := HMF.out; simp; omega))).trans (cellOf HX12.out 0 rfl), (World.cell?_of_block (hb.block _ ((Array.getElem?_eq_some_iff.1 HX12.out).1) (by have := HQ.out; have := HMF.out; simp; omega))).trans (cellOf HX12.out 1 rfl), (World.cell?_of_block (hb.block _ ((Array.getElem?_eq_some_iff.1 HX12.out).1) (by have := HQ.out; have := HMF.out; simp; omega))).trans (cellOf HX12.out 2 rfl), (World.cell?_of_block (hb.block _ ((Array.getElem?_eq_some_iff.1 HX12.out).1) (by have := HQ.out; have := HMF.out; simp; omega))).trans (cellOf HX12.out 3 rfl), (World.cell?_of_block (hb.block _ ((Array.getElem?_eq_some_iff.1 HC12.out).1) (by have := HCB.out; have := HMF.out; simp; omega))).trans (cellOf HC12.out 0 rfl), (World.cell?_of_block (hb.block _ ((Array.getElem?_eq_some_iff.1 HC12.out).1) (by have := HCB.out; have := HMF.out; simp; omega))).trans (cellOf HC12.out 1 rfl), (World.cell?_of_block (hb.block _ ((Array.getElem?_eq_some_iff.1 HC12.out).1) (by have := HCB.out; have := HMF.out; simp; omega))).trans (cellOf HC12.out 2 rfl), (World.cell?_of_block (hb.block _ ((Array.getElem?_eq_some_iff.1 HC12.out).1) (by have := HCB.out; have := HMF.out; simp; omega))).trans (cellOf HC12.out 3 rfl), (World.cell?_of_block (hb.block _ ((Array.getElem?_eq_some_iff.1 HC12.out).1) (by have := HCB.out; have := HMF.out; simp; omega))).trans (cellOf HC12.out 4 rfl), (World.cell?_of_block (hb.block _ ((Array.getElem?_eq_some_iff.1 HC12.out).1) (by have := HCB.out; have := HMF.out; simp; omega))).trans (cellOf HC12.out 5 rfl)⟩, hb⟩)
   refine wp_region_late (S := fun X => (X.cell? ⟨q, 0, none⟩ = some (.int .i64 yk) ∧ X.cell? ⟨q, 1, none⟩ = some (.int .u64 (bb : Int)) ∧ X.cell? ⟨q, 2, none⟩ = some (.slice aa m1 c1') ∧ X.cell? ⟨q, 3, none⟩ = some (.slice ab m2 c2') ∧ X.cell? ⟨cb, 0, none⟩ = some (.int .u32 (i : Int)) ∧ X.cell? ⟨cb, 1, none⟩ = some (.int .u32 0) ∧ X.cell? ⟨cb, 2, none⟩ = some (.int .u64 (fk : Int)) ∧ X.cell? ⟨cb, 3, none⟩ = some (.int .u64 0) ∧ X.cell? ⟨cb, 4, none⟩ = some (.int .u64 (ov : Int)) ∧ X.cell? ⟨cb, 5, none⟩ = some (.bool ohad)) ∧ Mods [mf] w12 X) [5] (by kernel_rfl) (HSS.out _ (Mods.of_below (Below.refl _ _).drew)) (fun hHeld => ?_)
   have hbe : Below w12.heap.size w12 w12.drew := (Below.refl _ _).drew
   obtain ⟨wd, hwd⟩ : ∃ y, w12.drew = y := ⟨_, rfl⟩
   rw [hwd] at hHeld hbe ⊢
   have HBE := Lib.hid hbe
   have HS0 : Hid (w12.heap.size ≤ wd.heap.size) := Lib.hid HBE.out.size
   clear hwd hbe
   have HMD := Lib.hid (Mods.of_below (F := [mf]) HBE.out)
   refine wpAnyL_take [5, 6] (i := 0) (v := ?_) rfl (by kernel_rfl) (by kernel_rfl) (by kernel_rfl) (by kernel_rfl) (by kernel_rfl) (fun _ _ _ h => h) (Or.inl ⟨by rfl, ?_⟩) (by assumption) ?_
   rotate_left
   ·(intro w hSw; (try dsimp only at hSw); simp only [List.getElem_toArray, List.getElem_cons_zero, List.getElem_cons_succ]; go_simp; first | done | with_reducible rfl)
   simp only [List.getElem_toArray, List.getElem_cons_zero, List.getElem_cons_succ, Act.put, List.setIfInBounds_toArray, List.set_cons_zero, List.set_cons_succ]
   refine wpAnyL_take [4, 5, 6] (i := 1) (v := ?_) rfl (by kernel_rfl) (by kernel_rfl) (by kernel_rfl) (by kernel_rfl) (by kernel_rfl) (fun _ _ _ h => h) (Or.inl ⟨by rfl, ?_⟩) (by assumption) ?_
   rotate_left
   ·(intro w hSw; (try dsimp only at hSw); simp only [List.getElem_toArray, List.getElem_cons_zero, List.getElem_cons_succ]; go_simp; first | done | with_reducible rfl)
   simp only [List.getElem_toArray, List.getElem_cons_zero, List.getElem_cons_succ, Act.put, List.setIfInBounds_toArray, List.set_cons_zero, List.set_cons_succ]
   refine wpAnyL_take [4, 5, 6] (i := 2) (v := ?_) rfl (by kernel_rfl) (by kernel_rfl) (by kernel_rfl) (by kernel_rfl) (by kernel_rfl) (fun _ _ _ h => h) (Or.inl ⟨by rfl, ?_⟩) (by assumption) ?_
   rotate_left
   ·(intro w hSw; (try dsimp only at hSw); simp only [List.getElem_toArray, List.getElem_cons_zero, List.getElem_cons_succ]; go_simp; first | done | with_reducible rfl)
   simp only [List.getElem_toArray, List.getElem_cons_zero, List.getElem_cons_succ, Act.put, List.setIfInBounds_toArray, List.set_cons_zero, List.set_cons_succ]
   refine wpAnyL_take [4, 5, 6] (i := 3) (v := ?_) rfl (by kernel_rfl) (by kernel_rfl) (by kernel_rfl) (by kernel_rfl) (by kernel_rfl) (fun _ _ _ h => h) (Or.inl ⟨by rfl, ?_⟩) (by assumption) ?_
   rotate_left
   ·(intro w hSw; (try dsimp only at hSw); simp only [List.getElem_toArray, List.getElem_cons_zero, List.getElem_cons_succ]; go_simp; first | done | with_reducible rfl)
   simp only [List.getElem_toArray, List.getElem_cons_zero, List.getElem_cons_succ, Act.put, List.setIfInBounds_toArray, List.set_cons_zero, List.set_cons_succ]
   refine wpAnyL_ready (rs := [4]) (by kernel_rfl) (by simp) ?_
   refine AllReadyL.cons rfl (fun K hK => ?_) (AllReadyL.nil)
   simp only [List.getElem_toArray, List.getElem_cons_zero, List.getElem_cons_succ]
   go_simp
   refine (CP.out _ HBE.out).mono ?_
   rintro e w13 ⟨x2, rfl, hst, hms, hge⟩
   dsimp only
   refine hK.out _ _ ?_ (fun hHeld => ?_)
   ·exact HSS.out _ (HMD.out.trans hms (fun k hk => .inl hk))
   clear hK K
   try simp only [Act.put, List.setIfInBounds_toArray, List.set_cons_zero, List.set_cons_succ]
   have HCW := Lib.hid ((hms.block _ (Nat.lt_of_lt_of_le (Array.getElem?_eq_some_iff.1 HC12.out).1 HBE.out.size) (fun hh => by have := HMF.out; have := HCB.out; have := List.mem_singleton.1 hh; omega)).trans ((HBE.out.block _ (Array.getElem?_eq_some_iff.1 HC12.out).1).trans HC12.out))
   have HST := Lib.hid hst
   have HMS : Hid (Mods [mf] w12 w13) := Lib.hid ((Mods.of_below HBE.out).trans hms (fun k hk => .inl hk))
   have HGE : Hid (∀ k ∈ obN x2, w12.heap.size ≤ k) := Lib.hid (fun k hk => Nat.le_trans HBE.out.size (hge k hk))
   clear hst hms hge
   refine wpAnyL_ready (rs := [5]) (by kernel_rfl) (by simp) ?_
   refine AllReadyL.late rfl (by kernel_rfl) (fun K hK => ?_)
   clear hHeld
   have g0 := cellOf HCW.out 0 (v := .int .u32 (i : Int)) rfl
   have g1 := cellOf HCW.out 1 (v := .int .u32 0) rfl
   have g2 := cellOf HCW.out 2 (v := .int .u64 (fk : Int)) rfl
   have g3 := cellOf HCW.out 3 (v := .int .u64 0) rfl
   have g4 := cellOf HCW.out 4 (v := .int .u64 (ov : Int)) rfl
   have g5 := cellOf HCW.out 5 (v := .bool ohad) rfl
   have f0 := frozenOf HCW.out 0
   have f1 := frozenOf HCW.out 1
   have f2 := frozenOf HCW.out 2
   have f3 := frozenOf HCW.out 3
   have f4 := frozenOf HCW.out 4
   have f5 := frozenOf HCW.out 5
   simp only [List.getElem_toArray, List.getElem_cons_zero, List.getElem_cons_succ]
   go_simp
   refine hK.out _ _ ?_
   clear hK K
   try simp only [Act.put, List.setIfInBounds_toArray, List.set_cons_zero, List.set_cons_succ]
   clear g0 g1 g2 g3 g4 g5 f0 f1 f2 f3 f4 f5
   obtain ⟨z14, hz14⟩ : ∃ W, ((((((w13.setCell ⟨cb, 0, none⟩ (.int .u32 (i : Int))).setCell ⟨cb, 1, none⟩ (.int .u32 0)).setCell ⟨cb, 2, none⟩ (.int .u64 (fk : Int))).setCell ⟨cb, 3, none⟩ (.int .u64 0)).setCell ⟨cb, 4, none⟩ (.int .u64 (ov : Int))).setCell ⟨cb, 5, none⟩ (.bool ohad)) = W := ⟨_, rfl⟩
   rw [hz14]
   have HCE : Hid (z14.heap[cb]? = some (.cells #[.int .u32 (i : Int), .int .u32 0, .int .u64 (fk : Int), .int .u64 0, .int .u64 (ov : Int), .bool ohad] 167 (0, 0))) := Lib.hid (by rw [← hz14]; exact setOf (setOf (setOf (setOf (setOf (setOf HCW.out 0 _) 1 _) 2 _) 3 _) 4 _) 5 _)
   have HME : Hid (Mods [cb] w13 z14) := Lib.hid (by rw [← hz14]; exact (((((((Mods.refl _ _).setCell (p := ⟨cb, 0, none⟩) (by simp) _).setCell (p := ⟨cb, 1, none⟩) (by simp) _).setCell (p := ⟨cb, 2, none⟩) (by simp) _).setCell (p := ⟨cb, 3, none⟩) (by simp) _).setCell (p := ⟨cb, 4, none⟩) (by simp) _).setCell (p := ⟨cb, 5, none⟩) (by simp) _))
   clear hz14
   refine wpAnyL_ready (rs := [6]) (by kernel_rfl) (by simp) ?_
   refine AllReadyL.late rfl (by kernel_rfl) (fun K hK => ?_)
   simp only [List.getElem_toArray, List.getElem_cons_zero, List.getElem_cons_succ]
   go_simp
   refine hK.out _ _ ?_
   clear hK K
   try simp only [Act.put, List.setIfInBounds_toArray, List.set_cons_zero, List.set_cons_succ]
   refine wpAnyL_done (by kernel_rfl) ?_ _
   go_wp2_with fail
   refine bodyPost_ret (v := .tuple #[.agg #[.int .u32 (i : Int), .int .u32 0, .int .u64 (fk : Int), .int .u64 0, .int .u64 (ov : Int), .bool ohad], .int .i64 0]) ?_ rfl ⟨x2, ?_, ?_, ?_, ?_⟩
   ·rw [results_cell_tmp rfl]
    have r1 := run_loadVar_mid (P := Tryz.prog) z14 cb 0 167 [.int .u32 (i : Int), .int .u32 0, .int .u64 (fk : Int), .int .u64 0, .int .u64 (ov : Int), .bool ohad] _ (rangeOf HCE.out) Tryz.underlying167 rfl infoCh
    simp only [asAddr, Array.getD_eq_getD_getElem?, List.getElem?_toArray, List.getElem?_cons_succ, List.getElem?_cons_zero, Option.getD_some, Sem.run_pure, Result.andThen_ok, r1]
   ·rw [HFK.out]
   ·refine HST.out.other HME.out (fun k hk hh => ?_) (fun p hp k hk hh => ?_)
    ·have := HH.out.lt k hk
     have := List.mem_singleton.1 hh
     have := HCB.out.1
     omega
    ·have e := List.mem_singleton.1 hh
     have hcb := HCB.out
     rcases mem_putA hp with rfl | hp
     ·have h1 := HGE.out k hk
      have h4 := (Array.getElem?_eq_some_iff.1 HC12.out).1
      omega
     ·have := (HH.out.nd p hp).lt k hk
      omega
   ·exact ((Mods.of_below HB12.out).trans HMS.out (fun k hk => .inl hk)).trans HME.out (fun k hk => .inr (by rw [List.mem_singleton.1 hk]; exact HCB.out.1))
   ·exact fun k hk => Nat.le_trans HB12.out.size (HGE.out k hk)
 ·skip
  simp only [List.getElem_toArray, List.getElem_cons_zero, List.getElem_cons_succ]
  go_simp
  obtain ⟨b12, hw12⟩ : ∃ b, wd.heap.size = b := ⟨_, rfl⟩
  obtain ⟨y12, hy12⟩ : ∃ y, wd.alloc (.cells #[.int .u64 (val : Int)] 26) = y := ⟨_, rfl⟩
  rw [hy12, hw12]
  have hx12 : Below wd.heap.size wd y12 := by rw [← hy12]; exact balloc (Below.refl _ _) _
  have HN12 : Hid (y12.heap[b12]? = some (.cells #[.int .u64 (val : Int)] 26 (0, 0))) := Lib.hid (by rw [← hy12, ← hw12]; exact heap_alloc_new _ _)
  have HG12 : Hid (w5.heap.size ≤ b12) := Lib.hid (by have := HMD.out.size; omega)
  clear hy12 hw12
  have HMD := Lib.hid (HMD.out.thenBelow hx12)
  have hSp := HSS.out _ HMD.out
  clear hHeld
  refine hK.out _ _ hSp (fun hHeld => ?_)
  clear hSp hK K
  try simp only [Act.put, List.setIfInBounds_toArray, List.set_cons_zero, List.set_cons_succ]
  have HO1 := Lib.hid (ownsRow_below HO1.out hx12)
  have HO2 := Lib.hid (ownsRow_below HO2.out hx12)
  clear hx12
  refine wpAnyL_ready (rs := [5]) (by kernel_rfl) (by simp) ?_
  refine AllReadyL.cons rfl (fun K hK => ?_) (AllReadyL.nil)
  simp only [List.getElem_toArray, List.getElem_cons_zero, List.getElem_cons_succ]
  go_simp
  obtain ⟨b5, hw5⟩ : ∃ b, y12.heap.size = b := ⟨_, rfl⟩
  obtain ⟨y5, hy5⟩ : ∃ y, y12.alloc (.cells #[.int .u64 (key : Int)] 26) = y := ⟨_, rfl⟩
  rw [hy5, hw5]
  have hx5 : Below y12.heap.size y12 y5 := by rw [← hy5]; exact balloc (Below.refl _ _) _
  have HN5 : Hid (y5.heap[b5]? = some (.cells #[.int .u64 (key : Int)] 26 (0, 0))) := Lib.hid (by rw [← hy5, ← hw5]; exact heap_alloc_new _ _)
  have HG5 : Hid (w5.heap.size ≤ b5) := Lib.hid (by have := HMD.out.size; omega)
  have HNE5_12 : Hid (b5 ≠ b12) := Lib.hid (by have := (Array.getElem?_eq_some_iff.1 HN12.out).1; omega)
  clear hy5 hw5
  have HMD := Lib.hid (HMD.out.thenBelow hx5)
  have hSp := HSS.out _ HMD.out
  clear hHeld
  refine hK.out _ _ hSp (fun hHeld => ?_)
  clear hSp hK K
  try simp only [Act.put, List.setIfInBounds_toArray, List.set_cons_zero, List.set_cons_succ]
  have HN12 := Lib.hid ((hx5.block b12 (Array.getElem?_eq_some_iff.1 HN12.out).1).trans HN12.out)
  have HO1 := Lib.hid (ownsRow_below HO1.out hx5)
  have HO2 := Lib.hid (ownsRow_below HO2.out hx5)
  clear hx5
  refine wpAnyL_ready (rs := [6]) (by kernel_rfl) (by simp) ?_
  refine AllReadyL.cons rfl (fun K hK => ?_) (AllReadyL.nil)
  simp only [List.getElem_toArray, List.getElem_cons_zero, List.getElem_cons_succ]
  go_simp
  refine (CI1.out _ _ HO1.out (Nat.le_trans HBW.out HMD.out.size) HN5.out).mono ?_
  rintro e w6 ⟨va, rfl, ho1, hm6, hn6⟩
  dsimp only
  refine hK.out _ _ ?_ (fun hHeld => ?_)
  ·exact HSS.out _ (HMD.out.trans hm6 (fun k hk => .inl (List.mem_append_left _ hk)))
  clear hK K
  try simp only [Act.put, List.setIfInBounds_toArray, List.set_cons_zero, List.set_cons_succ]
  have HDJ : Hid (∀ k ∈ ob va, k ∉ ob (.slice a2 n2 c2)) := Lib.hid (fun k hk hh => by rcases hn6 k hk with h1 | h1; exact HNQ.out.2.2.2.1 k hh h1; have h2 := HNQ.out.2.2.2.2.1 k (List.mem_append_right _ hh); have h3 := HMD.out.size; omega)
  have HO2 := Lib.hid (ownsRow_at HO2.out (fun k hk => hm6.block k (ownsRow_lt HO2.out k hk) (HNQ.out.2.2.2.1 k hk)))
  have HN5 := Lib.hid ((hm6.block _ (Array.getElem?_eq_some_iff.1 HN5.out).1 (fun hh => by have h1 := HG5.out; have h2 := HNQ.out.2.2.2.2.1 _ (List.mem_append_left _ hh); omega)).trans HN5.out)
  (try have HN12 := Lib.hid ((hm6.block _ (Array.getElem?_eq_some_iff.1 HN12.out).1 (fun hh => by have h1 := HG12.out; have h2 := HNQ.out.2.2.2.2.1 _ (List.mem_append_left _ hh); omega)).trans HN12.out))
  have HMD := Lib.hid (HMD.out.trans hm6 (fun k hk => .inl (List.mem_append_left _ hk)))
  obtain ⟨aa, c1', ea⟩ := row_slx ho1
  subst ea
  have HO1 := Lib.hid ho1
  clear ho1 hm6 hn6
  refine wpAnyL_ready (rs := [13]) (by kernel_rfl) (by simp) ?_
  refine AllReadyL.cons rfl (fun K hK => ?_) (AllReadyL.nil)
  simp only [List.getElem_toArray, List.getElem_cons_zero, List.getElem_cons_succ]
  go_simp
  refine (CI2.out _ _ HO2.out (Nat.le_trans HBW.out HMD.out.size) HN12.out).mono ?_
  rintro e w13 ⟨vb, rfl, ho2, hm13, hn13⟩
  dsimp only
  refine hK.out _ _ ?_ (fun hHeld => ?_)
  ·exact HSS.out _ (HMD.out.trans hm13 (fun k hk => .inl (List.mem_append_right _ hk)))
  clear hK K
  try simp only [Act.put, List.setIfInBounds_toArray, List.set_cons_zero, List.set_cons_succ]
  have HO1 := Lib.hid (ownsRow_at HO1.out (fun k hk => hm13.block k (ownsRow_lt HO1.out k hk) (HDJ.out k hk)))
  have HMD := Lib.hid (HMD.out.trans hm13 (fun k hk => .inl (List.mem_append_right _ hk)))
  obtain ⟨ab, c2', eb⟩ := row_slx ho2
  subst eb
  have HO2 := Lib.hid ho2
  clear ho2 hm13 hn13
  refine wpAnyL_take [15, 16, 17] (i := 14) (v := ?_) rfl (by kernel_rfl) (by kernel_rfl) (by kernel_rfl) (by kernel_rfl) (by kernel_rfl) (fun _ _ _ h => h) (Or.inl ⟨by rfl, ?_⟩) (by assumption) ?_
  rotate_left
  ·(intro w hSw; (try dsimp only at hSw); simp only [List.getElem_toArray, List.getElem_cons_zero, List.getElem_cons_succ]; go_simp; first | done | with_reducible rfl)
  simp only [List.getElem_toArray, List.getElem_cons_zero, List.getElem_cons_succ, Act.put, List.setIfInBounds_toArray, List.set_cons_zero, List.set_cons_succ]
  refine wpAnyL_ready (rs := [15]) (by kernel_rfl) (by simp) ?_
  refine AllReadyL.late rfl (by kernel_rfl) (fun K hK => ?_)
  clear hHeld
  have HXQ := Lib.hid ((HMD.out.block _ (Array.getElem?_eq_some_iff.1 HX5.out).1 HNQ.out.1).trans HX5.out)
  have g0 := cellOf HXQ.out 2 (v := .slice a1 n1 c1) rfl
  have f0 := frozenOf HXQ.out 2
  simp only [List.getElem_toArray, List.getElem_cons_zero, List.getElem_cons_succ]
  go_simp
  refine hK.out _ _ ?_
  clear hK K
  try simp only [Act.put, List.setIfInBounds_toArray, List.set_cons_zero, List.set_cons_succ]
  clear g0 f0
  obtain ⟨w15, hw15⟩ : ∃ W, w13.setCell ⟨q, 2, none⟩ (.slice aa (n1 + 1) c1') = W := ⟨_, rfl⟩
  rw [hw15]
  have HX15 : Hid (w15.heap[q]? = some (.cells #[.int .i64 yk, .int .u64 (bb : Int), .slice aa (n1 + 1) c1', .slice a2 n2 c2] 159 (0, 0))) := Lib.hid (by rw [← hw15]; exact setOf HXQ.out 2 _)
  have HM15 : Hid (Mods [q] w13 w15) := Lib.hid (by rw [← hw15]; exact (Mods.refl _ _).setCell (p := ⟨q, 2, none⟩) (List.mem_singleton.2 rfl) _)
  clear hw15
  refine wpAnyL_ready (rs := [16]) (by kernel_rfl) (by simp) ?_
  refine AllReadyL.late rfl (by kernel_rfl) (fun K hK => ?_)
  simp only [List.getElem_toArray, List.getElem_cons_zero, List.getElem_cons_succ]
  go_simp
  refine hK.out _ _ ?_
  clear hK K
  try simp only [Act.put, List.setIfInBounds_toArray, List.set_cons_zero, List.set_cons_succ]
  refine wpAnyL_ready (rs := [17]) (by kernel_rfl) (by simp) ?_
  refine AllReadyL.late rfl (by kernel_rfl) (fun K hK => ?_)
  have g0 := cellOf HX15.out 3 (v := .slice a2 n2 c2) rfl
  have f0 := frozenOf HX15.out 3
  simp only [List.getElem_toArray, List.getElem_cons_zero, List.getElem_cons_succ]
  go_simp
  refine hK.out _ _ ?_
  clear hK K
  try simp only [Act.put, List.setIfInBounds_toArray, List.set_cons_zero, List.set_cons_succ]
  clear g0 f0
  obtain ⟨w17, hw17⟩ : ∃ W, w15.setCell ⟨q, 3, none⟩ (.slice ab (n2 + 1) c2') = W := ⟨_, rfl⟩
  rw [hw17]
  have HX17 : Hid (w17.heap[q]? = some (.cells #[.int .i64 yk, .int .u64 (bb : Int), .slice aa (n1 + 1) c1', .slice ab (n2 + 1) c2'] 159 (0, 0))) := Lib.hid (by rw [← hw17]; exact setOf HX15.out 3 _)
  have HM17 : Hid (Mods [q] w13 w17) := Lib.hid (by rw [← hw17]; exact HM15.out.setCell (p := ⟨q, 3, none⟩) (List.mem_singleton.2 rfl) _)
  clear hw17
  refine wpAnyL_done (by kernel_rfl) ?_ _
  clear HSS
  obtain ⟨m1, hm1⟩ : ∃ z, n1 + 1 = z := ⟨_, rfl⟩
  obtain ⟨m2, hm2⟩ : ∃ z, n2 + 1 = z := ⟨_, rfl⟩
  rw [hm1] at HX17 HO1 ⊢
  rw [hm2] at HX17 HO2 ⊢
  have HM6 : Hid (m1 ≤ 6) := Lib.hid (by have := HBD.out; omega)
  have HLN : Hid (yn.keys.length = m1 ∧ yn.vals.length = m2) := Lib.hid (by
   have h1 := HKB.out
   rw [HYA.out]
   constructor
   ·show (y.keys ++ [key]).length = m1
    simp; omega
   ·show (y.vals ++ [val]).length = m2
    simp; omega)
  have HYN : Hid (yn.k = yk ∧ yn.b = bb) := Lib.hid ⟨by rw [HYA.out]; exact HYK.out, by rw [HYA.out]; exact HKB.out.1.symm⟩
  have HYB : Hid (yn.b = y.b) := Lib.hid (by rw [HYA.out]; rfl)
  have HYO : Hid yn.Ok := Lib.hid (by rw [HYA.out]; exact HY.out.add (by have := HBD.out; have := HKB.out; omega) HLT.out HKV.out.1 HKV.out.2)
  have HO1 : Hid (w17.ownsRow w1.heap.size 26 1 (.slice aa m1 c1') m1 (qV yn.keys)) := Lib.hid (by
   rw [HYA.out]
   exact ownsRow_at HO1.out (fun k hk => HM17.out.block k (ownsRow_lt HO1.out k hk) (fun hh => ob_tag HO1.out HXQ.out (by decide) (by rw [← List.mem_singleton.1 hh]; exact hk))))
  have HO2 : Hid (w17.ownsRow w1.heap.size 26 1 (.slice ab m2 c2') m2 (qV yn.vals)) := Lib.hid (by
   rw [HYA.out]
   exact ownsRow_at HO2.out (fun k hk => HM17.out.block k (ownsRow_lt HO2.out k hk) (fun hh => ob_tag HO2.out HXQ.out (by decide) (by rw [← List.mem_singleton.1 hh]; exact hk))))
  have HC17 : Hid (w17.heap[cb]? = some (.cells #[.int .u32 (i : Int), .int .u32 0, .int .u64 0, .int .u64 0, .int .u64 (ov : Int), .bool ohad] 167 (0, 0))) := Lib.hid (by
   rw [HOV.out.1, HOV.out.2]
   have e1 := (HMD.out.block _ (Array.getElem?_eq_some_iff.1 HC5.out).1 HNQ.out.2.2.1).trans HC5.out
   exact (HM17.out.block _ (Array.getElem?_eq_some_iff.1 e1).1 (fun hh => by have := HQ.out; have := List.mem_singleton.1 hh; omega)).trans e1)
  have HMA : Hid (Mods [] w w17) := Lib.hid ((HMA5.out.trans HMD.out (fun k hk => .inr (by have := HNQ.out.2.2.2.2.2 k hk; have := HB1.out.size; omega))).trans HM17.out (fun k hk => .inr (by have := HQ.out; have := HAL.out; rw [List.mem_singleton.1 hk]; omega)))
  have HQ : Hid (w.heap.size ≤ q ∧ ¬ q = cb) := Lib.hid (by have := HQ.out; have := HAL.out; omega)
  have HCB : Hid (w.heap.size ≤ cb ∧ cb < w1.heap.size) := Lib.hid (by have := HCL.out; have := HAL.out; omega)
  have HLN := HLN
  clear HMD HM17 HXQ HMA5 hm1 hm2
  have CC := tcut_no w17 (.pointer (some ⟨S, 0, none⟩)) (.pointer (some ⟨cb, 0, none⟩)) (.int .i64 yk) (.int .u64 (bb : Int)) (.slice ab m2 c2') q m1 c1' aa HX17.out HM6.out
  go_wp2_with fail
  refine CC.mono ?_
  rintro e w18 ⟨rfl, rfl⟩
  clear CC
  have CFt := tfirst_at w17 yn (.slice aa m1 c1') (.slice ab m2 c2') (by rw [HLN.out.1]; exact Rd.of_own HO1.out)
  rw [HYN.out.1, HYN.out.2] at CFt
  obtain ⟨fk, hfk⟩ : ∃ z, yn.keys.getD 0 0 = z := ⟨_, rfl⟩
  rw [hfk] at CFt
  have HFK := Lib.hid hfk
  have d0 := cellOf HX17.out 0 (v := .int .i64 yk) rfl
  have d1 := cellOf HX17.out 1 (v := .int .u64 (bb : Int)) rfl
  have d2 := cellOf HX17.out 2 (v := .slice aa m1 c1') rfl
  have d3 := cellOf HX17.out 3 (v := .slice ab m2 c2') rfl
  clear hfk
  go_wp2_with fail
  refine CFt.mono ?_
  rintro e w11 ⟨rfl, hb11⟩
  have HB11 := Lib.hid hb11
  have HC11 := Lib.hid ((hb11.block _ (Array.getElem?_eq_some_iff.1 HC17.out).1).trans HC17.out)
  have HX11 := Lib.hid ((hb11.block _ (Array.getElem?_eq_some_iff.1 HX17.out).1).trans HX17.out)
  have HO1 := Lib.hid (ownsRow_below HO1.out hb11)
  have HO2 := Lib.hid (ownsRow_below HO2.out hb11)
  have t2 := cellOf HC11.out 2 (v := .int .u64 0) rfl
  have f2 := frozenOf HC11.out 2
  clear CFt hb11 d0 d1 d2 d3
  go_upto_region 24 with fail
  clear t2 f2
  obtain ⟨w12, hw12⟩ : ∃ W, w11.setCell ⟨cb, 2, none⟩ (.int .u64 (fk : Int)) = W := ⟨_, rfl⟩
  rw [hw12]
  have HC12 : Hid (w12.heap[cb]? = some (.cells #[.int .u32 (i : Int), .int .u32 0, .int .u64 (fk : Int), .int .u64 0, .int .u64 (ov : Int), .bool ohad] 167 (0, 0))) := Lib.hid (by rw [← hw12]; exact setOf HC11.out 2 _)
  have HM12 : Hid (Mods [cb] w11 w12) := Lib.hid (by rw [← hw12]; exact (Mods.refl _ _).setCell (p := ⟨cb, 2, none⟩) (List.mem_singleton.2 rfl) _)
  have HX12 := Lib.hid ((HM12.out.block _ (Array.getElem?_eq_some_iff.1 HX11.out).1 (fun hh => HQ.out.2 (List.mem_singleton.1 hh))).trans HX11.out)
  have HO1 := Lib.hid (ownsRow_at HO1.out (fun k hk => HM12.out.block k (ownsRow_lt HO1.out k hk) (fun hh => ob_tag HO1.out HC11.out (by decide) (by rw [← List.mem_singleton.1 hh]; exact hk))))
  have HO2 := Lib.hid (ownsRow_at HO2.out (fun k hk => HM12.out.block k (ownsRow_lt HO2.out k hk) (fun hh => ob_tag HO2.out HC11.out (by decide) (by rw [← List.mem_singleton.1 hh]; exact hk))))
  have HB12 : Hid (Below w.heap.size w w12) := Lib.hid (((HMA.out.thenBelow HB11.out).trans HM12.out (fun k hk => .inr (by rw [List.mem_singleton.1 hk]; exact HCB.out.1))).below (fun k hk => by simp at hk) (Nat.le_refl _))
  have HMF : Hid (mf < w.heap.size) := Lib.hid HH.out.map.lt
  have CP : Hid (∀ X, Below w12.heap.size w12 X → Calls Tryz.prog 129 #[.pointer (some ⟨S, 0, none⟩), .int .u32 (i : Int), .agg #[.int .i64 yk, .int .u64 (bb : Int), .slice aa m1 c1', .slice ab m2 c2']] X (PutP X S B pm pd mf md s A D Fm Fd l yn i yn.b)) := Lib.hid (fun X hX => by
   have h9 := sput_in (HH.out.below (bthn HB12.out hX)) yn (.slice aa m1 c1') (.slice ab m2 c2') HYO.out (by rw [HLN.out.1]; exact Rd.of_own (ownsRow_below HO1.out hX)) (by rw [HLN.out.2]; exact Rd.of_own (ownsRow_below HO2.out hX)) i HPR.out.1 HPR.out.2.1 x y HG.out HPR.out.2.2.2
   rw [show y.b = yn.b from HYB.out.symm, HYN.out.1, HYN.out.2] at h9
   rw [HYN.out.2]
   exact h9)
  clear hw12
  have HSS : Hid (∀ X, Mods [mf] w12 X → (X.cell? ⟨q, 0, none⟩ = some (.int .i64 yk) ∧ X.cell? ⟨q, 1, none⟩ = some (.int .u64 (bb : Int)) ∧ X.cell? ⟨q, 2, none⟩ = some (.slice aa m1 c1') ∧ X.cell? ⟨q, 3, none⟩ = some (.slice ab m2 c2') ∧ X.cell? ⟨cb, 0, none⟩ = some (.int .u32 (i : Int)) ∧ X.cell? ⟨cb, 1, none⟩ = some (.int .u32 0) ∧ X.cell? ⟨cb, 2, none⟩ = some (.int .u64 (fk : Int)) ∧ X.cell? ⟨cb, 3, none⟩ = some (.int .u64 0) ∧ X.cell? ⟨cb, 4, none⟩ = some (.int .u64 (ov : Int)) ∧ X.cell? ⟨cb, 5, none⟩ = some (.bool ohad)) ∧ Mods [mf] w12 X) := Lib.hid (fun X hb => ⟨⟨(World.cell?_of_block (hb.block _ ((Array.getElem?_eq_some_iff.1 HX12.out).1) (by have := HQ.out; have := HMF.out; simp; omega))).trans (cellOf HX12.out 0 rfl), (World.cell?_of_block (hb.block _ ((Array.getElem?_eq_some_iff.1 HX12.out).1) (by have := HQ.out; have := HMF.out; simp; omega))).trans (cellOf HX12.out 1 rfl), (World.cell?_of_block (hb.block _ ((Array.getElem?_eq_some_iff.1 HX12.out).1) (by have := HQ.out; have := HMF.out; simp; omega))).trans (cellOf HX12.out 2 rfl), (World.cell?_of_block (hb.block _ ((Array.getElem?_eq_some_iff.1 HX12.out).1) (by have := HQ.out; have := HMF.out; simp; omega))).trans (cellOf HX12.out 3 rfl), (World.cell?_of_block (hb.block _ ((Array.getElem?_eq_some_iff.1 HC12.out).1) (by have := HCB.out; have := HMF.out; simp; omega))).trans (cellOf HC12.out 0 rfl), (World.cell?_of_block (hb.block _ ((Array.getElem?_eq_some_iff.1 HC12.out).1) (by have := HCB.out; have := HMF.out; simp; omega))).trans (cellOf HC12.out 1 rfl), (World.cell?_of_block (hb.block _ ((Array.getElem?_eq_some_iff.1 HC12.out).1) (by have := HCB.out; have := HMF.out; simp; omega))).trans (cellOf HC12.out 2 rfl), (World.cell?_of_block (hb.block _ ((Array.getElem?_eq_some_iff.1 HC12.out).1) (by have := HCB.out; have := HMF.out; simp; omega))).trans (cellOf HC12.out 3 rfl), (World.cell?_of_block (hb.block _ ((Array.getElem?_eq_some_iff.1 HC12.out).1) (by have := HCB.out; have := HMF.out; simp; omega))).trans (cellOf HC12.out 4 rfl), (World.cell?_of_block (hb.block _ ((Array.getElem?_eq_some_iff.1 HC12.out).1) (by have := HCB.out; have := HMF.out; simp; omega))).trans (cellOf HC12.out 5 rfl)⟩, hb⟩)
  refine wp_region_late (S := fun X => (X.cell? ⟨q, 0, none⟩ = some (.int .i64 yk) ∧ X.cell? ⟨q, 1, none⟩ = some (.int .u64 (bb : Int)) ∧ X.cell? ⟨q, 2, none⟩ = some (.slice aa m1 c1') ∧ X.cell? ⟨q, 3, none⟩ = some (.slice ab m2 c2') ∧ X.cell? ⟨cb, 0, none⟩ = some (.int .u32 (i : Int)) ∧ X.cell? ⟨cb, 1, none⟩ = some (.int .u32 0) ∧ X.cell? ⟨cb, 2, none⟩ = some (.int .u64 (fk : Int)) ∧ X.cell? ⟨cb, 3, none⟩ = some (.int .u64 0) ∧ X.cell? ⟨cb, 4, none⟩ = some (.int .u64 (ov : Int)) ∧ X.cell? ⟨cb, 5, none⟩ = some (.bool ohad)) ∧ Mods [mf] w12 X) [5] (by kernel_rfl) (HSS.out _ (Mods.of_below (Below.refl _ _).drew)) (fun hHeld => ?_)
  have hbe : Below w12.heap.size w12 w12.drew := (Below.refl _ _).drew
  obtain ⟨wd, hwd⟩ : ∃ y, w12.drew = y := ⟨_, rfl⟩
  rw [hwd] at hHeld hbe ⊢
  have HBE := Lib.hid hbe
  have HS0 : Hid (w12.heap.size ≤ wd.heap.size) := Lib.hid HBE.out.size
  clear hwd hbe
  have HMD := Lib.hid (Mods.of_below (F := [mf]) HBE.out)
  refine wpAnyL_take [5, 6] (i := 0) (v := ?_) rfl (by kernel_rfl) (by kernel_rfl) (by kernel_rfl) (by kernel_rfl) (by kernel_rfl) (fun _ _ _ h => h) (Or.inl ⟨by rfl, ?_⟩) (by assumption) ?_
  rotate_left
  ·(intro w hSw; (try dsimp only at hSw); simp only [List.getElem_toArray, List.getElem_cons_zero, List.getElem_cons_succ]; go_simp; first | done | with_reducible rfl)
  simp only [List.getElem_toArray, List.getElem_cons_zero, List.getElem_cons_succ, Act.put, List.setIfInBounds_toArray, List.set_cons_zero, List.set_cons_succ]
  refine wpAnyL_take [4, 5, 6] (i := 1) (v := ?_) rfl (by kernel_rfl) (by kernel_rfl) (by kernel_rfl) (by kernel_rfl) (by kernel_rfl) (fun _ _ _ h => h) (Or.inl ⟨by rfl, ?_⟩) (by assumption) ?_
  rotate_left
  ·(intro w hSw; (try dsimp only at hSw); simp only [List.getElem_toArray, List.getElem_cons_zero, List.getElem_cons_succ]; go_simp; first | done | with_reducible rfl)
  simp only [List.getElem_toArray, List.getElem_cons_zero, List.getElem_cons_succ, Act.put, List.setIfInBounds_toArray, List.set_cons_zero, List.set_cons_succ]
  refine wpAnyL_take [4, 5, 6] (i := 2) (v := ?_) rfl (by kernel_rfl) (by kernel_rfl) (by kernel_rfl) (by kernel_rfl) (by kernel_rfl) (fun _ _ _ h => h) (Or.inl ⟨by rfl, ?_⟩) (by assumption) ?_
  rotate_left
  ·(intro w hSw; (try dsimp only at hSw); simp only [List.getElem_toArray, List.getElem_cons_zero, List.getElem_cons_succ]; go_simp; first | done | with_reducible rfl)
  simp only [List.getElem_toArray, List.getElem_cons_zero, List.getElem_cons_succ, Act.put, List.setIfInBounds_toArray, List.set_cons_zero, List.set_cons_succ]
  refine wpAnyL_take [4, 5, 6] (i := 3) (v := ?_) rfl (by kernel_rfl) (by kernel_rfl) (by kernel_rfl) (by kernel_rfl) (by kernel_rfl) (fun _ _ _ h => h) (Or.inl ⟨by rfl, ?_⟩) (by assumption) ?_
  rotate_left
  ·(intro w hSw; (try dsimp only at hSw); simp only [List.getElem_toArray, List.getElem_cons_zero, List.getElem_cons_succ]; go_simp; first | done | with_reducible rfl)
  simp only [List.getElem_toArray, List.getElem_cons_zero, List.getElem_cons_succ, Act.put, List.setIfInBounds_toArray, List.set_cons_zero, List.set_cons_succ]
  refine wpAnyL_ready (rs := [4]) (by kernel_rfl) (by simp) ?_
  refine AllReadyL.cons rfl (fun K hK => ?_) (AllReadyL.nil)
  simp only [List.getElem_toArray, List.getElem_cons_zero, List.getElem_cons_succ]
  go_simp
  refine (CP.out _ HBE.out).mono ?_
  rintro e w13 ⟨x2, rfl, hst, hms, hge⟩
  dsimp only
  refine hK.out _ _ ?_ (fun hHeld => ?_)
  ·exact HSS.out _ (HMD.out.trans hms (fun k hk => .inl hk))
  clear hK K
  try simp only [Act.put, List.setIfInBounds_toArray, List.set_cons_zero, List.set_cons_succ]
  have HCW := Lib.hid ((hms.block _ (Nat.lt_of_lt_of_le (Array.getElem?_eq_some_iff.1 HC12.out).1 HBE.out.size) (fun hh => by have := HMF.out; have := HCB.out; have := List.mem_singleton.1 hh; omega)).trans ((HBE.out.block _ (Array.getElem?_eq_some_iff.1 HC12.out).1).trans HC12.out))
  have HST := Lib.hid hst
  have HMS : Hid (Mods [mf] w12 w13) := Lib.hid ((Mods.of_below HBE.out).trans hms (fun k hk => .inl hk))
  have HGE : Hid (∀ k ∈ obN x2, w12.heap.size ≤ k) := Lib.hid (fun k hk => Nat.le_trans HBE.out.size (hge k hk))
  clear hst hms hge
  refine wpAnyL_ready (rs := [5]) (by kernel_rfl) (by simp) ?_
  refine AllReadyL.late rfl (by kernel_rfl) (fun K hK => ?_)
  clear hHeld
  have g0 := cellOf HCW.out 0 (v := .int .u32 (i : Int)) rfl
  have g1 := cellOf HCW.out 1 (v := .int .u32 0) rfl
  have g2 := cellOf HCW.out 2 (v := .int .u64 (fk : Int)) rfl
  have g3 := cellOf HCW.out 3 (v := .int .u64 0) rfl
  have g4 := cellOf HCW.out 4 (v := .int .u64 (ov : Int)) rfl
  have g5 := cellOf HCW.out 5 (v := .bool ohad) rfl
  have f0 := frozenOf HCW.out 0
  have f1 := frozenOf HCW.out 1
  have f2 := frozenOf HCW.out 2
  have f3 := frozenOf HCW.out 3
  have f4 := frozenOf HCW.out 4
  have f5 := frozenOf HCW.out 5
  simp only [List.getElem_toArray, List.getElem_cons_zero, List.getElem_cons_succ]
  go_simp
  refine hK.out _ _ ?_
  clear hK K
  try simp only [Act.put, List.setIfInBounds_toArray, List.set_cons_zero, List.set_cons_succ]
  clear g0 g1 g2 g3 g4 g5 f0 f1 f2 f3 f4 f5
  obtain ⟨z14, hz14⟩ : ∃ W, ((((((w13.setCell ⟨cb, 0, none⟩ (.int .u32 (i : Int))).setCell ⟨cb, 1, none⟩ (.int .u32 0)).setCell ⟨cb, 2, none⟩ (.int .u64 (fk : Int))).setCell ⟨cb, 3, none⟩ (.int .u64 0)).setCell ⟨cb, 4, none⟩ (.int .u64 (ov : Int))).setCell ⟨cb, 5, none⟩ (.bool ohad)) = W := ⟨_, rfl⟩
  rw [hz14]
  have HCE : Hid (z14.heap[cb]? = some (.cells #[.int .u32 (i : Int), .int .u32 0, .int .u64 (fk : Int), .int .u64 0, .int .u64 (ov : Int), .bool ohad] 167 (0, 0))) := Lib.hid (by rw [← hz14]; exact setOf (setOf (setOf (setOf (setOf (setOf HCW.out 0 _) 1 _) 2 _) 3 _) 4 _) 5 _)
  have HME : Hid (Mods [cb] w13 z14) := Lib.hid (by rw [← hz14]; exact (((((((Mods.refl _ _).setCell (p := ⟨cb, 0, none⟩) (by simp) _).setCell (p := ⟨cb, 1, none⟩) (by simp) _).setCell (p := ⟨cb, 2, none⟩) (by simp) _).setCell (p := ⟨cb, 3, none⟩) (by simp) _).setCell (p := ⟨cb, 4, none⟩) (by simp) _).setCell (p := ⟨cb, 5, none⟩) (by simp) _))
  clear hz14
  refine wpAnyL_ready (rs := [6]) (by kernel_rfl) (by simp) ?_
  refine AllReadyL.late rfl (by kernel_rfl) (fun K hK => ?_)
  simp only [List.getElem_toArray, List.getElem_cons_zero, List.getElem_cons_succ]
  go_simp
  refine hK.out _ _ ?_
  clear hK K
  try simp only [Act.put, List.setIfInBounds_toArray, List.set_cons_zero, List.set_cons_succ]
  refine wpAnyL_done (by kernel_rfl) ?_ _
  go_wp2_with fail
  refine bodyPost_ret (v := .tuple #[.agg #[.int .u32 (i : Int), .int .u32 0, .int .u64 (fk : Int), .int .u64 0, .int .u64 (ov : Int), .bool ohad], .int .i64 0]) ?_ rfl ⟨x2, ?_, ?_, ?_, ?_⟩
  ·rw [results_cell_tmp rfl]
   have r1 := run_loadVar_mid (P := Tryz.prog) z14 cb 0 167 [.int .u32 (i : Int), .int .u32 0, .int .u64 (fk : Int), .int .u64 0, .int .u64 (ov : Int), .bool ohad] _ (rangeOf HCE.out) Tryz.underlying167 rfl infoCh
   simp only [asAddr, Array.getD_eq_getD_getElem?, List.getElem?_toArray, List.getElem?_cons_succ, List.getElem?_cons_zero, Option.getD_some, Sem.run_pure, Result.andThen_ok, r1]
  ·rw [HFK.out]
  ·refine HST.out.other HME.out (fun k hk hh => ?_) (fun p hp k hk hh => ?_)
   ·have := HH.out.lt k hk
    have := List.mem_singleton.1 hh
    have := HCB.out.1
    omega
   ·have e := List.mem_singleton.1 hh
    have hcb := HCB.out
    rcases mem_putA hp with rfl | hp
    ·have h1 := HGE.out k hk
     have h4 := (Array.getElem?_eq_some_iff.1 HC12.out).1
     omega
    ·have := (HH.out.nd p hp).lt k hk
     omega
  ·exact ((Mods.of_below HB12.out).trans HMS.out (fun k hk => .inl hk)).trans HME.out (fun k hk => .inr (by rw [List.mem_singleton.1 hk]; exact HCB.out.1))
  ·exact fun k hk => Nat.le_trans HB12.out.size (HGE.out k hk)
end Go.Proofs.YtgmahhdnjikdjaaGreat
