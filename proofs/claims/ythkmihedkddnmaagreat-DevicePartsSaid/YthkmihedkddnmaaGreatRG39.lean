import Derived.Test.YthkmihedkddnmaaGreatRG2
import Derived.Test.YthkmihedkddnmaaGreatRG18
import Derived.Test.YthkmihedkddnmaaGreatRG38
set_option linter.unusedVariables false
set_option linter.unusedSimpArgs false
set_option maxHeartbeats 12800000
set_option maxRecDepth 100000
namespace Go.Proofs.YthkmihedkddnmaaGreat
open Lib (hid)
open Go.RowKit Go.Maps Wire Cmd
theorem pl_endB {w y13 y14 y15 : World} {B Ba C k b12 b13 : Nat} {l l5 : List (Nat × (Vl × Nat))} {sv : Value} {lw : List (Nat × (Vl × Value))} {r : Ans0 × List (Nat × Vl)} {o : Op0} {bl : Int} {a5 a11 : Option Addr} {c5 c11 : Nat}
  (hda : DevAt w.heap.size y13 B Ba l5) (hra : RDevAt w.heap.size y13 C sv lw) (h5 : y13.ownsRow w.heap.size 5 1 (.slice a5 r.1.data.length c5) r.1.data.length (bV r.1.data)) (h11 : y13.ownsRow w.heap.size 5 1 (.slice a11 r.1.data.length c11) r.1.data.length (bV r.1.data))
  (hb14 : ∃ cs, y13.heap[b12]? = some (.cells cs 35 (0, 0))) (m14 : Mods [b12] y13 y14) (hb15 : ∃ cs, y14.heap[b13]? = some (.cells cs 35 (0, 0))) (m15 : Mods [b13] y14 y15)
  (n12 : y15.heap[b12]? = some (.cells #[.int .i64 r.1.code, .int .i64 r.1.done, .slice a5 r.1.data.length c5] 35 (0, 0))) (n13 : y15.heap[b13]? = some (.cells #[.int .i64 r.1.code, .int .i64 r.1.done, .slice a11 r.1.data.length c11] 35 (0, 0)))
  (hrr : stepD (strip l) o bl = r) (hs5 : strip l5 = r.2) (hs11 : mapA (·.1) lw = r.2) (hlk : l.length ≤ k) (hb : Below w.heap.size w y15) : PlMeet w B Ba C (k + 1) r y15 b12 b13 := by
 obtain ⟨cs14, hc14⟩ := hb14; obtain ⟨cs15, hc15⟩ := hb15; have hda := (hda.tagged hc14 (by decide) m14).tagged hc15 (by decide) m15; have hra := (hra.tagged hc14 (by decide) (by decide) (by decide) m14).tagged hc15 (by decide) (by decide) (by decide) m15; have h5 := row_tagged (row_tagged h5 hc14 (by decide) m14) hc15 (by decide) m15; have h11 := row_tagged (row_tagged h11 hc14 (by decide) m14) hc15 (by decide) m15; have hlen : l5.length ≤ k + 1 := by
  have h1 := stepD_len (strip l) o bl; rw [hrr, ← hs5] at h1; unfold strip at h1; rw [mapA_len, mapA_len] at h1; omega
 exact ⟨a5, c5, a11, c11, l5, sv, lw, n12, n13, Rd.of_own h5, Rd.of_own h11, ⟨hda, hra, by rw [hs11, hs5]⟩, hlen, hb⟩
theorem opBoxP {X : World} {b : Nat} {o : Op0} {sl : Value} (h : X.heap[b]? = some (.cells (oC o sl) 40 (0, 0))) : OpAt X b 0 o sl :=
 ⟨cellOf h 0 rfl, cellOf h 1 rfl, cellOf h 2 rfl, cellOf h 3 rfl, cellOf h 4 rfl, cellOf h 5 rfl, cellOf h 6 rfl⟩
theorem get_both {l : List (Nat × (Vl × Nat))} {lw : List (Nat × (Vl × Value))} (hs : mapA (·.1) lw = strip l) (n : Nat) : (getA n lw).map (·.1) = (getA n l).map (·.1) := by
 have h1 := getA_map (fun x : Vl × Value => x.1) n lw; rw [hs] at h1; rw [← h1, getA_strip]
theorem putL_len (l : List (Nat × Vl)) (n : Nat) (k : Int) (c : List UInt8) : (PutL l n k c).length ≤ l.length + 1 := by
 unfold PutL
 split
 ·exact Nat.le_succ _
 ·split
  ·exact Nat.le_succ _
  ·exact putA_le _ _ _
theorem pr_duo {n0 : Nat} {we w9 : World} {B Ba C g n5 cap5 i sn : Nat} {l5 l7 : List (Nat × (Vl × Nat))} {lw : List (Nat × (Vl × Value))} {v pv : Value} {a a2 : Vl} (hd : DevAt n0 we B Ba l7) (hre : RDevAt n0 we C (.slice (some ⟨g, 0, none⟩) n5 cap5) lw)
  (hr : RDevAt n0 w9 C (.slice (some ⟨g, 0, none⟩) n5 cap5) (lw.set i (sn, (a2, v)))) (hm : Mods [g] we w9) (hs : mapA (·.1) lw = strip l5) (hri : Ris (strip l5)) (hli : lw[i]? = some (sn, (a, pv))) (hl : strip l7 = putA sn a2 (strip l5)) : DuoD n0 w9 B Ba l7 C (.slice (some ⟨g, 0, none⟩) n5 cap5) (lw.set i (sn, (a2, v))) := by
 refine ⟨hd.keptCells hm (fun k hk => hre.isCells k (by rw [List.mem_singleton.1 hk, ob_some]; simp)), hr, ?_⟩; have h1 : mapA (·.1) (lw.set i (sn, (a2, v))) = (mapA (·.1) lw).set i (sn, a2) := by unfold mapA; rw [List.map_set]
 have h2 : (strip l5)[i]? = some (sn, a) := by rw [← hs]; unfold mapA; rw [List.getElem?_map, hli]; rfl
 rw [h1, hs, putA_set hri h2, hl]
theorem findI_no {l : List (Nat × (Vl × Nat))} {lw : List (Nat × (Vl × Value))} (hs : mapA (·.1) lw = strip l) {n : Nat} (hg : getA n l = none) : findI n lw = -1 := by
 have h1 := get_both hs n; rw [hg] at h1; have h2 : getA n lw = none := by
  cases h : getA n lw with
  | none => rfl
  | some x => rw [h] at h1; cases h1
 unfold findI; rw [findA_not (fun j q hq e => by
  have h3 := getA_isSome (k := n) (l := lw); rw [h2] at h3; have : n ∈ lw.map (·.1) := List.mem_map.2 ⟨q, List.mem_of_getElem? hq, e⟩; exact absurd (h3.2 this) (by simp))]
theorem findI_in {l : List (Nat × (Vl × Nat))} {lw : List (Nat × (Vl × Value))} (hs : mapA (·.1) lw = strip l) (hr : Ris (strip l)) {n : Nat} {x : Vl × Nat} (hg : getA n l = some x) : ∃ (i : Nat) (v : Value), findI n lw = (i : Int) ∧ lw[i]? = some (n, (x.1, v)) := by
 have h1 := get_both hs n; rw [hg] at h1; obtain ⟨y, hy, e⟩ := Option.map_eq_some_iff.1 h1; obtain ⟨i, hi⟩ := List.mem_iff_getElem?.1 (getA_some hy); have hrw : Ris lw := by
  have h2 := hr; rw [← hs] at h2; unfold Ris mapA at h2; rw [List.pairwise_map] at h2; exact h2
 have hf : findA n lw = some i := findA_at hi rfl (fun j q hj hq e2 => by
  have h3 := (List.pairwise_iff_getElem.1 hrw) j i (List.getElem?_eq_some_iff.1 hq).1 (List.getElem?_eq_some_iff.1 hi).1 hj; rw [(List.getElem?_eq_some_iff.1 hq).2, (List.getElem?_eq_some_iff.1 hi).2] at h3; dsimp only at h3
  omega)
 refine ⟨i, y.2, ?_, by rw [hi]; exact congrArg (fun z => some (n, (z, y.2))) e⟩; unfold findI; rw [hf]
theorem devParts_any (ao : Option Addr) (n cap : Nat) (L : List (Op0 × Value)) (o : Op0) (so : Option Addr) (co : Nat) (bl : Int) (sn : Nat) (sk : Int) (c : List UInt8) (w : World) (hL : Ops w ao n cap L) (ok : o.Ok) (hd : Rd w 1 (.slice so o.data.length co) o.data.length (bV o.data))
  (hbl : -9223372036854775808 ≤ bl ∧ bl ≤ 9223372036854775807) (hsn : sn < 18446744073709551616) (hsk : -9223372036854775808 ≤ sk ∧ sk ≤ 9223372036854775807) (hc : c.length = 256) :
  Calls Tryz.prog 4 #[.slice ao n cap, .agg (oC o (.slice so o.data.length co)), .int .i64 bl, .agg #[.int .u64 (sn : Int), .int .i64 sk], bA c] w fun e w' => e = .returned (.bool true) ∧ Below w.heap.size w w' := by
 have hdm : o.data.length ≤ 9223372036854775807 := by obtain ⟨_, _, _, _, hm, _⟩ := hd; unfold maxLen at hm; omega
 have hnn : n ≤ 9223372036854775807 := by obtain ⟨_, h1, h2, _⟩ := hL; unfold maxLen at h2; omega
 have HOK := hid ok; have HCL := hid hc; have hcs : (bV c).toArray.size = 256 := by simp [bV_len, hc]
 obtain ⟨dl, hdl⟩ : ∃ d, o.data.length = d := ⟨_, rfl⟩
 have HDL := hid hdl; obtain ⟨w1, hw1⟩ : ∃ y, ((w.alloc (.cells #[.int .i64 o.k, .int .u64 (o.vol : Int), .int .u64 (o.to : Int), .int .i64 o.size, .int .i64 o.pl, .int .i64 o.count, .slice so dl co] 40)).alloc (.cells #[.int .u64 (sn : Int), .int .i64 sk] 48)).alloc (.cells (bV c).toArray 50) = y := ⟨_, rfl⟩
 have hb1 : Below w.heap.size w w1 := by rw [← hw1]; exact balloc (balloc (balloc (Below.refl _ _) _) _) _
 have hx6 : w1.heap[w.heap.size]? = some (.cells (oC o (.slice so dl co)) 40 (0, 0)) := by
  rw [← hw1]; exact ((balloc (balloc (Below.refl _ _) _) _).block w.heap.size (by simp)).trans (heap_alloc_new w _)
 have hx8 : w1.heap[w.heap.size + 1]? = some (.cells #[.int .u64 (sn : Int), .int .i64 sk] 48 (0, 0)) := by
  rw [← hw1]; have h1 := heap_alloc_new (w.alloc (.cells #[.int .i64 o.k, .int .u64 (o.vol : Int), .int .u64 (o.to : Int), .int .i64 o.size, .int .i64 o.pl, .int .i64 o.count, .slice so dl co] 40)) (.cells #[.int .u64 (sn : Int), .int .i64 sk] 48); simp only [World.size_alloc] at h1; exact ((balloc (Below.refl _ _) _).block (w.heap.size + 1) (by simp)).trans h1
 have hx9 : w1.heap[w.heap.size + 1 + 1]? = some (.cells (bV c).toArray 50 (0, 0)) := by
  rw [← hw1]; have h1 := heap_alloc_new ((w.alloc (.cells #[.int .i64 o.k, .int .u64 (o.vol : Int), .int .u64 (o.to : Int), .int .i64 o.size, .int .i64 o.pl, .int .i64 o.count, .slice so dl co] 40)).alloc (.cells #[.int .u64 (sn : Int), .int .i64 sk] 48)) (.cells (bV c).toArray 50)
  simpa using h1
 have HBX : Hid (∀ X, Below w1.heap.size w1 X → OpAt X w.heap.size 0 o (.slice so dl co)) := hid (fun X hX => opBoxP ((hX.block _ (hLT hx6)).trans hx6)); have HX8 : Hid (∀ X, Below w1.heap.size w1 X → X.heap[w.heap.size + 1]? = some (.cells #[.int .u64 (sn : Int), .int .i64 sk] 48 (0, 0))) := hid (fun X hX => (hX.block _ (hLT hx8)).trans hx8); have HX9 : Hid (∀ X, Below w1.heap.size w1 X → X.heap[w.heap.size + 1 + 1]? = some (.cells (bV c).toArray 50 (0, 0))) := hid (fun X hX => (hX.block _ (hLT hx9)).trans hx9)
 have HLX : Hid (∀ X, Below w1.heap.size w1 X → Ops X ao n cap L) := hid (fun X hX => hL.below (bthen hb1 hX)); have HDX : Hid (∀ X, Below w1.heap.size w1 X → Rd X 1 (.slice so dl co) dl (bV o.data)) := hid (fun X hX => by rw [← hdl]; exact hd.below (bthen hb1 hX)); have HLL := hid hL.1; have HB1 := hid hb1; have HSB1 : Hid (w.heap.size + 1 + 1 < w1.heap.size) := hid (hLT hx9); have HEN0 : Hid (∀ X, Below w1.heap.size w1 X → Below w.heap.size w X) := hid (fun X hX => bthen hb1 hX); have C1 := much14_any ao n cap L w1 (hL.below hb1); obtain ⟨b1, hb1'⟩ : ∃ b, muchD L = b := ⟨_, rfl⟩
 have HMU1 := hid hb1'; rw [hb1'] at C1; rw [hdl] at hdm ⊢; rw [show (oC o (.slice so dl co)) = #[.int .i64 o.k, .int .u64 (o.vol : Int), .int .u64 (o.to : Int), .int .i64 o.size, .int .i64 o.pl, .int .i64 o.count, .slice so dl co] from rfl]; clear hb1' hL hd ok hb1 hx6 hx8 hx9 hc hdl; unfold bA
 go_enter Tryz.func4, Tryz.ntmps4
 go_wp2_with fail
 (try rw [hw1])
 clear hw1; refine C1.mono ?_; rintro e w2 ⟨rfl, hb2⟩; have HB2 := hid hb2; clear C1 hb2
 cases b1 with
 | true =>
  have CK := known14_any w2; go_wp2_with fail; refine CK.mono ?_; rintro e w3 ⟨rfl, hb3⟩; have HB3 := hid (HEN0.out _ (bthen HB2.out hb3)); clear CK hb3; go_wp2_with fail; go_ret; exact ⟨rfl, HB3.out⟩
 | false =>
 have C3 := much13_any o so co w2 (by rw [HDL.out]; exact hdm); rw [HDL.out] at C3; change Calls _ _ #[.agg #[.int .i64 o.k, .int .u64 (o.vol : Int), .int .u64 (o.to : Int), .int .i64 o.size, .int .i64 o.pl, .int .i64 o.count, .slice so dl co]] _ _ at C3; obtain ⟨b3, hb3⟩ : ∃ b, decide (9000 < (dl : Int)) = b := ⟨_, rfl⟩
 have HMU3 := hid hb3; rw [hb3] at C3; clear hb3; obtain ⟨c0, c1, c2, c3, c4, c5, c6⟩ := HBX.out _ HB2.out; go_wp2_with fail; refine C3.mono ?_; rintro e w3 ⟨rfl, hb3⟩; have HB3 := hid (bthen HB2.out hb3); clear C3 hb3 c0 c1 c2 c3 c4 c5 c6
 cases b3 with
 | true =>
  have CK := known14_any w3; go_wp2_with fail; refine CK.mono ?_; rintro e w4 ⟨rfl, hb4⟩; have HB4 := hid (HEN0.out _ (bthen HB3.out hb4)); clear CK hb4; go_wp2_with fail; go_ret; exact ⟨rfl, HB4.out⟩
 | false =>
 have HDN : Hid (dl ≤ 9000) := hid (by have h1 := of_decide_eq_false HMU3.out; omega); have CN := dnew_any w1.heap.size w3 HB3.out.size; go_wp2_with fail; refine CN.mono ?_; rintro e w4 ⟨B, Ba, rfl, hd4, hb4, _, _⟩; dsimp only; have HD4 := hid hd4; have HB4 := hid (bthen HB3.out hb4); clear CN hd4 hb4; obtain ⟨w5, hw5⟩ : ∃ y, w4.alloc (.cells #[.slice none 0 0] 30) = y := ⟨_, rfl⟩
 have hb5 : Below w4.heap.size w4 w5 := by rw [← hw5]; exact balloc (Below.refl _ _) _
 have hx5 : w5.heap[w4.heap.size]? = some (.cells #[.slice none 0 0] 30 (0, 0)) := by rw [← hw5]; exact heap_alloc_new w4 _
 obtain ⟨C, hC⟩ : ∃ C, w4.heap.size = C := ⟨_, rfl⟩
 rw [hC] at hx5; have HU5 : Hid (DuoD w1.heap.size w5 B Ba [] C (.slice none 0 0) []) := hid ⟨HD4.out.below hb5, ⟨hx5, World.ownsRow_nil _ _ _ _, fun p hp => (by cases hp), by rw [← hC]; exact HB4.out.size⟩, rfl⟩; have HB5 := hid (bthen HB4.out hb5); clear hb5 hx5; go_wp2_with fail
 (try rw [hw5])
 (try rw [hC])
 clear hw5 hC
 go_loopw [13] (fun i wr => ∃ (k : Nat) (sv : Value) (l : List (Nat × (Vl × Nat))) (lw : List (Nat × (Vl × Value))), k ≤ n ∧ i = .int .i64 (k : Int) ∧ DuoD w1.heap.size wr B Ba l C sv lw ∧ l.length ≤ k ∧ Below w1.heap.size w1 wr) (fun i _ => n - (Go.Proofs.intOf i).toNat)
 case atStart => exact ⟨0, _, [], [], Nat.zero_le _, rfl, HU5.out, Nat.le_refl _, HB5.out⟩
 case round =>
  obtain ⟨k, sv, l, lw, hk, rfl, hdu, hlk, hbw⟩ := hrel; have HU := hid hdu; have HBW := hid hbw; have HLK := hid hlk; clear hdu hbw hlk; have hmu := (muchD_no HMU1.out).1; have hn40 : n ≤ 40 := by rw [← HLL.out]; exact hmu
  clear hmu
  by_cases hlt : k < n
  ·have q0 : decide ((k : Int) < (n : Int)) = true := decide_eq_true (by omega)
   obtain ⟨x, hx⟩ : ∃ x, L[k]? = some x := ⟨_, List.getElem?_eq_getElem (by rw [HLL.out]; exact hlt)⟩
   have HX := hid hx; obtain ⟨bo, off, rfl, _, ⟨c0, c1, c2, c3, c4, c5, c6⟩, hok, hrd⟩ := (HLX.out _ HBW.out).2.2.2.2 k x hx; have HCS : Hid (∀ X, Below w1.heap.size w1 X → OpAt X bo (off + k * 7) x.1 x.2) := hid (fun X hX => by
    obtain ⟨b', off', e', _, h', _⟩ := (HLX.out X hX).2.2.2.2 k x HX.out; obtain ⟨rfl, rfl, _⟩ := Addr.mk.inj (Option.some.inj e'); exact h')
   have HRD : Hid (∀ X, Below w1.heap.size w1 X → Rd X 1 x.2 x.1.data.length (bV x.1.data)) := hid (fun X hX => by
    obtain ⟨b', off', e', _, h', _, hr⟩ := (HLX.out X hX).2.2.2.2 k x HX.out; exact hr)
   obtain ⟨ax, cx, ex, _⟩ := id hrd; obtain ⟨p, sl⟩ := x; dsimp only at ex hok hrd c0 c1 c2 c3 c4 c5 c6 HCS HRD; have HPDL : Hid (p.data.length ≤ 9000) := hid ((muchD_no HMU1.out).2 _ (List.mem_of_getElem? HX.out)); have HPK := hid hok; have hex : sl = .slice ax p.data.length cx := ex; subst hex; obtain ⟨pl, hpl⟩ : ∃ d, p.data.length = d := ⟨_, rfl⟩
   have HPL := hid hpl; have CD := ddo_at w1.heap.size wr B Ba l HU.out.a p HPK.out ax cx (HRD.out _ HBW.out); rw [hpl] at CD c6 HCS; change Calls _ _ #[_, .agg #[.int .i64 p.k, .int .u64 (p.vol : Int), .int .u64 (p.to : Int), .int .i64 p.size, .int .i64 p.pl, .int .i64 p.count, .slice ax pl cx]] _ _ at CD; clear ex hok hrd hx hpl; go_wp2_with fail; refine CD.mono ?_; rintro e w6 ⟨v6, l6, rfl, hd6, hs6, _, hc6⟩; have HD6 := hid hd6; have HS6 := hid hs6; have HR6 := hid (HU.out.b.keptMap hc6.1 HU.out.a.isMap)
   have HB6 : Hid (Below w1.heap.size w1 w6) := hid (HBW.out.trans (hc6.1.below HU.out.a.geF HBW.out.size)); clear CD hd6 hs6 hc6 c0 c1 c2 c3 c4 c5 c6; obtain ⟨c0, c1, c2, c3, c4, c5, c6⟩ := HCS.out _ HB6.out; have CR : Calls Tryz.prog 13 #[.pointer (some ⟨C, 0, none⟩), .agg #[.int .i64 p.k, .int .u64 (p.vol : Int), .int .u64 (p.to : Int), .int .i64 p.size, .int .i64 p.pl, .int .i64 p.count, .slice ax pl cx]] w6 fun e w' => RPartP w1.heap.size w6 C sv (stepD (strip l) p 1024) e w' := by
    have h0 := both_len HU.out.eq; have h2 := HLK.out; have h3 := HPDL.out; have h1 := rdo_any w1.heap.size w6 C sv lw HR6.out HB6.out.size p HPK.out ax cx (by omega) (by rw [HU.out.eq]; exact HU.out.a.ok) (by omega) (HRD.out w6 HB6.out); rw [HU.out.eq, stepD_big HU.out.a.ok p 1073741824 (by omega), HPL.out] at h1; exact h1
   go_wp2_with fail; refine CR.mono ?_; rintro e w7 ⟨v7, sv7, l7, rfl, hd7, hs7, _, hc7⟩; have HB7 : Hid (Below w1.heap.size w1 w7) := hid (HB6.out.trans (hc7.1.below HR6.out.geF HB6.out.size)); have HU7 : Hid (DuoD w1.heap.size w7 B Ba l6 C sv7 l7) := hid ⟨HD6.out.keptCells hc7.1 HR6.out.isCells, hd7, by rw [hs7, HS6.out]⟩; have HL7 : Hid (l6.length ≤ k + 1) := hid (by
    have h1 := stepD_len (strip l) p 1024; rw [← HS6.out] at h1; unfold strip at h1; rw [mapA_len, mapA_len] at h1; have h2 := HLK.out
    omega)
   clear CR hd7 hs7 hc7 c0 c1 c2 c3 c4 c5 c6; go_wp2_with fail; go_roundw
   case rel => exact ⟨k + 1, sv7, l6, l7, by omega, by go_num, HU7.out, HL7.out, HB7.out⟩
   case measure => simp [Go.Proofs.intOf]; omega
  ·obtain rfl : k = n := by omega
   have q0 : decide ((k : Int) < (k : Int)) = false := decide_eq_false (by omega)
   have CD : Hid (∀ X, Below w1.heap.size w1 X → DevAt w1.heap.size X B Ba l → Calls Tryz.prog 18 #[.pointer (some ⟨B, 0, none⟩), .agg #[.int .i64 o.k, .int .u64 (o.vol : Int), .int .u64 (o.to : Int), .int .i64 o.size, .int .i64 o.pl, .int .i64 o.count, .slice so dl co], .int .i64 bl] X fun e w' => ∃ v l', e = .returned (.agg #[.int .i64 (stepD (strip l) o bl).1.code, .int .i64 (stepD (strip l) o bl).1.done, v]) ∧ DevAt w1.heap.size w' B Ba l' ∧ strip l' = (stepD (strip l) o bl).2 ∧ w'.ownsRow X.heap.size 5 1 v (stepD (strip l) o bl).1.data.length (bV (stepD (strip l) o bl).1.data) ∧ Chg (dF Ba l) X w' (dF Ba l')) :=
    hid (fun X hX hD => by have h1 := dpart_at w1.heap.size X B Ba l hD o HOK.out so co bl hbl (by rw [HDL.out]; exact HDX.out X hX); rw [HDL.out] at h1; exact h1)
   have CR : Hid (∀ X, Below w1.heap.size w1 X → RDevAt w1.heap.size X C sv lw → Calls Tryz.prog 19 #[.pointer (some ⟨C, 0, none⟩), .agg #[.int .i64 o.k, .int .u64 (o.vol : Int), .int .u64 (o.to : Int), .int .i64 o.size, .int .i64 o.pl, .int .i64 o.count, .slice so dl co], .int .i64 bl] X fun e w' => ∃ v sv' l', e = .returned (.agg #[.int .i64 (stepD (strip l) o bl).1.code, .int .i64 (stepD (strip l) o bl).1.done, v]) ∧ RDevAt w1.heap.size w' C sv' l' ∧ mapA (·.1) l' = (stepD (strip l) o bl).2 ∧ w'.ownsRow X.heap.size 5 1 v (stepD (strip l) o bl).1.data.length (bV (stepD (strip l) o bl).1.data) ∧ Chg (C :: ob sv) X w' (C :: ob sv')) :=
    hid (fun X hX hD => by
     have h0 := both_len HU.out.eq; have h2 := HLK.out; have h1 := rpart_any w1.heap.size X C sv lw hD hX.size o HOK.out so co (by have := HDN.out; have := HDL.out; omega) (by rw [HU.out.eq]; exact HU.out.a.ok) (by omega) bl (by rw [HDL.out]; exact HDX.out X hX); rw [HU.out.eq, HDL.out] at h1; exact h1)
   obtain ⟨r, hr⟩ : ∃ r, stepD (strip l) o bl = r := ⟨_, rfl⟩
   have HRR := hid hr; rw [hr] at CD CR; clear hr; have HGE : Hid (∀ i ∈ dF Ba l ++ (C :: ob sv), w1.heap.size ≤ i) := hid (fun i h => by
    rcases List.mem_append.1 h with h | h
    ·exact HU.out.a.geF i h
    ·exact HU.out.b.geF i h)
   have HFB : Hid (w.heap.size ∉ dF Ba l ++ (C :: ob sv)) := hid (fun h => by have h1 := HGE.out _ h; have h2 := HSB1.out; omega); have HBOL : Hid (w.heap.size < wr.heap.size) := hid (by have h1 := HBW.out.size; have h2 := HSB1.out; omega); have HFL : Hid (∀ i ∈ dF Ba l ++ (C :: ob sv), i < wr.heap.size) := hid (fun i h => by
    rcases List.mem_append.1 h with h | h
    ·obtain ⟨es, cl, h1⟩ := HU.out.a.isMap i h
     exact (hLT h1)
    ·obtain ⟨cs, t, h1, _⟩ := HU.out.b.isCells i h
     exact (hLT h1))
   have HTO : Hid (∀ X, Mods (dF Ba l ++ (C :: ob sv)) wr X → Below w1.heap.size w1 X) := hid (fun X h => HBW.out.trans (h.below (fun i hi => HGE.out i hi) HBW.out.size))
   go_upto_region 11 with fail
   go_cut [14, 15] (fun p q wx => ∃ W b8 b9, W = wx ∧ p = .pointer (some ⟨b8, 0, none⟩) ∧ q = .pointer (some ⟨b9, 0, none⟩) ∧ PlMeet w1 B Ba C (k + 1) r W b8 b9)
   case first =>
    have HSS : Hid (∀ X, Mods (dF Ba l ++ (C :: ob sv)) wr X → (X.cell? ⟨w.heap.size, 0, none⟩ = some (.int .i64 o.k) ∧ X.cell? ⟨w.heap.size, 1, none⟩ = some (.int .u64 (o.vol : Int)) ∧ X.cell? ⟨w.heap.size, 2, none⟩ = some (.int .u64 (o.to : Int)) ∧ X.cell? ⟨w.heap.size, 3, none⟩ = some (.int .i64 o.size) ∧ X.cell? ⟨w.heap.size, 4, none⟩ = some (.int .i64 o.pl) ∧ X.cell? ⟨w.heap.size, 5, none⟩ = some (.int .i64 o.count) ∧ X.cell? ⟨w.heap.size, 6, none⟩ = some (.slice so dl co)) ∧ Mods (dF Ba l ++ (C :: ob sv)) wr X) := hid (fun X hb => ⟨⟨(World.cell?_of_block (hb.block _ (HBOL.out) (HFB.out))).trans ((HBX.out _ HBW.out).1), (World.cell?_of_block (hb.block _ (HBOL.out) (HFB.out))).trans ((HBX.out _ HBW.out).2.1), (World.cell?_of_block (hb.block _ (HBOL.out) (HFB.out))).trans ((HBX.out _ HBW.out).2.2.1), (World.cell?_of_block (hb.block _ (HBOL.out) (HFB.out))).trans ((HBX.out _ HBW.out).2.2.2.1), (World.cell?_of_block (hb.block _ (HBOL.out) (HFB.out))).trans ((HBX.out _ HBW.out).2.2.2.2.1), (World.cell?_of_block (hb.block _ (HBOL.out) (HFB.out))).trans ((HBX.out _ HBW.out).2.2.2.2.2.1), (World.cell?_of_block (hb.block _ (HBOL.out) (HFB.out))).trans ((HBX.out _ HBW.out).2.2.2.2.2.2)⟩, hb⟩)
    refine region_normal (S := fun X => (X.cell? ⟨w.heap.size, 0, none⟩ = some (.int .i64 o.k) ∧ X.cell? ⟨w.heap.size, 1, none⟩ = some (.int .u64 (o.vol : Int)) ∧ X.cell? ⟨w.heap.size, 2, none⟩ = some (.int .u64 (o.to : Int)) ∧ X.cell? ⟨w.heap.size, 3, none⟩ = some (.int .i64 o.size) ∧ X.cell? ⟨w.heap.size, 4, none⟩ = some (.int .i64 o.pl) ∧ X.cell? ⟨w.heap.size, 5, none⟩ = some (.int .i64 o.count) ∧ X.cell? ⟨w.heap.size, 6, none⟩ = some (.slice so dl co)) ∧ Mods (dF Ba l ++ (C :: ob sv)) wr X) (by kernel_rfl) (HSS.out _ (Mods.of_below (Below.refl _ _).drew)) (fun hHeld => ?_)
    have hbe : Below wr.heap.size wr wr.drew := (Below.refl _ _).drew; obtain ⟨wd, hwd⟩ : ∃ y, wr.drew = y := ⟨_, rfl⟩
    rw [hwd] at hHeld hbe ⊢; have HBE := hid hbe; have HS0 : Hid (wr.heap.size ≤ wd.heap.size) := hid HBE.out.size; clear hwd hbe; have HMD := hid (Mods.of_below (F := (dF Ba l ++ (C :: ob sv))) HBE.out); have HDA := hid (HU.out.a.below HBE.out); have HRA := hid (HU.out.b.below HBE.out); refine tkW 0 rfl ?_; refine tkW 1 rfl ?_; refine tkW 2 rfl ?_; refine tkW 4 rfl ?_; refine tkW 5 rfl ?_; refine tkW 6 rfl ?_; refine wpAnyH_ready (rs := [3, 8, 9]) (by kernel_rfl) (by simp) ?_
    refine AllReadyH.cons rfl (fun K hK => ?_) (AllReadyH.cons rfl (fun K hK => ?_) (AllReadyH.cons rfl (fun K hK => ?_) (AllReadyH.nil)))
    ·skip
     simp only [gE1, gE2, gE3]; go_simp; refine (CD.out _ (HTO.out _ HMD.out) HDA.out).mono ?_; rintro e w5 ⟨v5, l5, rfl, hd5, hs5, ho5, hc5⟩; dsimp only; refine hK.out _ _ ?_ (fun hHeld => ?_)
     ·exact HSS.out _ (pl5 HFL.out HMD.out HDA.out HRA.out hc5).2.1
     clear hK K; try simp only [Act.put, pE1, pE2, pE3]
     obtain ⟨a5, c5, e5⟩ := row_slice ho5; subst e5; have HO5 := hid (row_mono (HTO.out _ HMD.out).size ho5); obtain ⟨hk1, hk2, hk3⟩ := pl5 HFL.out HMD.out HDA.out HRA.out hc5
     try have HN8 := hid ((hk3 b8 HG8.out (hLT HN8.out)).trans HN8.out)
     try have HN9 := hid ((hk3 b9 HG9.out (hLT HN9.out)).trans HN9.out)
     have HRA := hid hk1; have HDA := hid hd5; have HMD := hid hk2; have HS5 := hid hs5; clear hd5 hs5 ho5 hc5 hk1 hk2 hk3; refine wpAnyH_ready (rs := [7, 8, 9]) (by kernel_rfl) (by simp) ?_; refine AllReadyH.cons rfl (fun K hK => ?_) (AllReadyH.cons rfl (fun K hK => ?_) (AllReadyH.cons rfl (fun K hK => ?_) (AllReadyH.nil)))
     ·skip
      simp only [gE1, gE2, gE3]; go_simp; refine (CR.out _ (HTO.out _ HMD.out) HRA.out).mono ?_; rintro e w11 ⟨v11, sv11, l11, rfl, hd11, hs11, ho11, hc11⟩; dsimp only; refine hK.out _ _ ?_ (fun hHeld => ?_)
      ·exact HSS.out _ (pl11 HFL.out HMD.out HDA.out HRA.out hc11).2.1
      clear hK K; try simp only [Act.put, pE1, pE2, pE3]
      obtain ⟨a11, c11, e11⟩ := row_slice ho11; subst e11; have HO11 := hid (row_mono (HTO.out _ HMD.out).size ho11); obtain ⟨hk1, hk2, hk3⟩ := pl11 HFL.out HMD.out HDA.out HRA.out hc11
      try have HN8 := hid ((hk3 b8 HG8.out (hLT HN8.out)).trans HN8.out)
      try have HN9 := hid ((hk3 b9 HG9.out (hLT HN9.out)).trans HN9.out)
      have HO5 := hid (row_cells HO5.out HRA.out hc11.1); have HDA := hid hk1; have HRA := hid hd11; have HMD := hid hk2; have HS11 := hid hs11; clear hd11 hs11 ho11 hc11 hk1 hk2 hk3; refine rd2 8 9 rfl rfl (fun K hK => ?_) fun K hK => ?_
      ·skip
       simp only [gE1, gE2, gE3]; go_simp; obtain ⟨b8, y8, hw8, hy8, hx8, HN8⟩ := al w11 (.cells #[.int .i64 0, .int .i64 0, .slice none 0 0] 35); rw [hy8, hw8]; have HG8 : Hid (wr.heap.size ≤ b8) := hid (by have := HMD.out.size; omega); clear hy8 hw8; have HMD := hid (HMD.out.thenBelow hx8); clear hHeld; refine hK.out _ _ (HSS.out _ HMD.out) fun hHeld => ?_; clear hK K; try simp only [Act.put, pE1, pE2, pE3]
       have HDA := hid (HDA.out.below hx8); have HRA := hid (HRA.out.below hx8)
       try have HO5 := hid (ownsRow_below HO5.out hx8)
       try have HO11 := hid (ownsRow_below HO11.out hx8)
       clear hx8; refine rd1 9 rfl fun K hK => ?_; simp only [gE1, gE2, gE3]; go_simp; obtain ⟨b9, y9, hw9, hy9, hx9, HN9⟩ := al y8 (.cells #[.int .i64 0, .int .i64 0, .slice none 0 0] 35); rw [hy9, hw9]; have HG9 : Hid (wr.heap.size ≤ b9) := hid (by have := HMD.out.size; omega); have HNE8_9 : Hid (b8 ≠ b9) := hid (by have := (hLT HN8.out); omega); clear hy9 hw9; have HMD := hid (HMD.out.thenBelow hx9); clear hHeld; refine hK.out _ _ (HSS.out _ HMD.out) fun hHeld => ?_; clear hK K; try simp only [Act.put, pE1, pE2, pE3]
       have HN8 := hid (nX hx9 HN8.out); have HDA := hid (HDA.out.below hx9); have HRA := hid (HRA.out.below hx9)
       try have HO5 := hid (ownsRow_below HO5.out hx9)
       try have HO11 := hid (ownsRow_below HO11.out hx9)
       clear hx9; refine rd1 10 rfl fun K hK => ?_; obtain ⟨hc10_0, hf10_0, hc10_1, hf10_1, hc10_2, hf10_2⟩ := bx3 HN8.out; simp only [gE1, gE2, gE3]; go_simp; obtain ⟨y10, hy10, hm10, hv10⟩ := st3 HN8.out (.int .i64 r.1.code) (.int .i64 r.1.done) (.slice a5 r.1.data.length c5); rw [hy10]; clear hy10 hc10_0 hf10_0 hc10_1 hf10_1 hc10_2 hf10_2; have HMD := hid (mM HMD.out hm10 HG8.out); clear hHeld; refine hK.out _ _ (HSS.out _ HMD.out) fun hHeld => ?_; clear hK K; try simp only [Act.put, pE1, pE2, pE3]
       have HN9 := hid (nMa hm10 HN9.out HNE8_9.out); have HB10o : Hid (∃ cs, y9.heap[b8]? = some (.cells cs 35 (0, 0))) := hid ⟨_, HN8.out⟩; have HN8 := hid hv10; have HM10 := hid hm10; clear hv10 hm10; refine rd1 11 rfl fun K hK => ?_; obtain ⟨hc11_0, hf11_0, hc11_1, hf11_1, hc11_2, hf11_2⟩ := bx3 HN9.out; simp only [gE1, gE2, gE3]; go_simp; obtain ⟨y11, hy11, hm11, hv11⟩ := st3 HN9.out (.int .i64 r.1.code) (.int .i64 r.1.done) (.slice a11 r.1.data.length c11); rw [hy11]; clear hy11 hc11_0 hf11_0 hc11_1 hf11_1 hc11_2 hf11_2; have HMD := hid (mM HMD.out hm11 HG9.out); clear hHeld
       refine hK.out _ _ (HSS.out _ HMD.out) fun hHeld => ?_; clear hK K; try simp only [Act.put, pE1, pE2, pE3]
       have HN8 := hid (nMb hm11 HN8.out HNE8_9.out); have HB11o : Hid (∃ cs, y10.heap[b9]? = some (.cells cs 35 (0, 0))) := hid ⟨_, HN9.out⟩; have HN9 := hid hv11; have HM11 := hid hm11; clear hv11 hm11; refine wpAnyH_done (by kernel_rfl) ⟨rfl, ?_⟩ _; have HEND := hid hHeld.2; have HSE := hid hHeld.1; clear hHeld; clear HSE HSS HEND; have HPM := hid (pl_endB HDA.out HRA.out HO5.out HO11.out HB10o.out HM10.out HB11o.out HM11.out HN8.out HN9.out HRR.out HS5.out HS11.out HLK.out (HTO.out _ HMD.out)); go_wp2_with fail; go_meet; exact ⟨_, _, _, rfl, rfl, rfl, HPM.out⟩
      ·skip
       simp only [gE1, gE2, gE3]; go_simp; obtain ⟨b9, y9, hw9, hy9, hx9, HN9⟩ := al w11 (.cells #[.int .i64 0, .int .i64 0, .slice none 0 0] 35); rw [hy9, hw9]; have HG9 : Hid (wr.heap.size ≤ b9) := hid (by have := HMD.out.size; omega); clear hy9 hw9; have HMD := hid (HMD.out.thenBelow hx9); clear hHeld; refine hK.out _ _ (HSS.out _ HMD.out) fun hHeld => ?_; clear hK K; try simp only [Act.put, pE1, pE2, pE3]
       have HDA := hid (HDA.out.below hx9); have HRA := hid (HRA.out.below hx9)
       try have HO5 := hid (ownsRow_below HO5.out hx9)
       try have HO11 := hid (ownsRow_below HO11.out hx9)
       clear hx9; refine rd1 8 rfl fun K hK => ?_; simp only [gE1, gE2, gE3]; go_simp; obtain ⟨b8, y8, hw8, hy8, hx8, HN8⟩ := al y9 (.cells #[.int .i64 0, .int .i64 0, .slice none 0 0] 35); rw [hy8, hw8]; have HG8 : Hid (wr.heap.size ≤ b8) := hid (by have := HMD.out.size; omega); have HNE8_9 : Hid (b8 ≠ b9) := hid (by have := (hLT HN9.out); omega); clear hy8 hw8; have HMD := hid (HMD.out.thenBelow hx8); clear hHeld; refine hK.out _ _ (HSS.out _ HMD.out) fun hHeld => ?_; clear hK K; try simp only [Act.put, pE1, pE2, pE3]
       have HN9 := hid (nX hx8 HN9.out); have HDA := hid (HDA.out.below hx8); have HRA := hid (HRA.out.below hx8)
       try have HO5 := hid (ownsRow_below HO5.out hx8)
       try have HO11 := hid (ownsRow_below HO11.out hx8)
       clear hx8; refine rd1 10 rfl fun K hK => ?_; obtain ⟨hc10_0, hf10_0, hc10_1, hf10_1, hc10_2, hf10_2⟩ := bx3 HN8.out; simp only [gE1, gE2, gE3]; go_simp; obtain ⟨y10, hy10, hm10, hv10⟩ := st3 HN8.out (.int .i64 r.1.code) (.int .i64 r.1.done) (.slice a5 r.1.data.length c5); rw [hy10]; clear hy10 hc10_0 hf10_0 hc10_1 hf10_1 hc10_2 hf10_2; have HMD := hid (mM HMD.out hm10 HG8.out); clear hHeld; refine hK.out _ _ (HSS.out _ HMD.out) fun hHeld => ?_; clear hK K; try simp only [Act.put, pE1, pE2, pE3]
       have HN9 := hid (nMa hm10 HN9.out HNE8_9.out); have HB10o : Hid (∃ cs, y8.heap[b8]? = some (.cells cs 35 (0, 0))) := hid ⟨_, HN8.out⟩; have HN8 := hid hv10; have HM10 := hid hm10; clear hv10 hm10; refine rd1 11 rfl fun K hK => ?_; obtain ⟨hc11_0, hf11_0, hc11_1, hf11_1, hc11_2, hf11_2⟩ := bx3 HN9.out; simp only [gE1, gE2, gE3]; go_simp; obtain ⟨y11, hy11, hm11, hv11⟩ := st3 HN9.out (.int .i64 r.1.code) (.int .i64 r.1.done) (.slice a11 r.1.data.length c11); rw [hy11]; clear hy11 hc11_0 hf11_0 hc11_1 hf11_1 hc11_2 hf11_2; have HMD := hid (mM HMD.out hm11 HG9.out); clear hHeld
       refine hK.out _ _ (HSS.out _ HMD.out) fun hHeld => ?_; clear hK K; try simp only [Act.put, pE1, pE2, pE3]
       have HN8 := hid (nMb hm11 HN8.out HNE8_9.out); have HB11o : Hid (∃ cs, y10.heap[b9]? = some (.cells cs 35 (0, 0))) := hid ⟨_, HN9.out⟩; have HN9 := hid hv11; have HM11 := hid hm11; clear hv11 hm11; refine wpAnyH_done (by kernel_rfl) ⟨rfl, ?_⟩ _; have HEND := hid hHeld.2; have HSE := hid hHeld.1; clear hHeld; clear HSE HSS HEND; have HPM := hid (pl_endB HDA.out HRA.out HO5.out HO11.out HB10o.out HM10.out HB11o.out HM11.out HN8.out HN9.out HRR.out HS5.out HS11.out HLK.out (HTO.out _ HMD.out)); go_wp2_with fail; go_meet; exact ⟨_, _, _, rfl, rfl, rfl, HPM.out⟩
     ·skip
      simp only [gE1, gE2, gE3]; go_simp; obtain ⟨b8, y8, hw8, hy8, hx8, HN8⟩ := al w5 (.cells #[.int .i64 0, .int .i64 0, .slice none 0 0] 35); rw [hy8, hw8]; have HG8 : Hid (wr.heap.size ≤ b8) := hid (by have := HMD.out.size; omega); clear hy8 hw8; have HMD := hid (HMD.out.thenBelow hx8); clear hHeld; refine hK.out _ _ (HSS.out _ HMD.out) fun hHeld => ?_; clear hK K; try simp only [Act.put, pE1, pE2, pE3]
      have HDA := hid (HDA.out.below hx8); have HRA := hid (HRA.out.below hx8)
      try have HO5 := hid (ownsRow_below HO5.out hx8)
      try have HO11 := hid (ownsRow_below HO11.out hx8)
      clear hx8; refine rd2 7 9 rfl rfl (fun K hK => ?_) fun K hK => ?_
      ·skip
       simp only [gE1, gE2, gE3]; go_simp; refine (CR.out _ (HTO.out _ HMD.out) HRA.out).mono ?_; rintro e w11 ⟨v11, sv11, l11, rfl, hd11, hs11, ho11, hc11⟩; dsimp only; refine hK.out _ _ ?_ (fun hHeld => ?_)
       ·exact HSS.out _ (pl11 HFL.out HMD.out HDA.out HRA.out hc11).2.1
       clear hK K; try simp only [Act.put, pE1, pE2, pE3]
       obtain ⟨a11, c11, e11⟩ := row_slice ho11; subst e11; have HO11 := hid (row_mono (HTO.out _ HMD.out).size ho11); obtain ⟨hk1, hk2, hk3⟩ := pl11 HFL.out HMD.out HDA.out HRA.out hc11
       try have HN8 := hid ((hk3 b8 HG8.out (hLT HN8.out)).trans HN8.out)
       try have HN9 := hid ((hk3 b9 HG9.out (hLT HN9.out)).trans HN9.out)
       have HO5 := hid (row_cells HO5.out HRA.out hc11.1); have HDA := hid hk1; have HRA := hid hd11; have HMD := hid hk2; have HS11 := hid hs11; clear hd11 hs11 ho11 hc11 hk1 hk2 hk3; refine rd1 9 rfl fun K hK => ?_; simp only [gE1, gE2, gE3]; go_simp; obtain ⟨b9, y9, hw9, hy9, hx9, HN9⟩ := al w11 (.cells #[.int .i64 0, .int .i64 0, .slice none 0 0] 35); rw [hy9, hw9]; have HG9 : Hid (wr.heap.size ≤ b9) := hid (by have := HMD.out.size; omega); have HNE8_9 : Hid (b8 ≠ b9) := hid (by have := (hLT HN8.out); omega); clear hy9 hw9; have HMD := hid (HMD.out.thenBelow hx9); clear hHeld
       refine hK.out _ _ (HSS.out _ HMD.out) fun hHeld => ?_; clear hK K; try simp only [Act.put, pE1, pE2, pE3]
       have HN8 := hid (nX hx9 HN8.out); have HDA := hid (HDA.out.below hx9); have HRA := hid (HRA.out.below hx9)
       try have HO5 := hid (ownsRow_below HO5.out hx9)
       try have HO11 := hid (ownsRow_below HO11.out hx9)
       clear hx9; refine rd1 10 rfl fun K hK => ?_; obtain ⟨hc10_0, hf10_0, hc10_1, hf10_1, hc10_2, hf10_2⟩ := bx3 HN8.out; simp only [gE1, gE2, gE3]; go_simp; obtain ⟨y10, hy10, hm10, hv10⟩ := st3 HN8.out (.int .i64 r.1.code) (.int .i64 r.1.done) (.slice a5 r.1.data.length c5); rw [hy10]; clear hy10 hc10_0 hf10_0 hc10_1 hf10_1 hc10_2 hf10_2; have HMD := hid (mM HMD.out hm10 HG8.out); clear hHeld; refine hK.out _ _ (HSS.out _ HMD.out) fun hHeld => ?_; clear hK K; try simp only [Act.put, pE1, pE2, pE3]
       have HN9 := hid (nMa hm10 HN9.out HNE8_9.out); have HB10o : Hid (∃ cs, y9.heap[b8]? = some (.cells cs 35 (0, 0))) := hid ⟨_, HN8.out⟩; have HN8 := hid hv10; have HM10 := hid hm10; clear hv10 hm10; refine rd1 11 rfl fun K hK => ?_; obtain ⟨hc11_0, hf11_0, hc11_1, hf11_1, hc11_2, hf11_2⟩ := bx3 HN9.out; simp only [gE1, gE2, gE3]; go_simp; obtain ⟨y11, hy11, hm11, hv11⟩ := st3 HN9.out (.int .i64 r.1.code) (.int .i64 r.1.done) (.slice a11 r.1.data.length c11); rw [hy11]; clear hy11 hc11_0 hf11_0 hc11_1 hf11_1 hc11_2 hf11_2; have HMD := hid (mM HMD.out hm11 HG9.out); clear hHeld
       refine hK.out _ _ (HSS.out _ HMD.out) fun hHeld => ?_; clear hK K; try simp only [Act.put, pE1, pE2, pE3]
       have HN8 := hid (nMb hm11 HN8.out HNE8_9.out); have HB11o : Hid (∃ cs, y10.heap[b9]? = some (.cells cs 35 (0, 0))) := hid ⟨_, HN9.out⟩; have HN9 := hid hv11; have HM11 := hid hm11; clear hv11 hm11; refine wpAnyH_done (by kernel_rfl) ⟨rfl, ?_⟩ _; have HEND := hid hHeld.2; have HSE := hid hHeld.1; clear hHeld; clear HSE HSS HEND; have HPM := hid (pl_endB HDA.out HRA.out HO5.out HO11.out HB10o.out HM10.out HB11o.out HM11.out HN8.out HN9.out HRR.out HS5.out HS11.out HLK.out (HTO.out _ HMD.out)); go_wp2_with fail; go_meet; exact ⟨_, _, _, rfl, rfl, rfl, HPM.out⟩
      ·skip
       simp only [gE1, gE2, gE3]; go_simp; obtain ⟨b9, y9, hw9, hy9, hx9, HN9⟩ := al y8 (.cells #[.int .i64 0, .int .i64 0, .slice none 0 0] 35); rw [hy9, hw9]; have HG9 : Hid (wr.heap.size ≤ b9) := hid (by have := HMD.out.size; omega); have HNE8_9 : Hid (b8 ≠ b9) := hid (by have := (hLT HN8.out); omega); clear hy9 hw9; have HMD := hid (HMD.out.thenBelow hx9); clear hHeld; refine hK.out _ _ (HSS.out _ HMD.out) fun hHeld => ?_; clear hK K; try simp only [Act.put, pE1, pE2, pE3]
       have HN8 := hid (nX hx9 HN8.out); have HDA := hid (HDA.out.below hx9); have HRA := hid (HRA.out.below hx9)
       try have HO5 := hid (ownsRow_below HO5.out hx9)
       try have HO11 := hid (ownsRow_below HO11.out hx9)
       clear hx9; refine rd1 7 rfl fun K hK => ?_; simp only [gE1, gE2, gE3]; go_simp; refine (CR.out _ (HTO.out _ HMD.out) HRA.out).mono ?_; rintro e w11 ⟨v11, sv11, l11, rfl, hd11, hs11, ho11, hc11⟩; dsimp only; refine hK.out _ _ ?_ (fun hHeld => ?_)
       ·exact HSS.out _ (pl11 HFL.out HMD.out HDA.out HRA.out hc11).2.1
       clear hK K; try simp only [Act.put, pE1, pE2, pE3]
       obtain ⟨a11, c11, e11⟩ := row_slice ho11; subst e11; have HO11 := hid (row_mono (HTO.out _ HMD.out).size ho11); obtain ⟨hk1, hk2, hk3⟩ := pl11 HFL.out HMD.out HDA.out HRA.out hc11
       try have HN8 := hid ((hk3 b8 HG8.out (hLT HN8.out)).trans HN8.out)
       try have HN9 := hid ((hk3 b9 HG9.out (hLT HN9.out)).trans HN9.out)
       have HO5 := hid (row_cells HO5.out HRA.out hc11.1); have HDA := hid hk1; have HRA := hid hd11; have HMD := hid hk2; have HS11 := hid hs11; clear hd11 hs11 ho11 hc11 hk1 hk2 hk3; refine rd1 10 rfl fun K hK => ?_; obtain ⟨hc10_0, hf10_0, hc10_1, hf10_1, hc10_2, hf10_2⟩ := bx3 HN8.out; simp only [gE1, gE2, gE3]; go_simp; obtain ⟨y10, hy10, hm10, hv10⟩ := st3 HN8.out (.int .i64 r.1.code) (.int .i64 r.1.done) (.slice a5 r.1.data.length c5); rw [hy10]; clear hy10 hc10_0 hf10_0 hc10_1 hf10_1 hc10_2 hf10_2; have HMD := hid (mM HMD.out hm10 HG8.out); clear hHeld
       refine hK.out _ _ (HSS.out _ HMD.out) fun hHeld => ?_; clear hK K; try simp only [Act.put, pE1, pE2, pE3]
       have HN9 := hid (nMa hm10 HN9.out HNE8_9.out); have HB10o : Hid (∃ cs, w11.heap[b8]? = some (.cells cs 35 (0, 0))) := hid ⟨_, HN8.out⟩; have HN8 := hid hv10; have HM10 := hid hm10; clear hv10 hm10; refine rd1 11 rfl fun K hK => ?_; obtain ⟨hc11_0, hf11_0, hc11_1, hf11_1, hc11_2, hf11_2⟩ := bx3 HN9.out; simp only [gE1, gE2, gE3]; go_simp; obtain ⟨y11, hy11, hm11, hv11⟩ := st3 HN9.out (.int .i64 r.1.code) (.int .i64 r.1.done) (.slice a11 r.1.data.length c11); rw [hy11]; clear hy11 hc11_0 hf11_0 hc11_1 hf11_1 hc11_2 hf11_2; have HMD := hid (mM HMD.out hm11 HG9.out); clear hHeld
       refine hK.out _ _ (HSS.out _ HMD.out) fun hHeld => ?_; clear hK K; try simp only [Act.put, pE1, pE2, pE3]
       have HN8 := hid (nMb hm11 HN8.out HNE8_9.out); have HB11o : Hid (∃ cs, y10.heap[b9]? = some (.cells cs 35 (0, 0))) := hid ⟨_, HN9.out⟩; have HN9 := hid hv11; have HM11 := hid hm11; clear hv11 hm11; refine wpAnyH_done (by kernel_rfl) ⟨rfl, ?_⟩ _; have HEND := hid hHeld.2; have HSE := hid hHeld.1; clear hHeld; clear HSE HSS HEND; have HPM := hid (pl_endB HDA.out HRA.out HO5.out HO11.out HB10o.out HM10.out HB11o.out HM11.out HN8.out HN9.out HRR.out HS5.out HS11.out HLK.out (HTO.out _ HMD.out)); go_wp2_with fail; go_meet; exact ⟨_, _, _, rfl, rfl, rfl, HPM.out⟩
     ·skip
      simp only [gE1, gE2, gE3]; go_simp; obtain ⟨b9, y9, hw9, hy9, hx9, HN9⟩ := al w5 (.cells #[.int .i64 0, .int .i64 0, .slice none 0 0] 35); rw [hy9, hw9]; have HG9 : Hid (wr.heap.size ≤ b9) := hid (by have := HMD.out.size; omega); clear hy9 hw9; have HMD := hid (HMD.out.thenBelow hx9); clear hHeld; refine hK.out _ _ (HSS.out _ HMD.out) fun hHeld => ?_; clear hK K; try simp only [Act.put, pE1, pE2, pE3]
      have HDA := hid (HDA.out.below hx9); have HRA := hid (HRA.out.below hx9)
      try have HO5 := hid (ownsRow_below HO5.out hx9)
      try have HO11 := hid (ownsRow_below HO11.out hx9)
      clear hx9; refine rd2 7 8 rfl rfl (fun K hK => ?_) fun K hK => ?_
      ·skip
       simp only [gE1, gE2, gE3]; go_simp; refine (CR.out _ (HTO.out _ HMD.out) HRA.out).mono ?_; rintro e w11 ⟨v11, sv11, l11, rfl, hd11, hs11, ho11, hc11⟩; dsimp only; refine hK.out _ _ ?_ (fun hHeld => ?_)
       ·exact HSS.out _ (pl11 HFL.out HMD.out HDA.out HRA.out hc11).2.1
       clear hK K; try simp only [Act.put, pE1, pE2, pE3]
       obtain ⟨a11, c11, e11⟩ := row_slice ho11; subst e11; have HO11 := hid (row_mono (HTO.out _ HMD.out).size ho11); obtain ⟨hk1, hk2, hk3⟩ := pl11 HFL.out HMD.out HDA.out HRA.out hc11
       try have HN8 := hid ((hk3 b8 HG8.out (hLT HN8.out)).trans HN8.out)
       try have HN9 := hid ((hk3 b9 HG9.out (hLT HN9.out)).trans HN9.out)
       have HO5 := hid (row_cells HO5.out HRA.out hc11.1); have HDA := hid hk1; have HRA := hid hd11; have HMD := hid hk2; have HS11 := hid hs11; clear hd11 hs11 ho11 hc11 hk1 hk2 hk3; refine rd1 8 rfl fun K hK => ?_; simp only [gE1, gE2, gE3]; go_simp; obtain ⟨b8, y8, hw8, hy8, hx8, HN8⟩ := al w11 (.cells #[.int .i64 0, .int .i64 0, .slice none 0 0] 35); rw [hy8, hw8]; have HG8 : Hid (wr.heap.size ≤ b8) := hid (by have := HMD.out.size; omega); have HNE8_9 : Hid (b8 ≠ b9) := hid (by have := (hLT HN9.out); omega); clear hy8 hw8; have HMD := hid (HMD.out.thenBelow hx8); clear hHeld
       refine hK.out _ _ (HSS.out _ HMD.out) fun hHeld => ?_; clear hK K; try simp only [Act.put, pE1, pE2, pE3]
       have HN9 := hid (nX hx8 HN9.out); have HDA := hid (HDA.out.below hx8); have HRA := hid (HRA.out.below hx8)
       try have HO5 := hid (ownsRow_below HO5.out hx8)
       try have HO11 := hid (ownsRow_below HO11.out hx8)
       clear hx8; refine rd1 10 rfl fun K hK => ?_; obtain ⟨hc10_0, hf10_0, hc10_1, hf10_1, hc10_2, hf10_2⟩ := bx3 HN8.out; simp only [gE1, gE2, gE3]; go_simp; obtain ⟨y10, hy10, hm10, hv10⟩ := st3 HN8.out (.int .i64 r.1.code) (.int .i64 r.1.done) (.slice a5 r.1.data.length c5); rw [hy10]; clear hy10 hc10_0 hf10_0 hc10_1 hf10_1 hc10_2 hf10_2; have HMD := hid (mM HMD.out hm10 HG8.out); clear hHeld; refine hK.out _ _ (HSS.out _ HMD.out) fun hHeld => ?_; clear hK K; try simp only [Act.put, pE1, pE2, pE3]
       have HN9 := hid (nMa hm10 HN9.out HNE8_9.out); have HB10o : Hid (∃ cs, y8.heap[b8]? = some (.cells cs 35 (0, 0))) := hid ⟨_, HN8.out⟩; have HN8 := hid hv10; have HM10 := hid hm10; clear hv10 hm10; refine rd1 11 rfl fun K hK => ?_; obtain ⟨hc11_0, hf11_0, hc11_1, hf11_1, hc11_2, hf11_2⟩ := bx3 HN9.out; simp only [gE1, gE2, gE3]; go_simp; obtain ⟨y11, hy11, hm11, hv11⟩ := st3 HN9.out (.int .i64 r.1.code) (.int .i64 r.1.done) (.slice a11 r.1.data.length c11); rw [hy11]; clear hy11 hc11_0 hf11_0 hc11_1 hf11_1 hc11_2 hf11_2; have HMD := hid (mM HMD.out hm11 HG9.out); clear hHeld
       refine hK.out _ _ (HSS.out _ HMD.out) fun hHeld => ?_; clear hK K; try simp only [Act.put, pE1, pE2, pE3]
       have HN8 := hid (nMb hm11 HN8.out HNE8_9.out); have HB11o : Hid (∃ cs, y10.heap[b9]? = some (.cells cs 35 (0, 0))) := hid ⟨_, HN9.out⟩; have HN9 := hid hv11; have HM11 := hid hm11; clear hv11 hm11; refine wpAnyH_done (by kernel_rfl) ⟨rfl, ?_⟩ _; have HEND := hid hHeld.2; have HSE := hid hHeld.1; clear hHeld; clear HSE HSS HEND; have HPM := hid (pl_endB HDA.out HRA.out HO5.out HO11.out HB10o.out HM10.out HB11o.out HM11.out HN8.out HN9.out HRR.out HS5.out HS11.out HLK.out (HTO.out _ HMD.out)); go_wp2_with fail; go_meet; exact ⟨_, _, _, rfl, rfl, rfl, HPM.out⟩
      ·skip
       simp only [gE1, gE2, gE3]; go_simp; obtain ⟨b8, y8, hw8, hy8, hx8, HN8⟩ := al y9 (.cells #[.int .i64 0, .int .i64 0, .slice none 0 0] 35); rw [hy8, hw8]; have HG8 : Hid (wr.heap.size ≤ b8) := hid (by have := HMD.out.size; omega); have HNE8_9 : Hid (b8 ≠ b9) := hid (by have := (hLT HN9.out); omega); clear hy8 hw8; have HMD := hid (HMD.out.thenBelow hx8); clear hHeld; refine hK.out _ _ (HSS.out _ HMD.out) fun hHeld => ?_; clear hK K; try simp only [Act.put, pE1, pE2, pE3]
       have HN9 := hid (nX hx8 HN9.out); have HDA := hid (HDA.out.below hx8); have HRA := hid (HRA.out.below hx8)
       try have HO5 := hid (ownsRow_below HO5.out hx8)
       try have HO11 := hid (ownsRow_below HO11.out hx8)
       clear hx8; refine rd1 7 rfl fun K hK => ?_; simp only [gE1, gE2, gE3]; go_simp; refine (CR.out _ (HTO.out _ HMD.out) HRA.out).mono ?_; rintro e w11 ⟨v11, sv11, l11, rfl, hd11, hs11, ho11, hc11⟩; dsimp only; refine hK.out _ _ ?_ (fun hHeld => ?_)
       ·exact HSS.out _ (pl11 HFL.out HMD.out HDA.out HRA.out hc11).2.1
       clear hK K; try simp only [Act.put, pE1, pE2, pE3]
       obtain ⟨a11, c11, e11⟩ := row_slice ho11; subst e11; have HO11 := hid (row_mono (HTO.out _ HMD.out).size ho11); obtain ⟨hk1, hk2, hk3⟩ := pl11 HFL.out HMD.out HDA.out HRA.out hc11
       try have HN8 := hid ((hk3 b8 HG8.out (hLT HN8.out)).trans HN8.out)
       try have HN9 := hid ((hk3 b9 HG9.out (hLT HN9.out)).trans HN9.out)
       have HO5 := hid (row_cells HO5.out HRA.out hc11.1); have HDA := hid hk1; have HRA := hid hd11; have HMD := hid hk2; have HS11 := hid hs11; clear hd11 hs11 ho11 hc11 hk1 hk2 hk3; refine rd1 10 rfl fun K hK => ?_; obtain ⟨hc10_0, hf10_0, hc10_1, hf10_1, hc10_2, hf10_2⟩ := bx3 HN8.out; simp only [gE1, gE2, gE3]; go_simp; obtain ⟨y10, hy10, hm10, hv10⟩ := st3 HN8.out (.int .i64 r.1.code) (.int .i64 r.1.done) (.slice a5 r.1.data.length c5); rw [hy10]; clear hy10 hc10_0 hf10_0 hc10_1 hf10_1 hc10_2 hf10_2; have HMD := hid (mM HMD.out hm10 HG8.out); clear hHeld
       refine hK.out _ _ (HSS.out _ HMD.out) fun hHeld => ?_; clear hK K; try simp only [Act.put, pE1, pE2, pE3]
       have HN9 := hid (nMa hm10 HN9.out HNE8_9.out); have HB10o : Hid (∃ cs, w11.heap[b8]? = some (.cells cs 35 (0, 0))) := hid ⟨_, HN8.out⟩; have HN8 := hid hv10; have HM10 := hid hm10; clear hv10 hm10; refine rd1 11 rfl fun K hK => ?_; obtain ⟨hc11_0, hf11_0, hc11_1, hf11_1, hc11_2, hf11_2⟩ := bx3 HN9.out; simp only [gE1, gE2, gE3]; go_simp; obtain ⟨y11, hy11, hm11, hv11⟩ := st3 HN9.out (.int .i64 r.1.code) (.int .i64 r.1.done) (.slice a11 r.1.data.length c11); rw [hy11]; clear hy11 hc11_0 hf11_0 hc11_1 hf11_1 hc11_2 hf11_2; have HMD := hid (mM HMD.out hm11 HG9.out); clear hHeld
       refine hK.out _ _ (HSS.out _ HMD.out) fun hHeld => ?_; clear hK K; try simp only [Act.put, pE1, pE2, pE3]
       have HN8 := hid (nMb hm11 HN8.out HNE8_9.out); have HB11o : Hid (∃ cs, y10.heap[b9]? = some (.cells cs 35 (0, 0))) := hid ⟨_, HN9.out⟩; have HN9 := hid hv11; have HM11 := hid hm11; clear hv11 hm11; refine wpAnyH_done (by kernel_rfl) ⟨rfl, ?_⟩ _; have HEND := hid hHeld.2; have HSE := hid hHeld.1; clear hHeld; clear HSE HSS HEND; have HPM := hid (pl_endB HDA.out HRA.out HO5.out HO11.out HB10o.out HM10.out HB11o.out HM11.out HN8.out HN9.out HRR.out HS5.out HS11.out HLK.out (HTO.out _ HMD.out)); go_wp2_with fail; go_meet; exact ⟨_, _, _, rfl, rfl, rfl, HPM.out⟩
    ·skip
     simp only [gE1, gE2, gE3]; go_simp; obtain ⟨b8, y8, hw8, hy8, hx8, HN8⟩ := al wd (.cells #[.int .i64 0, .int .i64 0, .slice none 0 0] 35); rw [hy8, hw8]; have HG8 : Hid (wr.heap.size ≤ b8) := hid (by have := HMD.out.size; omega); clear hy8 hw8; have HMD := hid (HMD.out.thenBelow hx8); clear hHeld; refine hK.out _ _ (HSS.out _ HMD.out) fun hHeld => ?_; clear hK K; try simp only [Act.put, pE1, pE2, pE3]
     have HDA := hid (HDA.out.below hx8); have HRA := hid (HRA.out.below hx8)
     try have HO5 := hid (ownsRow_below HO5.out hx8)
     try have HO11 := hid (ownsRow_below HO11.out hx8)
     clear hx8; refine rd2 3 9 rfl rfl (fun K hK => ?_) fun K hK => ?_
     ·skip
      simp only [gE1, gE2, gE3]; go_simp; refine (CD.out _ (HTO.out _ HMD.out) HDA.out).mono ?_; rintro e w5 ⟨v5, l5, rfl, hd5, hs5, ho5, hc5⟩; dsimp only; refine hK.out _ _ ?_ (fun hHeld => ?_)
      ·exact HSS.out _ (pl5 HFL.out HMD.out HDA.out HRA.out hc5).2.1
      clear hK K; try simp only [Act.put, pE1, pE2, pE3]
      obtain ⟨a5, c5, e5⟩ := row_slice ho5; subst e5; have HO5 := hid (row_mono (HTO.out _ HMD.out).size ho5); obtain ⟨hk1, hk2, hk3⟩ := pl5 HFL.out HMD.out HDA.out HRA.out hc5
      try have HN8 := hid ((hk3 b8 HG8.out (hLT HN8.out)).trans HN8.out)
      try have HN9 := hid ((hk3 b9 HG9.out (hLT HN9.out)).trans HN9.out)
      have HRA := hid hk1; have HDA := hid hd5; have HMD := hid hk2; have HS5 := hid hs5; clear hd5 hs5 ho5 hc5 hk1 hk2 hk3; refine rd2 7 9 rfl rfl (fun K hK => ?_) fun K hK => ?_
      ·skip
       simp only [gE1, gE2, gE3]; go_simp; refine (CR.out _ (HTO.out _ HMD.out) HRA.out).mono ?_; rintro e w11 ⟨v11, sv11, l11, rfl, hd11, hs11, ho11, hc11⟩; dsimp only; refine hK.out _ _ ?_ (fun hHeld => ?_)
       ·exact HSS.out _ (pl11 HFL.out HMD.out HDA.out HRA.out hc11).2.1
       clear hK K; try simp only [Act.put, pE1, pE2, pE3]
       obtain ⟨a11, c11, e11⟩ := row_slice ho11; subst e11; have HO11 := hid (row_mono (HTO.out _ HMD.out).size ho11); obtain ⟨hk1, hk2, hk3⟩ := pl11 HFL.out HMD.out HDA.out HRA.out hc11
       try have HN8 := hid ((hk3 b8 HG8.out (hLT HN8.out)).trans HN8.out)
       try have HN9 := hid ((hk3 b9 HG9.out (hLT HN9.out)).trans HN9.out)
       have HO5 := hid (row_cells HO5.out HRA.out hc11.1); have HDA := hid hk1; have HRA := hid hd11; have HMD := hid hk2; have HS11 := hid hs11; clear hd11 hs11 ho11 hc11 hk1 hk2 hk3; refine rd1 9 rfl fun K hK => ?_; simp only [gE1, gE2, gE3]; go_simp; obtain ⟨b9, y9, hw9, hy9, hx9, HN9⟩ := al w11 (.cells #[.int .i64 0, .int .i64 0, .slice none 0 0] 35); rw [hy9, hw9]; have HG9 : Hid (wr.heap.size ≤ b9) := hid (by have := HMD.out.size; omega); have HNE8_9 : Hid (b8 ≠ b9) := hid (by have := (hLT HN8.out); omega); clear hy9 hw9; have HMD := hid (HMD.out.thenBelow hx9); clear hHeld
       refine hK.out _ _ (HSS.out _ HMD.out) fun hHeld => ?_; clear hK K; try simp only [Act.put, pE1, pE2, pE3]
       have HN8 := hid (nX hx9 HN8.out); have HDA := hid (HDA.out.below hx9); have HRA := hid (HRA.out.below hx9)
       try have HO5 := hid (ownsRow_below HO5.out hx9)
       try have HO11 := hid (ownsRow_below HO11.out hx9)
       clear hx9; refine rd1 10 rfl fun K hK => ?_; obtain ⟨hc10_0, hf10_0, hc10_1, hf10_1, hc10_2, hf10_2⟩ := bx3 HN8.out; simp only [gE1, gE2, gE3]; go_simp; obtain ⟨y10, hy10, hm10, hv10⟩ := st3 HN8.out (.int .i64 r.1.code) (.int .i64 r.1.done) (.slice a5 r.1.data.length c5); rw [hy10]; clear hy10 hc10_0 hf10_0 hc10_1 hf10_1 hc10_2 hf10_2; have HMD := hid (mM HMD.out hm10 HG8.out); clear hHeld; refine hK.out _ _ (HSS.out _ HMD.out) fun hHeld => ?_; clear hK K; try simp only [Act.put, pE1, pE2, pE3]
       have HN9 := hid (nMa hm10 HN9.out HNE8_9.out); have HB10o : Hid (∃ cs, y9.heap[b8]? = some (.cells cs 35 (0, 0))) := hid ⟨_, HN8.out⟩; have HN8 := hid hv10; have HM10 := hid hm10; clear hv10 hm10; refine rd1 11 rfl fun K hK => ?_; obtain ⟨hc11_0, hf11_0, hc11_1, hf11_1, hc11_2, hf11_2⟩ := bx3 HN9.out; simp only [gE1, gE2, gE3]; go_simp; obtain ⟨y11, hy11, hm11, hv11⟩ := st3 HN9.out (.int .i64 r.1.code) (.int .i64 r.1.done) (.slice a11 r.1.data.length c11); rw [hy11]; clear hy11 hc11_0 hf11_0 hc11_1 hf11_1 hc11_2 hf11_2; have HMD := hid (mM HMD.out hm11 HG9.out); clear hHeld
       refine hK.out _ _ (HSS.out _ HMD.out) fun hHeld => ?_; clear hK K; try simp only [Act.put, pE1, pE2, pE3]
       have HN8 := hid (nMb hm11 HN8.out HNE8_9.out); have HB11o : Hid (∃ cs, y10.heap[b9]? = some (.cells cs 35 (0, 0))) := hid ⟨_, HN9.out⟩; have HN9 := hid hv11; have HM11 := hid hm11; clear hv11 hm11; refine wpAnyH_done (by kernel_rfl) ⟨rfl, ?_⟩ _; have HEND := hid hHeld.2; have HSE := hid hHeld.1; clear hHeld; clear HSE HSS HEND; have HPM := hid (pl_endB HDA.out HRA.out HO5.out HO11.out HB10o.out HM10.out HB11o.out HM11.out HN8.out HN9.out HRR.out HS5.out HS11.out HLK.out (HTO.out _ HMD.out)); go_wp2_with fail; go_meet; exact ⟨_, _, _, rfl, rfl, rfl, HPM.out⟩
      ·skip
       simp only [gE1, gE2, gE3]; go_simp; obtain ⟨b9, y9, hw9, hy9, hx9, HN9⟩ := al w5 (.cells #[.int .i64 0, .int .i64 0, .slice none 0 0] 35); rw [hy9, hw9]; have HG9 : Hid (wr.heap.size ≤ b9) := hid (by have := HMD.out.size; omega); have HNE8_9 : Hid (b8 ≠ b9) := hid (by have := (hLT HN8.out); omega); clear hy9 hw9; have HMD := hid (HMD.out.thenBelow hx9); clear hHeld; refine hK.out _ _ (HSS.out _ HMD.out) fun hHeld => ?_; clear hK K; try simp only [Act.put, pE1, pE2, pE3]
       have HN8 := hid (nX hx9 HN8.out); have HDA := hid (HDA.out.below hx9); have HRA := hid (HRA.out.below hx9)
       try have HO5 := hid (ownsRow_below HO5.out hx9)
       try have HO11 := hid (ownsRow_below HO11.out hx9)
       clear hx9; refine rd1 7 rfl fun K hK => ?_; simp only [gE1, gE2, gE3]; go_simp; refine (CR.out _ (HTO.out _ HMD.out) HRA.out).mono ?_; rintro e w11 ⟨v11, sv11, l11, rfl, hd11, hs11, ho11, hc11⟩; dsimp only; refine hK.out _ _ ?_ (fun hHeld => ?_)
       ·exact HSS.out _ (pl11 HFL.out HMD.out HDA.out HRA.out hc11).2.1
       clear hK K; try simp only [Act.put, pE1, pE2, pE3]
       obtain ⟨a11, c11, e11⟩ := row_slice ho11; subst e11; have HO11 := hid (row_mono (HTO.out _ HMD.out).size ho11); obtain ⟨hk1, hk2, hk3⟩ := pl11 HFL.out HMD.out HDA.out HRA.out hc11
       try have HN8 := hid ((hk3 b8 HG8.out (hLT HN8.out)).trans HN8.out)
       try have HN9 := hid ((hk3 b9 HG9.out (hLT HN9.out)).trans HN9.out)
       have HO5 := hid (row_cells HO5.out HRA.out hc11.1); have HDA := hid hk1; have HRA := hid hd11; have HMD := hid hk2; have HS11 := hid hs11; clear hd11 hs11 ho11 hc11 hk1 hk2 hk3; refine rd1 10 rfl fun K hK => ?_; obtain ⟨hc10_0, hf10_0, hc10_1, hf10_1, hc10_2, hf10_2⟩ := bx3 HN8.out; simp only [gE1, gE2, gE3]; go_simp; obtain ⟨y10, hy10, hm10, hv10⟩ := st3 HN8.out (.int .i64 r.1.code) (.int .i64 r.1.done) (.slice a5 r.1.data.length c5); rw [hy10]; clear hy10 hc10_0 hf10_0 hc10_1 hf10_1 hc10_2 hf10_2; have HMD := hid (mM HMD.out hm10 HG8.out); clear hHeld
       refine hK.out _ _ (HSS.out _ HMD.out) fun hHeld => ?_; clear hK K; try simp only [Act.put, pE1, pE2, pE3]
       have HN9 := hid (nMa hm10 HN9.out HNE8_9.out); have HB10o : Hid (∃ cs, w11.heap[b8]? = some (.cells cs 35 (0, 0))) := hid ⟨_, HN8.out⟩; have HN8 := hid hv10; have HM10 := hid hm10; clear hv10 hm10; refine rd1 11 rfl fun K hK => ?_; obtain ⟨hc11_0, hf11_0, hc11_1, hf11_1, hc11_2, hf11_2⟩ := bx3 HN9.out; simp only [gE1, gE2, gE3]; go_simp; obtain ⟨y11, hy11, hm11, hv11⟩ := st3 HN9.out (.int .i64 r.1.code) (.int .i64 r.1.done) (.slice a11 r.1.data.length c11); rw [hy11]; clear hy11 hc11_0 hf11_0 hc11_1 hf11_1 hc11_2 hf11_2; have HMD := hid (mM HMD.out hm11 HG9.out); clear hHeld
       refine hK.out _ _ (HSS.out _ HMD.out) fun hHeld => ?_; clear hK K; try simp only [Act.put, pE1, pE2, pE3]
       have HN8 := hid (nMb hm11 HN8.out HNE8_9.out); have HB11o : Hid (∃ cs, y10.heap[b9]? = some (.cells cs 35 (0, 0))) := hid ⟨_, HN9.out⟩; have HN9 := hid hv11; have HM11 := hid hm11; clear hv11 hm11; refine wpAnyH_done (by kernel_rfl) ⟨rfl, ?_⟩ _; have HEND := hid hHeld.2; have HSE := hid hHeld.1; clear hHeld; clear HSE HSS HEND; have HPM := hid (pl_endB HDA.out HRA.out HO5.out HO11.out HB10o.out HM10.out HB11o.out HM11.out HN8.out HN9.out HRR.out HS5.out HS11.out HLK.out (HTO.out _ HMD.out)); go_wp2_with fail; go_meet; exact ⟨_, _, _, rfl, rfl, rfl, HPM.out⟩
     ·skip
      simp only [gE1, gE2, gE3]; go_simp; obtain ⟨b9, y9, hw9, hy9, hx9, HN9⟩ := al y8 (.cells #[.int .i64 0, .int .i64 0, .slice none 0 0] 35); rw [hy9, hw9]; have HG9 : Hid (wr.heap.size ≤ b9) := hid (by have := HMD.out.size; omega); have HNE8_9 : Hid (b8 ≠ b9) := hid (by have := (hLT HN8.out); omega); clear hy9 hw9; have HMD := hid (HMD.out.thenBelow hx9); clear hHeld; refine hK.out _ _ (HSS.out _ HMD.out) fun hHeld => ?_; clear hK K; try simp only [Act.put, pE1, pE2, pE3]
      have HN8 := hid (nX hx9 HN8.out); have HDA := hid (HDA.out.below hx9); have HRA := hid (HRA.out.below hx9)
      try have HO5 := hid (ownsRow_below HO5.out hx9)
      try have HO11 := hid (ownsRow_below HO11.out hx9)
      clear hx9; refine rd1 3 rfl fun K hK => ?_; simp only [gE1, gE2, gE3]; go_simp; refine (CD.out _ (HTO.out _ HMD.out) HDA.out).mono ?_; rintro e w5 ⟨v5, l5, rfl, hd5, hs5, ho5, hc5⟩; dsimp only; refine hK.out _ _ ?_ (fun hHeld => ?_)
      ·exact HSS.out _ (pl5 HFL.out HMD.out HDA.out HRA.out hc5).2.1
      clear hK K; try simp only [Act.put, pE1, pE2, pE3]
      obtain ⟨a5, c5, e5⟩ := row_slice ho5; subst e5; have HO5 := hid (row_mono (HTO.out _ HMD.out).size ho5); obtain ⟨hk1, hk2, hk3⟩ := pl5 HFL.out HMD.out HDA.out HRA.out hc5
      try have HN8 := hid ((hk3 b8 HG8.out (hLT HN8.out)).trans HN8.out)
      try have HN9 := hid ((hk3 b9 HG9.out (hLT HN9.out)).trans HN9.out)
      have HRA := hid hk1; have HDA := hid hd5; have HMD := hid hk2; have HS5 := hid hs5; clear hd5 hs5 ho5 hc5 hk1 hk2 hk3; refine rd1 7 rfl fun K hK => ?_; simp only [gE1, gE2, gE3]; go_simp; refine (CR.out _ (HTO.out _ HMD.out) HRA.out).mono ?_; rintro e w11 ⟨v11, sv11, l11, rfl, hd11, hs11, ho11, hc11⟩; dsimp only; refine hK.out _ _ ?_ (fun hHeld => ?_)
      ·exact HSS.out _ (pl11 HFL.out HMD.out HDA.out HRA.out hc11).2.1
      clear hK K; try simp only [Act.put, pE1, pE2, pE3]
      obtain ⟨a11, c11, e11⟩ := row_slice ho11; subst e11; have HO11 := hid (row_mono (HTO.out _ HMD.out).size ho11); obtain ⟨hk1, hk2, hk3⟩ := pl11 HFL.out HMD.out HDA.out HRA.out hc11
      try have HN8 := hid ((hk3 b8 HG8.out (hLT HN8.out)).trans HN8.out)
      try have HN9 := hid ((hk3 b9 HG9.out (hLT HN9.out)).trans HN9.out)
      have HO5 := hid (row_cells HO5.out HRA.out hc11.1); have HDA := hid hk1; have HRA := hid hd11; have HMD := hid hk2; have HS11 := hid hs11; clear hd11 hs11 ho11 hc11 hk1 hk2 hk3; refine rd1 10 rfl fun K hK => ?_; obtain ⟨hc10_0, hf10_0, hc10_1, hf10_1, hc10_2, hf10_2⟩ := bx3 HN8.out; simp only [gE1, gE2, gE3]; go_simp; obtain ⟨y10, hy10, hm10, hv10⟩ := st3 HN8.out (.int .i64 r.1.code) (.int .i64 r.1.done) (.slice a5 r.1.data.length c5); rw [hy10]; clear hy10 hc10_0 hf10_0 hc10_1 hf10_1 hc10_2 hf10_2; have HMD := hid (mM HMD.out hm10 HG8.out); clear hHeld
      refine hK.out _ _ (HSS.out _ HMD.out) fun hHeld => ?_; clear hK K; try simp only [Act.put, pE1, pE2, pE3]
      have HN9 := hid (nMa hm10 HN9.out HNE8_9.out); have HB10o : Hid (∃ cs, w11.heap[b8]? = some (.cells cs 35 (0, 0))) := hid ⟨_, HN8.out⟩; have HN8 := hid hv10; have HM10 := hid hm10; clear hv10 hm10; refine rd1 11 rfl fun K hK => ?_; obtain ⟨hc11_0, hf11_0, hc11_1, hf11_1, hc11_2, hf11_2⟩ := bx3 HN9.out; simp only [gE1, gE2, gE3]; go_simp; obtain ⟨y11, hy11, hm11, hv11⟩ := st3 HN9.out (.int .i64 r.1.code) (.int .i64 r.1.done) (.slice a11 r.1.data.length c11); rw [hy11]; clear hy11 hc11_0 hf11_0 hc11_1 hf11_1 hc11_2 hf11_2; have HMD := hid (mM HMD.out hm11 HG9.out); clear hHeld
      refine hK.out _ _ (HSS.out _ HMD.out) fun hHeld => ?_; clear hK K; try simp only [Act.put, pE1, pE2, pE3]
      have HN8 := hid (nMb hm11 HN8.out HNE8_9.out); have HB11o : Hid (∃ cs, y10.heap[b9]? = some (.cells cs 35 (0, 0))) := hid ⟨_, HN9.out⟩; have HN9 := hid hv11; have HM11 := hid hm11; clear hv11 hm11; refine wpAnyH_done (by kernel_rfl) ⟨rfl, ?_⟩ _; have HEND := hid hHeld.2; have HSE := hid hHeld.1; clear hHeld; clear HSE HSS HEND; have HPM := hid (pl_endB HDA.out HRA.out HO5.out HO11.out HB10o.out HM10.out HB11o.out HM11.out HN8.out HN9.out HRR.out HS5.out HS11.out HLK.out (HTO.out _ HMD.out)); go_wp2_with fail; go_meet; exact ⟨_, _, _, rfl, rfl, rfl, HPM.out⟩
    ·skip
     simp only [gE1, gE2, gE3]; go_simp; obtain ⟨b9, y9, hw9, hy9, hx9, HN9⟩ := al wd (.cells #[.int .i64 0, .int .i64 0, .slice none 0 0] 35); rw [hy9, hw9]; have HG9 : Hid (wr.heap.size ≤ b9) := hid (by have := HMD.out.size; omega); clear hy9 hw9; have HMD := hid (HMD.out.thenBelow hx9); clear hHeld; refine hK.out _ _ (HSS.out _ HMD.out) fun hHeld => ?_; clear hK K; try simp only [Act.put, pE1, pE2, pE3]
     have HDA := hid (HDA.out.below hx9); have HRA := hid (HRA.out.below hx9)
     try have HO5 := hid (ownsRow_below HO5.out hx9)
     try have HO11 := hid (ownsRow_below HO11.out hx9)
     clear hx9; refine rd2 3 8 rfl rfl (fun K hK => ?_) fun K hK => ?_
     ·skip
      simp only [gE1, gE2, gE3]; go_simp; refine (CD.out _ (HTO.out _ HMD.out) HDA.out).mono ?_; rintro e w5 ⟨v5, l5, rfl, hd5, hs5, ho5, hc5⟩; dsimp only; refine hK.out _ _ ?_ (fun hHeld => ?_)
      ·exact HSS.out _ (pl5 HFL.out HMD.out HDA.out HRA.out hc5).2.1
      clear hK K; try simp only [Act.put, pE1, pE2, pE3]
      obtain ⟨a5, c5, e5⟩ := row_slice ho5; subst e5; have HO5 := hid (row_mono (HTO.out _ HMD.out).size ho5); obtain ⟨hk1, hk2, hk3⟩ := pl5 HFL.out HMD.out HDA.out HRA.out hc5
      try have HN8 := hid ((hk3 b8 HG8.out (hLT HN8.out)).trans HN8.out)
      try have HN9 := hid ((hk3 b9 HG9.out (hLT HN9.out)).trans HN9.out)
      have HRA := hid hk1; have HDA := hid hd5; have HMD := hid hk2; have HS5 := hid hs5; clear hd5 hs5 ho5 hc5 hk1 hk2 hk3; refine rd2 7 8 rfl rfl (fun K hK => ?_) fun K hK => ?_
      ·skip
       simp only [gE1, gE2, gE3]; go_simp; refine (CR.out _ (HTO.out _ HMD.out) HRA.out).mono ?_; rintro e w11 ⟨v11, sv11, l11, rfl, hd11, hs11, ho11, hc11⟩; dsimp only; refine hK.out _ _ ?_ (fun hHeld => ?_)
       ·exact HSS.out _ (pl11 HFL.out HMD.out HDA.out HRA.out hc11).2.1
       clear hK K; try simp only [Act.put, pE1, pE2, pE3]
       obtain ⟨a11, c11, e11⟩ := row_slice ho11; subst e11; have HO11 := hid (row_mono (HTO.out _ HMD.out).size ho11); obtain ⟨hk1, hk2, hk3⟩ := pl11 HFL.out HMD.out HDA.out HRA.out hc11
       try have HN8 := hid ((hk3 b8 HG8.out (hLT HN8.out)).trans HN8.out)
       try have HN9 := hid ((hk3 b9 HG9.out (hLT HN9.out)).trans HN9.out)
       have HO5 := hid (row_cells HO5.out HRA.out hc11.1); have HDA := hid hk1; have HRA := hid hd11; have HMD := hid hk2; have HS11 := hid hs11; clear hd11 hs11 ho11 hc11 hk1 hk2 hk3; refine rd1 8 rfl fun K hK => ?_; simp only [gE1, gE2, gE3]; go_simp; obtain ⟨b8, y8, hw8, hy8, hx8, HN8⟩ := al w11 (.cells #[.int .i64 0, .int .i64 0, .slice none 0 0] 35); rw [hy8, hw8]; have HG8 : Hid (wr.heap.size ≤ b8) := hid (by have := HMD.out.size; omega); have HNE8_9 : Hid (b8 ≠ b9) := hid (by have := (hLT HN9.out); omega); clear hy8 hw8; have HMD := hid (HMD.out.thenBelow hx8); clear hHeld
       refine hK.out _ _ (HSS.out _ HMD.out) fun hHeld => ?_; clear hK K; try simp only [Act.put, pE1, pE2, pE3]
       have HN9 := hid (nX hx8 HN9.out); have HDA := hid (HDA.out.below hx8); have HRA := hid (HRA.out.below hx8)
       try have HO5 := hid (ownsRow_below HO5.out hx8)
       try have HO11 := hid (ownsRow_below HO11.out hx8)
       clear hx8; refine rd1 10 rfl fun K hK => ?_; obtain ⟨hc10_0, hf10_0, hc10_1, hf10_1, hc10_2, hf10_2⟩ := bx3 HN8.out; simp only [gE1, gE2, gE3]; go_simp; obtain ⟨y10, hy10, hm10, hv10⟩ := st3 HN8.out (.int .i64 r.1.code) (.int .i64 r.1.done) (.slice a5 r.1.data.length c5); rw [hy10]; clear hy10 hc10_0 hf10_0 hc10_1 hf10_1 hc10_2 hf10_2; have HMD := hid (mM HMD.out hm10 HG8.out); clear hHeld; refine hK.out _ _ (HSS.out _ HMD.out) fun hHeld => ?_; clear hK K; try simp only [Act.put, pE1, pE2, pE3]
       have HN9 := hid (nMa hm10 HN9.out HNE8_9.out); have HB10o : Hid (∃ cs, y8.heap[b8]? = some (.cells cs 35 (0, 0))) := hid ⟨_, HN8.out⟩; have HN8 := hid hv10; have HM10 := hid hm10; clear hv10 hm10; refine rd1 11 rfl fun K hK => ?_; obtain ⟨hc11_0, hf11_0, hc11_1, hf11_1, hc11_2, hf11_2⟩ := bx3 HN9.out; simp only [gE1, gE2, gE3]; go_simp; obtain ⟨y11, hy11, hm11, hv11⟩ := st3 HN9.out (.int .i64 r.1.code) (.int .i64 r.1.done) (.slice a11 r.1.data.length c11); rw [hy11]; clear hy11 hc11_0 hf11_0 hc11_1 hf11_1 hc11_2 hf11_2; have HMD := hid (mM HMD.out hm11 HG9.out); clear hHeld
       refine hK.out _ _ (HSS.out _ HMD.out) fun hHeld => ?_; clear hK K; try simp only [Act.put, pE1, pE2, pE3]
       have HN8 := hid (nMb hm11 HN8.out HNE8_9.out); have HB11o : Hid (∃ cs, y10.heap[b9]? = some (.cells cs 35 (0, 0))) := hid ⟨_, HN9.out⟩; have HN9 := hid hv11; have HM11 := hid hm11; clear hv11 hm11; refine wpAnyH_done (by kernel_rfl) ⟨rfl, ?_⟩ _; have HEND := hid hHeld.2; have HSE := hid hHeld.1; clear hHeld; clear HSE HSS HEND; have HPM := hid (pl_endB HDA.out HRA.out HO5.out HO11.out HB10o.out HM10.out HB11o.out HM11.out HN8.out HN9.out HRR.out HS5.out HS11.out HLK.out (HTO.out _ HMD.out)); go_wp2_with fail; go_meet; exact ⟨_, _, _, rfl, rfl, rfl, HPM.out⟩
      ·skip
       simp only [gE1, gE2, gE3]; go_simp; obtain ⟨b8, y8, hw8, hy8, hx8, HN8⟩ := al w5 (.cells #[.int .i64 0, .int .i64 0, .slice none 0 0] 35); rw [hy8, hw8]; have HG8 : Hid (wr.heap.size ≤ b8) := hid (by have := HMD.out.size; omega); have HNE8_9 : Hid (b8 ≠ b9) := hid (by have := (hLT HN9.out); omega); clear hy8 hw8; have HMD := hid (HMD.out.thenBelow hx8); clear hHeld; refine hK.out _ _ (HSS.out _ HMD.out) fun hHeld => ?_; clear hK K; try simp only [Act.put, pE1, pE2, pE3]
       have HN9 := hid (nX hx8 HN9.out); have HDA := hid (HDA.out.below hx8); have HRA := hid (HRA.out.below hx8)
       try have HO5 := hid (ownsRow_below HO5.out hx8)
       try have HO11 := hid (ownsRow_below HO11.out hx8)
       clear hx8; refine rd1 7 rfl fun K hK => ?_; simp only [gE1, gE2, gE3]; go_simp; refine (CR.out _ (HTO.out _ HMD.out) HRA.out).mono ?_; rintro e w11 ⟨v11, sv11, l11, rfl, hd11, hs11, ho11, hc11⟩; dsimp only; refine hK.out _ _ ?_ (fun hHeld => ?_)
       ·exact HSS.out _ (pl11 HFL.out HMD.out HDA.out HRA.out hc11).2.1
       clear hK K; try simp only [Act.put, pE1, pE2, pE3]
       obtain ⟨a11, c11, e11⟩ := row_slice ho11; subst e11; have HO11 := hid (row_mono (HTO.out _ HMD.out).size ho11); obtain ⟨hk1, hk2, hk3⟩ := pl11 HFL.out HMD.out HDA.out HRA.out hc11
       try have HN8 := hid ((hk3 b8 HG8.out (hLT HN8.out)).trans HN8.out)
       try have HN9 := hid ((hk3 b9 HG9.out (hLT HN9.out)).trans HN9.out)
       have HO5 := hid (row_cells HO5.out HRA.out hc11.1); have HDA := hid hk1; have HRA := hid hd11; have HMD := hid hk2; have HS11 := hid hs11; clear hd11 hs11 ho11 hc11 hk1 hk2 hk3; refine rd1 10 rfl fun K hK => ?_; obtain ⟨hc10_0, hf10_0, hc10_1, hf10_1, hc10_2, hf10_2⟩ := bx3 HN8.out; simp only [gE1, gE2, gE3]; go_simp; obtain ⟨y10, hy10, hm10, hv10⟩ := st3 HN8.out (.int .i64 r.1.code) (.int .i64 r.1.done) (.slice a5 r.1.data.length c5); rw [hy10]; clear hy10 hc10_0 hf10_0 hc10_1 hf10_1 hc10_2 hf10_2; have HMD := hid (mM HMD.out hm10 HG8.out); clear hHeld
       refine hK.out _ _ (HSS.out _ HMD.out) fun hHeld => ?_; clear hK K; try simp only [Act.put, pE1, pE2, pE3]
       have HN9 := hid (nMa hm10 HN9.out HNE8_9.out); have HB10o : Hid (∃ cs, w11.heap[b8]? = some (.cells cs 35 (0, 0))) := hid ⟨_, HN8.out⟩; have HN8 := hid hv10; have HM10 := hid hm10; clear hv10 hm10; refine rd1 11 rfl fun K hK => ?_; obtain ⟨hc11_0, hf11_0, hc11_1, hf11_1, hc11_2, hf11_2⟩ := bx3 HN9.out; simp only [gE1, gE2, gE3]; go_simp; obtain ⟨y11, hy11, hm11, hv11⟩ := st3 HN9.out (.int .i64 r.1.code) (.int .i64 r.1.done) (.slice a11 r.1.data.length c11); rw [hy11]; clear hy11 hc11_0 hf11_0 hc11_1 hf11_1 hc11_2 hf11_2; have HMD := hid (mM HMD.out hm11 HG9.out); clear hHeld
       refine hK.out _ _ (HSS.out _ HMD.out) fun hHeld => ?_; clear hK K; try simp only [Act.put, pE1, pE2, pE3]
       have HN8 := hid (nMb hm11 HN8.out HNE8_9.out); have HB11o : Hid (∃ cs, y10.heap[b9]? = some (.cells cs 35 (0, 0))) := hid ⟨_, HN9.out⟩; have HN9 := hid hv11; have HM11 := hid hm11; clear hv11 hm11; refine wpAnyH_done (by kernel_rfl) ⟨rfl, ?_⟩ _; have HEND := hid hHeld.2; have HSE := hid hHeld.1; clear hHeld; clear HSE HSS HEND; have HPM := hid (pl_endB HDA.out HRA.out HO5.out HO11.out HB10o.out HM10.out HB11o.out HM11.out HN8.out HN9.out HRR.out HS5.out HS11.out HLK.out (HTO.out _ HMD.out)); go_wp2_with fail; go_meet; exact ⟨_, _, _, rfl, rfl, rfl, HPM.out⟩
     ·skip
      simp only [gE1, gE2, gE3]; go_simp; obtain ⟨b8, y8, hw8, hy8, hx8, HN8⟩ := al y9 (.cells #[.int .i64 0, .int .i64 0, .slice none 0 0] 35); rw [hy8, hw8]; have HG8 : Hid (wr.heap.size ≤ b8) := hid (by have := HMD.out.size; omega); have HNE8_9 : Hid (b8 ≠ b9) := hid (by have := (hLT HN9.out); omega); clear hy8 hw8; have HMD := hid (HMD.out.thenBelow hx8); clear hHeld; refine hK.out _ _ (HSS.out _ HMD.out) fun hHeld => ?_; clear hK K; try simp only [Act.put, pE1, pE2, pE3]
      have HN9 := hid (nX hx8 HN9.out); have HDA := hid (HDA.out.below hx8); have HRA := hid (HRA.out.below hx8)
      try have HO5 := hid (ownsRow_below HO5.out hx8)
      try have HO11 := hid (ownsRow_below HO11.out hx8)
      clear hx8; refine rd1 3 rfl fun K hK => ?_; simp only [gE1, gE2, gE3]; go_simp; refine (CD.out _ (HTO.out _ HMD.out) HDA.out).mono ?_; rintro e w5 ⟨v5, l5, rfl, hd5, hs5, ho5, hc5⟩; dsimp only; refine hK.out _ _ ?_ (fun hHeld => ?_)
      ·exact HSS.out _ (pl5 HFL.out HMD.out HDA.out HRA.out hc5).2.1
      clear hK K; try simp only [Act.put, pE1, pE2, pE3]
      obtain ⟨a5, c5, e5⟩ := row_slice ho5; subst e5; have HO5 := hid (row_mono (HTO.out _ HMD.out).size ho5); obtain ⟨hk1, hk2, hk3⟩ := pl5 HFL.out HMD.out HDA.out HRA.out hc5
      try have HN8 := hid ((hk3 b8 HG8.out (hLT HN8.out)).trans HN8.out)
      try have HN9 := hid ((hk3 b9 HG9.out (hLT HN9.out)).trans HN9.out)
      have HRA := hid hk1; have HDA := hid hd5; have HMD := hid hk2; have HS5 := hid hs5; clear hd5 hs5 ho5 hc5 hk1 hk2 hk3; refine rd1 7 rfl fun K hK => ?_; simp only [gE1, gE2, gE3]; go_simp; refine (CR.out _ (HTO.out _ HMD.out) HRA.out).mono ?_; rintro e w11 ⟨v11, sv11, l11, rfl, hd11, hs11, ho11, hc11⟩; dsimp only; refine hK.out _ _ ?_ (fun hHeld => ?_)
      ·exact HSS.out _ (pl11 HFL.out HMD.out HDA.out HRA.out hc11).2.1
      clear hK K; try simp only [Act.put, pE1, pE2, pE3]
      obtain ⟨a11, c11, e11⟩ := row_slice ho11; subst e11; have HO11 := hid (row_mono (HTO.out _ HMD.out).size ho11); obtain ⟨hk1, hk2, hk3⟩ := pl11 HFL.out HMD.out HDA.out HRA.out hc11
      try have HN8 := hid ((hk3 b8 HG8.out (hLT HN8.out)).trans HN8.out)
      try have HN9 := hid ((hk3 b9 HG9.out (hLT HN9.out)).trans HN9.out)
      have HO5 := hid (row_cells HO5.out HRA.out hc11.1); have HDA := hid hk1; have HRA := hid hd11; have HMD := hid hk2; have HS11 := hid hs11; clear hd11 hs11 ho11 hc11 hk1 hk2 hk3; refine rd1 10 rfl fun K hK => ?_; obtain ⟨hc10_0, hf10_0, hc10_1, hf10_1, hc10_2, hf10_2⟩ := bx3 HN8.out; simp only [gE1, gE2, gE3]; go_simp; obtain ⟨y10, hy10, hm10, hv10⟩ := st3 HN8.out (.int .i64 r.1.code) (.int .i64 r.1.done) (.slice a5 r.1.data.length c5); rw [hy10]; clear hy10 hc10_0 hf10_0 hc10_1 hf10_1 hc10_2 hf10_2; have HMD := hid (mM HMD.out hm10 HG8.out); clear hHeld
      refine hK.out _ _ (HSS.out _ HMD.out) fun hHeld => ?_; clear hK K; try simp only [Act.put, pE1, pE2, pE3]
      have HN9 := hid (nMa hm10 HN9.out HNE8_9.out); have HB10o : Hid (∃ cs, w11.heap[b8]? = some (.cells cs 35 (0, 0))) := hid ⟨_, HN8.out⟩; have HN8 := hid hv10; have HM10 := hid hm10; clear hv10 hm10; refine rd1 11 rfl fun K hK => ?_; obtain ⟨hc11_0, hf11_0, hc11_1, hf11_1, hc11_2, hf11_2⟩ := bx3 HN9.out; simp only [gE1, gE2, gE3]; go_simp; obtain ⟨y11, hy11, hm11, hv11⟩ := st3 HN9.out (.int .i64 r.1.code) (.int .i64 r.1.done) (.slice a11 r.1.data.length c11); rw [hy11]; clear hy11 hc11_0 hf11_0 hc11_1 hf11_1 hc11_2 hf11_2; have HMD := hid (mM HMD.out hm11 HG9.out); clear hHeld
      refine hK.out _ _ (HSS.out _ HMD.out) fun hHeld => ?_; clear hK K; try simp only [Act.put, pE1, pE2, pE3]
      have HN8 := hid (nMb hm11 HN8.out HNE8_9.out); have HB11o : Hid (∃ cs, y10.heap[b9]? = some (.cells cs 35 (0, 0))) := hid ⟨_, HN9.out⟩; have HN9 := hid hv11; have HM11 := hid hm11; clear hv11 hm11; refine wpAnyH_done (by kernel_rfl) ⟨rfl, ?_⟩ _; have HEND := hid hHeld.2; have HSE := hid hHeld.1; clear hHeld; clear HSE HSS HEND; have HPM := hid (pl_endB HDA.out HRA.out HO5.out HO11.out HB10o.out HM10.out HB11o.out HM11.out HN8.out HN9.out HRR.out HS5.out HS11.out HLK.out (HTO.out _ HMD.out)); go_wp2_with fail; go_meet; exact ⟨_, _, _, rfl, rfl, rfl, HPM.out⟩
   case rest =>
    obtain ⟨W, b8, b9, rfl, rfl, rfl, a5, c5, a11, c11, l5, sv5, lw5, hx12, hx13, hrd5, hrd11, hdu5, hl5, hbw5⟩ := hcut; have HDU5 := hid hdu5; have HL5 := hid hl5; have HBW5 := hid hbw5; have CSA := rsameA_any r.1 r.1 _ _ W hrd5 hrd11; rw [ansEq_self] at CSA; unfold aC at CSA; have CLK : Hid (∀ X, Below W.heap.size W X → Calls Tryz.prog 11 #[.pointer (some ⟨B, 0, none⟩), .pointer (some ⟨C, 0, none⟩), .int .i64 0] X fun e w' => e = .returned (.bool true) ∧ Below X.heap.size X w') := hid (fun X hX => by
     have h1 := devS_len HDU5.out.a.ok; have h2 : (strip l5).length = l5.length := by unfold strip; rw [mapA_len]
     have h3 := HL5.out; exact looks_any w1.heap.size w1.heap.size X B Ba l5 (HDU5.out.a.below hX) C sv5 lw5 (HDU5.out.b.below hX) HDU5.out.eq (by omega) (by omega) 0)
    have c0 := cellOf hx12 0 (v := .int .i64 r.1.code) rfl; have c1 := cellOf hx12 1 (v := .int .i64 r.1.done) rfl; have c2 := cellOf hx12 2 (v := .slice a5 r.1.data.length c5) rfl; have d0 := cellOf hx13 0 (v := .int .i64 r.1.code) rfl; have d1 := cellOf hx13 1 (v := .int .i64 r.1.done) rfl; have d2 := cellOf hx13 2 (v := .slice a11 r.1.data.length c11) rfl; clear hx12 hx13 hrd5 hrd11 hdu5 hl5 hbw5; go_wp2_with fail; refine CSA.mono ?_; rintro e w20 ⟨rfl, hb20⟩; have HB20 := hid hb20; clear CSA hb20 c0 c1 c2 d0 d1 d2; go_wp2_with fail; refine (CLK.out _ HB20.out).mono ?_
    rintro e w21 ⟨rfl, hb21⟩; have HB21 := hid (bthen HB20.out hb21); have HBW21 := hid (bthen HBW5.out HB21.out); clear hb21; have HDA := hid (HDU5.out.a.below HB21.out); have CP := dputm_any w1.heap.size w21 B Ba l5 HDA.out sn hsn sk hsk c HCL.out; unfold bA at CP; have s0 := cellOf (HX8.out _ HBW21.out) 0 (v := .int .u64 (sn : Int)) rfl; have s1 := cellOf (HX8.out _ HBW21.out) 1 (v := .int .i64 sk) rfl; have HI := hid (infoB HCL.out); have HX9w := hid (HX9.out _ HBW21.out)
    go_wp2_with (refine wpList_load_mid rfl 50 _ rfl (w.heap.size + 1 + 1) 0 rfl (bV c) _ (blkBox HX9w.out) Tryz.underlying50 rfl HI.out ?_)
    refine CP.mono ?_; rintro e w22 ⟨l7, rfl, hd7, hs7, hc7⟩; have HD7 := hid hd7; have HS7 := hid hs7; have HR7 := hid ((HDU5.out.b.below HB21.out).keptMap hc7.1 HDA.out.isMap); have HB22 : Hid (Below w1.heap.size w1 w22) := hid (HBW21.out.trans (hc7.1.below HDA.out.geF HBW21.out.size)); have HL7 : Hid (l7.length ≤ 42) := hid (by
     have h1 := putL_len (strip l5) sn sk c; rw [← HS7.out] at h1; unfold strip at h1; rw [mapA_len, mapA_len] at h1; have h2 := HL5.out
     omega)
    obtain ⟨pe, hpe⟩ : ∃ pe, PutE (strip l5) sn sk = pe := ⟨_, rfl⟩
    have HPE := hid hpe; rw [hpe]; clear CP s0 s1 hd7 hs7 hc7 hpe; have CNM := num14_any pe w22; go_wp2_with fail; refine CNM.mono ?_; rintro e w23 ⟨rfl, rfl⟩; have CF := rfind_any w1.heap.size w22 C sv5 lw5 HR7.out sn; obtain ⟨fi, hfi⟩ : ∃ fi, findI sn lw5 = fi := ⟨_, rfl⟩
    have HFI := hid hfi; rw [hfi] at CF; have s0 := cellOf (HX8.out _ HB22.out) 0 (v := .int .u64 (sn : Int)) rfl; clear CNM hfi; go_wp2_with fail; refine CF.mono ?_; rintro e w23 ⟨rfl, rfl⟩; clear CF s0
    cases hg : getA sn l5 with
    | none =>
     have hgs : getA sn (strip l5) = none := by rw [getA_strip, hg]; rfl
     have h1 := HFI.out; rw [findI_no HDU5.out.eq hg] at h1; subst h1; have h2 := HPE.out; rw [putE_no hgs] at h2; subst h2; have HDF : Hid (DuoD w1.heap.size w22 B Ba l7 C sv5 lw5) := hid ⟨HD7.out, HR7.out, by rw [HDU5.out.eq, HS7.out, putL_no hgs]⟩; clear hg hgs; obtain ⟨wf, rfl⟩ : ∃ y, y = w22 := ⟨_, rfl⟩
     have HBF := hid HB22.out; obtain ⟨sv7, lw7, HDF⟩ : ∃ sv7 lw7, Hid (DuoD w1.heap.size wf B Ba l7 C sv7 lw7) := ⟨_, _, HDF⟩
     have CLK2 := looks_any w1.heap.size w1.heap.size wf B Ba l7 HDF.out.a C sv7 lw7 HDF.out.b HDF.out.eq (by have h1 := devS_len HDF.out.a.ok; have h2 : (strip l7).length = l7.length := (by unfold strip; rw [mapA_len]); have h3 := HL7.out; omega) (by have h3 := HL7.out; omega) 0; go_wp2_with fail; refine CLK2.mono ?_; rintro e w40 ⟨rfl, hb40⟩; have HB40 := hid (bthen HBF.out hb40); have CK := known14_any w40; clear CLK2 hb40; go_wp2_with fail; refine CK.mono ?_; rintro e w41 ⟨rfl, hb41⟩; have HB41 := hid (HEN0.out _ (bthen HB40.out hb41)); clear CK hb41; go_wp2_with fail; go_ret
     exact ⟨rfl, HB41.out⟩
    | some x =>
     have HG := hid hg; have HGS : Hid (getA sn (strip l5) = some x.1) := hid (by rw [getA_strip, hg]; rfl); obtain ⟨i, pv, hfi, hli⟩ := findI_in HDU5.out.eq HDU5.out.a.ok.ris hg; have h1 := HFI.out; rw [hfi] at h1; subst h1; have HLI := hid hli; obtain ⟨g, cap5, hv5, hcc1, hcc2, e0, e1, e2⟩ := HR7.out.at_ hli; obtain ⟨n5, hn5⟩ : ∃ y, lw5.length = y := ⟨_, rfl⟩
     have HN5 := hid hn5; have hin5 : i < n5 := by rw [← hn5]; exact (List.getElem?_eq_some_iff.1 hli).1
     have hn5b : n5 ≤ 100 := by rw [← hn5, ← both_len HDU5.out.eq]; have := HL5.out; omega
     rw [hn5] at hv5 hcc1; subst hv5; have HCC : Hid (n5 ≤ cap5) := hid hcc1; have HCX : Hid (w22.cell? ⟨C, 0, none⟩ = some (.slice (some ⟨g, 0, none⟩) n5 cap5) ∧ w22.cell? ⟨g, i * 3 + 1, none⟩ = some (.int .i64 (x.1.size : Int)) ∧ w22.cell? ⟨w.heap.size + 1, 1, none⟩ = some (.int .i64 sk) ∧ C < w22.heap.size ∧ g < w22.heap.size ∧ w.heap.size + 1 < w22.heap.size) := hid ⟨HR7.out.cell, e1, cellOf (HX8.out _ HB22.out) 1 (v := .int .i64 sk) rfl, HR7.out.lt, ownsRow_lt HR7.out.row _ (by rw [ob_some]; simp), (Array.getElem?_eq_some_iff.1 (HX8.out _ HB22.out)).1⟩
     obtain ⟨sz, hsz⟩ : ∃ y, x.1.size = y := ⟨_, rfl⟩
     have HSZ := hid hsz; have hszb : sz ≤ 256 := by rw [← hsz]; exact (HDU5.out.a.ok.vol (sn, x.1) (by unfold strip mapA; exact List.mem_map.2 ⟨_, getA_some hg, rfl⟩)).size
     rw [hsz] at HCX; clear hg hfi hli hcc1 hcc2 e0 e1 e2 hn5 hsz; have q5 : decide ((i : Int) < 0) = false := decide_eq_false (by omega)
     by_cases hk0 : sk < 0
     ·have q0 : decide (sk < 0) = true := decide_eq_true hk0
      have h2 := HPE.out; rw [putE_out HGS.out (.inl hk0)] at h2; subst h2; have HDF : Hid (DuoD w1.heap.size w22 B Ba l7 C (.slice (some ⟨g, 0, none⟩) n5 cap5) lw5) := hid ⟨HD7.out, HR7.out, by rw [HDU5.out.eq, HS7.out, putL_out HGS.out (.inl hk0)]⟩; clear hk0; go_wp2_with fail; have HSS : Hid (∀ X, Below w22.heap.size w22 X → (X.cell? ⟨w.heap.size + 1, 1, none⟩ = some (.int .i64 sk)) ∧ Below w22.heap.size w22 X) := hid (fun X hb => ⟨(World.cell?_of_block (hb.block _ (HCX.out.2.2.2.2.2))).trans (HCX.out.2.2.1), hb⟩)
      refine wp_region_held_drew (S := fun X => (X.cell? ⟨w.heap.size + 1, 1, none⟩ = some (.int .i64 sk)) ∧ Below w22.heap.size w22 X) (by kernel_rfl) (HSS.out _ (Below.refl _ _).drew) (fun hHeld => ?_); have hbe : Below w22.heap.size w22 w22.drew := (Below.refl _ _).drew; obtain ⟨wd, hwd⟩ : ∃ y, w22.drew = y := ⟨_, rfl⟩
      rw [hwd] at hHeld hbe ⊢; have HBE := hid hbe; have HS0 : Hid (w22.heap.size ≤ wd.heap.size) := hid HBE.out.size; clear hwd hbe; refine tkX 0 rfl ?_; refine tkX 1 rfl ?_; refine tkQ 2 (.bool true) rfl ?_ ?_
      ·(intro w hSw; simp only [gE1, gE2, gE3]; (go_simp; first | done | with_reducible rfl | simp))
      refine tkX 3 rfl ?_; refine tkT 4 rfl ?_; refine tkT 6 rfl ?_; refine tkT 10 rfl ?_; refine tkT 5 rfl ?_; refine tkT 7 rfl ?_; refine tkT 8 rfl ?_; refine tkT 9 rfl ?_; refine tkT 11 rfl ?_; refine tkT 12 rfl ?_; refine tkT 13 rfl ?_; refine tkT 14 rfl ?_; refine tkQ 15 (.bool true) rfl ?_ ?_
      ·(intro w hSw; simp only [gE1, gE2, gE3]; (go_simp; first | done | with_reducible rfl | simp))
      refine tkX 16 rfl ?_; refine wpAnyH_done (by kernel_rfl) ?_ _; have HEND := hid hHeld.2; have HSE := hid hHeld.1; clear hHeld; clear HSE HSS HEND; have HBF := hid (bthen HB22.out HBE.out); obtain ⟨sv7, lw7, HDF⟩ : ∃ sv7 lw7, Hid (DuoD w1.heap.size wd B Ba l7 C sv7 lw7) := ⟨_, _, hid (HDF.out.below HBE.out)⟩
      obtain ⟨wf, rfl⟩ : ∃ y, y = wd := ⟨_, rfl⟩
      clear HBE; have CLK2 := looks_any w1.heap.size w1.heap.size wf B Ba l7 HDF.out.a C sv7 lw7 HDF.out.b HDF.out.eq (by have h1 := devS_len HDF.out.a.ok; have h2 : (strip l7).length = l7.length := (by unfold strip; rw [mapA_len]); have h3 := HL7.out; omega) (by have h3 := HL7.out; omega) 0; go_wp2_with fail; refine CLK2.mono ?_; rintro e w40 ⟨rfl, hb40⟩; have HB40 := hid (bthen HBF.out hb40); have CK := known14_any w40; clear CLK2 hb40; go_wp2_with fail; refine CK.mono ?_; rintro e w41 ⟨rfl, hb41⟩; have HB41 := hid (HEN0.out _ (bthen HB40.out hb41)); clear CK hb41; go_wp2_with fail; go_ret
      exact ⟨rfl, HB41.out⟩
     ·have q0 : decide (sk < 0) = false := decide_eq_false hk0
      obtain ⟨kn, rfl⟩ : ∃ kn : Nat, sk = (kn : Int) := ⟨sk.toNat, by omega⟩
      by_cases hk1 : sz ≤ kn
      ·have q1 : decide (sz ≤ kn) = true := decide_eq_true hk1
       have hko : (kn : Int) < 0 ∨ (x.1.size : Int) ≤ (kn : Int) := .inr (by rw [HSZ.out]; omega); have h2 := HPE.out; rw [putE_out HGS.out hko] at h2; subst h2; have HDF : Hid (DuoD w1.heap.size w22 B Ba l7 C (.slice (some ⟨g, 0, none⟩) n5 cap5) lw5) := hid ⟨HD7.out, HR7.out, by rw [HDU5.out.eq, HS7.out, putL_out HGS.out hko]⟩; clear hk0 hk1 hko; go_wp2_with fail
       have HSS : Hid (∀ X, Below w22.heap.size w22 X → (X.cell? ⟨C, 0, none⟩ = some (.slice (some ⟨g, 0, none⟩) n5 cap5) ∧ X.cell? ⟨g, i * 3 + 1, none⟩ = some (.int .i64 (sz : Int)) ∧ X.cell? ⟨w.heap.size + 1, 1, none⟩ = some (.int .i64 (kn : Int))) ∧ Below w22.heap.size w22 X) := hid (fun X hb => ⟨⟨(World.cell?_of_block (hb.block _ (HCX.out.2.2.2.1))).trans (HCX.out.1), (World.cell?_of_block (hb.block _ (HCX.out.2.2.2.2.1))).trans (HCX.out.2.1), (World.cell?_of_block (hb.block _ (HCX.out.2.2.2.2.2))).trans (HCX.out.2.2.1)⟩, hb⟩)
       refine wp_region_held_drew (S := fun X => (X.cell? ⟨C, 0, none⟩ = some (.slice (some ⟨g, 0, none⟩) n5 cap5) ∧ X.cell? ⟨g, i * 3 + 1, none⟩ = some (.int .i64 (sz : Int)) ∧ X.cell? ⟨w.heap.size + 1, 1, none⟩ = some (.int .i64 (kn : Int))) ∧ Below w22.heap.size w22 X) (by kernel_rfl) (HSS.out _ (Below.refl _ _).drew) (fun hHeld => ?_); have hbe : Below w22.heap.size w22 w22.drew := (Below.refl _ _).drew; obtain ⟨wd, hwd⟩ : ∃ y, w22.drew = y := ⟨_, rfl⟩
       rw [hwd] at hHeld hbe ⊢; have HBE := hid hbe; have HS0 : Hid (w22.heap.size ≤ wd.heap.size) := hid HBE.out.size; clear hwd hbe; refine tkX 0 rfl ?_; refine tkX 1 rfl ?_; refine tkQ 2 (.bool false) rfl ?_ ?_
       ·(intro w hSw; simp only [gE1, gE2, gE3]; (go_simp; first | done | with_reducible rfl | simp))
       refine tkX 3 rfl ?_; refine tkX 4 rfl ?_; refine tkX 6 rfl ?_; refine tkX 10 rfl ?_; refine tkX 5 rfl ?_; refine tkX 7 rfl ?_; refine tkX 8 rfl ?_; refine tkX 9 rfl ?_; refine tkX 11 rfl ?_; refine tkX 12 rfl ?_; refine tkX 13 rfl ?_; refine tkQ 14 (.bool true) rfl ?_ ?_
       ·(intro w hSw; simp only [gE1, gE2, gE3]; (go_simp; first | done | with_reducible rfl | simp [*]))
       refine tkQ 15 (.bool true) rfl ?_ ?_
       ·(intro w hSw; simp only [gE1, gE2, gE3]; (go_simp; first | done | with_reducible rfl | simp))
       refine tkX 16 rfl ?_; refine wpAnyH_done (by kernel_rfl) ?_ _; have HEND := hid hHeld.2; have HSE := hid hHeld.1; clear hHeld; clear HSE HSS HEND; have HBF := hid (bthen HB22.out HBE.out); obtain ⟨sv7, lw7, HDF⟩ : ∃ sv7 lw7, Hid (DuoD w1.heap.size wd B Ba l7 C sv7 lw7) := ⟨_, _, hid (HDF.out.below HBE.out)⟩
       obtain ⟨wf, rfl⟩ : ∃ y, y = wd := ⟨_, rfl⟩
       clear HBE; have CLK2 := looks_any w1.heap.size w1.heap.size wf B Ba l7 HDF.out.a C sv7 lw7 HDF.out.b HDF.out.eq (by have h1 := devS_len HDF.out.a.ok; have h2 : (strip l7).length = l7.length := (by unfold strip; rw [mapA_len]); have h3 := HL7.out; omega) (by have h3 := HL7.out; omega) 0; go_wp2_with fail; refine CLK2.mono ?_; rintro e w40 ⟨rfl, hb40⟩; have HB40 := hid (bthen HBF.out hb40); have CK := known14_any w40; clear CLK2 hb40; go_wp2_with fail; refine CK.mono ?_; rintro e w41 ⟨rfl, hb41⟩; have HB41 := hid (HEN0.out _ (bthen HB40.out hb41)); clear CK hb41; go_wp2_with fail; go_ret
       exact ⟨rfl, HB41.out⟩
      ·have q1 : decide (sz ≤ kn) = false := decide_eq_false hk1
       have hki : ¬ ((kn : Int) < 0 ∨ (x.1.size : Int) ≤ (kn : Int)) := by rw [HSZ.out]; omega
       have h2 := HPE.out; rw [putE_in HGS.out hki] at h2; subst h2; have HPLs := hid (putL_in (c := c) HGS.out hki); have hkn : kn < 256 := by omega
       clear hk0 hk1 hki; go_wp2_with fail; have HSS : Hid (∀ X, Below w22.heap.size w22 X → (X.cell? ⟨C, 0, none⟩ = some (.slice (some ⟨g, 0, none⟩) n5 cap5) ∧ X.cell? ⟨g, i * 3 + 1, none⟩ = some (.int .i64 (sz : Int)) ∧ X.cell? ⟨w.heap.size + 1, 1, none⟩ = some (.int .i64 (kn : Int))) ∧ Below w22.heap.size w22 X) := hid (fun X hb => ⟨⟨(World.cell?_of_block (hb.block _ (HCX.out.2.2.2.1))).trans (HCX.out.1), (World.cell?_of_block (hb.block _ (HCX.out.2.2.2.2.1))).trans (HCX.out.2.1), (World.cell?_of_block (hb.block _ (HCX.out.2.2.2.2.2))).trans (HCX.out.2.2.1)⟩, hb⟩)
       refine wp_region_held_drew (S := fun X => (X.cell? ⟨C, 0, none⟩ = some (.slice (some ⟨g, 0, none⟩) n5 cap5) ∧ X.cell? ⟨g, i * 3 + 1, none⟩ = some (.int .i64 (sz : Int)) ∧ X.cell? ⟨w.heap.size + 1, 1, none⟩ = some (.int .i64 (kn : Int))) ∧ Below w22.heap.size w22 X) (by kernel_rfl) (HSS.out _ (Below.refl _ _).drew) (fun hHeld => ?_); have hbe : Below w22.heap.size w22 w22.drew := (Below.refl _ _).drew; obtain ⟨wd, hwd⟩ : ∃ y, w22.drew = y := ⟨_, rfl⟩
       rw [hwd] at hHeld hbe ⊢; have HBE := hid hbe; have HS0 : Hid (w22.heap.size ≤ wd.heap.size) := hid HBE.out.size; clear hwd hbe; refine tkX 0 rfl ?_; refine tkX 1 rfl ?_; refine tkQ 2 (.bool false) rfl ?_ ?_
       ·(intro w hSw; simp only [gE1, gE2, gE3]; (go_simp; first | done | with_reducible rfl | simp))
       refine tkX 3 rfl ?_; refine tkX 4 rfl ?_; refine tkX 6 rfl ?_; refine tkX 10 rfl ?_; refine tkX 5 rfl ?_; refine tkX 7 rfl ?_; refine tkX 8 rfl ?_; refine tkX 9 rfl ?_; refine tkX 11 rfl ?_; refine tkX 12 rfl ?_; refine tkX 13 rfl ?_; refine tkQ 14 (.bool false) rfl ?_ ?_
       ·(intro w hSw; simp only [gE1, gE2, gE3]; (go_simp; first | done | with_reducible rfl | simp [*]))
       refine tkQ 15 (.bool false) rfl ?_ ?_
       ·(intro w hSw; simp only [gE1, gE2, gE3]; (go_simp; first | done | with_reducible rfl | simp))
       refine tkX 16 rfl ?_; refine wpAnyH_done (by kernel_rfl) ?_ _; have HEND := hid hHeld.2; have HSE := hid hHeld.1; clear hHeld; clear HSE HSS HEND; have HBe := hid (bthen HB22.out HBE.out); have HRe := hid (HR7.out.below HBE.out); have HDe := hid (HD7.out.below HBE.out); obtain ⟨we, rfl⟩ : ∃ y, y = wd := ⟨_, rfl⟩
       have HX8e := hid (HX8.out _ HBe.out); have HX9e := hid (HX9.out _ HBe.out); have HRA := hid (blkBox HX9e.out); have HVO : Hid (x.1.Ok) := hid (HDU5.out.a.ok.vol (sn, x.1) (by unfold strip mapA; exact List.mem_map.2 ⟨_, getA_some HG.out, rfl⟩)); have HNG : Hid (C ≠ g ∧ w.heap.size + 1 ≠ g ∧ w.heap.size + 1 + 1 ≠ g) := hid (by
        obtain ⟨cs, hg1⟩ := own_tagR HRe.out.row g (by rw [ob_some]; simp); refine ⟨fun e => ?_, fun e => ?_, fun e => ?_⟩
        ·rw [← e, HRe.out.box] at hg1
         obtain ⟨_, h2, _⟩ := Obj.cells.inj (Option.some.inj hg1); exact absurd h2 (by decide)
        ·rw [← e, HX8e.out] at hg1
         obtain ⟨_, h2, _⟩ := Obj.cells.inj (Option.some.inj hg1); exact absurd h2 (by decide)
        ·rw [← e, HX9e.out] at hg1
         obtain ⟨_, h2, _⟩ := Obj.cells.inj (Option.some.inj hg1); exact absurd h2 (by decide))
       have CSet : Hid (∀ X, Below we.heap.size we X → Calls Tryz.prog 23 #[.pointer (some ⟨g, i * 3, none⟩), .int .i64 (kn : Int), .agg (bV c).toArray] X fun e w' => ∃ v, e = .returned (.tuple #[]) ∧ RDevAt w1.heap.size w' C (.slice (some ⟨g, 0, none⟩) n5 cap5) (lw5.set i (sn, (⟨x.1.size, putA kn c x.1.m⟩, v))) ∧ Mods [g] X w') := hid (fun X hX => by
        have hr := HRe.out.below hX; have h1 := rset_any w1.heap.size X g (i * 3) pv x.1.m (hr.vol HLI.out) (hr.frz _) HVO.out.blk HVO.out.ris (by have := HVO.out.len; omega) kn c HCL.out; unfold bA at h1; refine h1.mono fun e w' ⟨he, hst⟩ => ?_; obtain ⟨v, h2, h3⟩ := hr.rst HLI.out hst (Nat.le_trans HBe.out.size hX.size); exact ⟨v, he, h2, h3⟩)
       clear HBE; go_wp2_with fail
       have HSS : Hid (∀ X, Mods [g] we X → (X.cell? ⟨C, 0, none⟩ = some (.slice (some ⟨g, 0, none⟩) n5 cap5) ∧ X.cell? ⟨w.heap.size + 1, 1, none⟩ = some (.int .i64 (kn : Int)) ∧ X.rangeAt (w.heap.size + 1 + 1) 0 (bV c)) ∧ Mods [g] we X) := hid (fun X hb => ⟨⟨(World.cell?_of_block (hb.block _ (HRe.out.lt) ((fun hh => HNG.out.1 (by simpa using hh))))).trans (HRe.out.cell), (World.cell?_of_block (hb.block _ ((hLT HX8e.out)) ((fun hh => HNG.out.2.1 (by simpa using hh))))).trans (cellOf HX8e.out 1 rfl), (fun j u hj => (World.cell?_of_block (a := ⟨w.heap.size + 1 + 1, 0 + j, none⟩) (hb.block (w.heap.size + 1 + 1) (hLT HX9e.out) (fun hh => HNG.out.2.2 (by simpa using hh)))).trans (HRA.out j u hj))⟩, hb⟩)
       refine wp_region_held_drew (S := fun X => (X.cell? ⟨C, 0, none⟩ = some (.slice (some ⟨g, 0, none⟩) n5 cap5) ∧ X.cell? ⟨w.heap.size + 1, 1, none⟩ = some (.int .i64 (kn : Int)) ∧ X.rangeAt (w.heap.size + 1 + 1) 0 (bV c)) ∧ Mods [g] we X) (by kernel_rfl) (HSS.out _ (Mods.of_below (Below.refl _ _).drew)) (fun hHeld => ?_); have hbe : Below we.heap.size we we.drew := (Below.refl _ _).drew; obtain ⟨wd, hwd⟩ : ∃ y, we.drew = y := ⟨_, rfl⟩
       rw [hwd] at hHeld hbe ⊢; have HBE := hid hbe; have HS0 : Hid (we.heap.size ≤ wd.heap.size) := hid HBE.out.size; clear hwd hbe; refine tkX 0 rfl ?_; refine tkX 4 rfl ?_; refine tkX 6 rfl ?_; refine wpAnyH_take (i := 8) (v := _) rfl (by kernel_rfl) (by kernel_rfl) (by kernel_rfl) (fun _ _ _ h => h) (yieldsIf_load_mid (by rfl) 50 _ rfl (w.heap.size + 1 + 1) (0) rfl (bV c) _ (fun w hSw => hSw.1.2.2) (Tryz.underlying50) rfl (HI.out)) (by assumption) ?_; simp only [gE1, gE2, gE3, Act.put, pE1, pE2, pE3]; refine tkX 1 rfl ?_; refine tkX 7 rfl ?_; refine tkX 2 rfl ?_; refine tkX 3 rfl ?_
       refine tkX 5 rfl ?_; refine rd1 9 rfl fun K hK => ?_; simp only [gE1, gE2, gE3]; go_simp; refine (CSet.out _ HBE.out).mono ?_; rintro e w9 ⟨v9, rfl, hd9, hm9⟩; dsimp only; refine hK.out _ _ ?_ (fun hHeld => ?_)
       ·exact HSS.out _ ((Mods.of_below HBE.out).trans hm9 (fun i hi => .inl hi))
       clear hK K; try simp only [Act.put, pE1, pE2, pE3]
       have HR9 := hid hd9; have HM9 := hid ((Mods.of_below (F := [g]) HBE.out).trans hm9 (fun i hi => .inl hi)); clear hd9 hm9; refine wpAnyH_done (by kernel_rfl) ?_ _; have HEND := hid hHeld.2; have HSE := hid hHeld.1; clear hHeld; clear HSE HSS HEND; obtain ⟨sv7, lw7, HDF⟩ : ∃ sv7 lw7, Hid (DuoD w1.heap.size w9 B Ba l7 C sv7 lw7) := ⟨_, _, hid (pr_duo HDe.out HRe.out HR9.out HM9.out HDU5.out.eq HDU5.out.a.ok.ris HLI.out (by rw [HS7.out, HPLs.out]; rfl))⟩
       have HBF : Hid (Below w1.heap.size w1 w9) := hid (HBe.out.trans (HM9.out.below (fun k hk => by rw [List.mem_singleton.1 hk]; exact HRe.out.geF g (by rw [ob_some]; simp)) HBe.out.size)); obtain ⟨wf, rfl⟩ : ∃ y, y = w9 := ⟨_, rfl⟩
       have CLK2 := looks_any w1.heap.size w1.heap.size wf B Ba l7 HDF.out.a C sv7 lw7 HDF.out.b HDF.out.eq (by have h1 := devS_len HDF.out.a.ok; have h2 : (strip l7).length = l7.length := (by unfold strip; rw [mapA_len]); have h3 := HL7.out; omega) (by have h3 := HL7.out; omega) 0; go_wp2_with fail; refine CLK2.mono ?_; rintro e w40 ⟨rfl, hb40⟩; have HB40 := hid (bthen HBF.out hb40); have CK := known14_any w40; clear CLK2 hb40; go_wp2_with fail; refine CK.mono ?_; rintro e w41 ⟨rfl, hb41⟩; have HB41 := hid (HEN0.out _ (bthen HB40.out hb41)); clear CK hb41; go_wp2_with fail; go_ret
       exact ⟨rfl, HB41.out⟩
end Go.Proofs.YthkmihedkddnmaaGreat
