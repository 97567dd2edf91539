/- Several texts in one: Net4 Net5 Net6. -/
import Derived.Test.YtgkelbdgdhkeoaaGreatPNB
import Derived.Test.YtgkelbdgdhkeoaaGreatPMsg38
import Derived.Test.YtgkelbdgdhkeoaaGreatPNA
namespace Go.Proofs.YtgkelbdgdhkeoaaGreat
open Go.RowKit
set_option linter.unusedVariables false
set_option linter.unusedSimpArgs false
open Wire Cmd
/-- A net of the reference: its box at B, with the slice sv of the letters L; their bytes lie as they lay in w0. -/
structure RNetAt (n0 : Nat) (w0 w : World) (B : Nat) (sv : Value) (L : List Lt) : Prop where
 box : w.heap[B]? = some (.cells #[sv] 30 (0, 0))
 row : w.ownsRow n0 57 3 sv L.length (ltC L)
 byt : ∀ x ∈ L, Rd w0 1 x.v x.b.length (bV x.b)
 ge : n0 ≤ B
theorem RNetAt.lt {n0 : Nat} {w0 w : World} {B : Nat} {sv : Value} {L : List Lt} (h : RNetAt n0 w0 w B sv L) : B < w.heap.size := (Array.getElem?_eq_some_iff.1 h.box).1
theorem RNetAt.cell {n0 : Nat} {w0 w : World} {B : Nat} {sv : Value} {L : List Lt} (h : RNetAt n0 w0 w B sv L) : w.cell? ⟨B, 0, none⟩ = some sv := cellOf h.box 0 rfl
theorem RNetAt.mods {n0 : Nat} {w0 w w' : World} {B : Nat} {sv : Value} {L : List Lt} {F : List Nat} (h : RNetAt n0 w0 w B sv L) (hm : Mods F w w') (h1 : B ∉ F) (h2 : ∀ k ∈ ob sv, k ∉ F) : RNetAt n0 w0 w' B sv L :=
 ⟨(hm.block _ h.lt h1).trans h.box, ownsRow_at h.row (fun k hk => hm.block k (ownsRow_lt h.row k hk) (h2 k hk)), h.byt, h.ge⟩
theorem RNetAt.below {n0 : Nat} {w0 w w' : World} {B : Nat} {sv : Value} {L : List Lt} (h : RNetAt n0 w0 w B sv L) (hb : Below w.heap.size w w') : RNetAt n0 w0 w' B sv L := h.mods (F := []) (Mods.of_below hb) (by simp) (by simp)
/-- A letter's cells. -/
theorem rdL {w : World} {sv : Value} {L : List Lt} (h : Rd w 3 sv L.length (ltC L)) {i : Nat} {x : Lt} (hx : L[i]? = some x) :
  ∃ g o cap, sv = .slice (some ⟨g, o, none⟩) L.length cap ∧ L.length ≤ cap ∧ cap ≤ maxLen ∧ g < w.heap.size ∧ w.cell? ⟨g, o + i * 3, none⟩ = some (.int .i64 x.to_) ∧ w.cell? ⟨g, o + (i * 3 + 1), none⟩ = some (.int .i64 (x.car : Int)) ∧ w.cell? ⟨g, o + (i * 3 + 2), none⟩ = some x.v := by
 obtain ⟨ao, cap, rfl, _, _, ⟨_, h1, h2⟩, hc⟩ := h
 obtain ⟨g0, g1, g2⟩ := ltC_get hx
 obtain ⟨b, off, rfl, hl, hh⟩ := hc _ _ g0
 refine ⟨b, off, cap, rfl, h1, h2, hl, hh, ?_, ?_⟩
 ·obtain ⟨b', off', e, _, hh⟩ := hc _ _ g1
  obtain ⟨rfl, rfl, _⟩ := Addr.mk.inj (Option.some.inj e)
  exact hh
 ·obtain ⟨b', off', e, _, hh⟩ := hc _ _ g2
  obtain ⟨rfl, rfl, _⟩ := Addr.mk.inj (Option.some.inj e)
  exact hh
theorem RNetAt.at_ {n0 : Nat} {w0 w : World} {B : Nat} {sv : Value} {L : List Lt} (h : RNetAt n0 w0 w B sv L) {i : Nat} {x : Lt} (hx : L[i]? = some x) :
  ∃ g cap, sv = .slice (some ⟨g, 0, none⟩) L.length cap ∧ L.length ≤ cap ∧ cap ≤ maxLen ∧ w.cell? ⟨g, i * 3, none⟩ = some (.int .i64 x.to_) ∧ w.cell? ⟨g, i * 3 + 1, none⟩ = some (.int .i64 (x.car : Int)) ∧ w.cell? ⟨g, i * 3 + 2, none⟩ = some x.v := by
 obtain ⟨g, o, cap, rfl, h1, h2, _, c0, c1, c2⟩ := rdL (Rd.of_own h.row) hx
 rcases h.row.2 with ⟨he, _⟩ | ⟨g', cap', cur, he, _⟩
 ·cases he
 ·obtain ⟨e1, _, _⟩ := Value.slice.inj he
  obtain ⟨rfl, rfl, _⟩ := Addr.mk.inj (Option.some.inj e1)
  exact ⟨g, cap, rfl, h1, h2, by simpa using c0, by simpa using c1, by simpa using c2⟩
theorem rdV {n0 : Nat} {w0 w : World} {B : Nat} {sv : Value} {L : List Lt} (h : RNetAt n0 w0 w B sv L) : ∀ x ∈ L, ∃ ao cap, x.v = .slice ao x.b.length cap := fun x hx => by
 obtain ⟨ao, cap, e, _⟩ := h.byt x hx
 exact ⟨ao, cap, e⟩
theorem ltC_oneR {L : List Lt} (h : ∀ x ∈ L, ∃ ao cap, x.v = .slice ao x.b.length cap) : ∀ u ∈ ltC L, u.oneCell' = true :=
 ltC_one L (fun x hx => by obtain ⟨ao, cap, e⟩ := h x hx; rw [e]; rfl)
set_option maxRecDepth 100000 in
set_option maxHeartbeats 1600000 in
theorem rat_out (n0 : Nat) (w0 w : World) (B : Nat) (sv : Value) (L : List Lt) (i : Int) (h : RNetAt n0 w0 w B sv L) (hi : i < 0 ∨ (L.length : Int) ≤ i) : Calls Tryz.prog 22 #[.pointer (some ⟨B, 0, none⟩), .int .i64 i] w fun e w' => e = .returned (.tuple #[.int .i64 0, .slice none 0 0, .int .i64 6]) ∧ w = w' := by
 have c0 := h.cell
 obtain ⟨ao, cap, rfl, _⟩ := Rd.of_own h.row
 clear h
 by_cases h0 : i < 0
 ·have g0 : decide (i < 0) = true := decide_eq_true h0
  clear h0 hi
  go_enter Tryz.func22, Tryz.ntmps22
  go_wp2_with fail
  go_ret3
  exact ⟨rfl, rfl⟩
 ·have g0 : decide (i < 0) = false := decide_eq_false h0
  have g1 : decide ((L.length : Int) ≤ i) = true := decide_eq_true (by omega)
  clear h0 hi
  go_enter Tryz.func22, Tryz.ntmps22
  go_wp2_with fail
  go_ret3
  exact ⟨rfl, rfl⟩
set_option maxRecDepth 100000 in
set_option maxHeartbeats 1600000 in
theorem rat_in (n0 : Nat) (w0 w : World) (B : Nat) (sv : Value) (L : List Lt) (i : Nat) (x : Lt) (h : RNetAt n0 w0 w B sv L) (hx : L[i]? = some x) :
  Calls Tryz.prog 22 #[.pointer (some ⟨B, 0, none⟩), .int .i64 (i : Int)] w fun e w' => e = .returned (.tuple #[.int .i64 x.to_, x.v, .int .i64 0]) ∧ Below w.heap.size w w' := by
 have c0 := h.cell
 obtain ⟨ax, cx, ex⟩ := rdV h x (List.mem_of_getElem? hx)
 obtain ⟨g, cap, rfl, hc1, hc2, g0, g1, g2⟩ := h.at_ hx
 have hi : i < L.length := (List.getElem?_eq_some_iff.1 hx).1
 rw [ex] at g2 ⊢
 clear h hx ex g1
 have q0 : decide ((i : Int) < 0) = false := decide_eq_false (by omega)
 have q1 : decide ((L.length : Int) ≤ (i : Int)) = false := decide_eq_false (by omega)
 unfold maxLen at hc2
 go_enter Tryz.func22, Tryz.ntmps22
 go_wp2_with fail
 go_quiet (fail)
 rename_i nq
 go_wp2_with fail
 go_ret3
 exact ⟨rfl, below_drewN (Below.refl _ _) _⟩
theorem infoRL : (Tryz.prog.info? 57).map (fun i => (i.zero, i.size, i.bytes)) = some (some (.agg #[.int .i64 0, .int .i64 0, .slice none 0 0]), 3, 40) := by kernel_rfl
/-- A new row put into the box. -/
theorem RNetAt.fresh {n0 n1 : Nat} {w0 w1 : World} {B : Nat} {sv sv' : Value} {L : List Lt} (hb : w1.heap[B]? = some (.cells #[sv] 30 (0, 0))) (ho : w1.ownsRow n1 57 3 sv' L.length (ltC L)) (hn : n0 ≤ n1) (hB : n0 ≤ B)
  (hy : ∀ x ∈ L, Rd w0 1 x.v x.b.length (bV x.b)) : RNetAt n0 w0 (w1.setCell ⟨B, 0, none⟩ sv') B sv' L := by
 refine ⟨setOf hb 0 sv', ownsRow_at (ownsRow_base ho hn) (fun k hk => setOther _ _ (fun e => ?_)), hy, hB⟩
 obtain ⟨cs', f', h'⟩ := own_tagS ho k hk
 have e' : k = B := e
 rw [e', hb] at h'
 cases h'
theorem RNetAt.setCar {n0 : Nat} {w0 w : World} {B g i cap : Nat} {L : List Lt} {x : Lt} (h : RNetAt n0 w0 w B (.slice (some ⟨g, 0, none⟩) L.length cap) L) (hx : L[i]? = some x) (c : Nat) :
  RNetAt n0 w0 (w.setCell ⟨g, i * 3 + 1, none⟩ (.int .i64 (c : Int))) B (.slice (some ⟨g, 0, none⟩) L.length cap) (L.set i { x with car := c }) := by
 obtain ⟨cs, f, hg⟩ := own_tagS h.row g (by simp [ob_some])
 have hi : i < L.length := (List.getElem?_eq_some_iff.1 hx).1
 refine ⟨?_, ?_, fun y hy => ?_, h.ge⟩
 ·exact (setOther _ _ (fun e => by
   have hb := h.box
   have e' : B = g := e
   rw [e', hg] at hb
   cases hb)).trans h.box
 ·rw [← ltC_set c hx, List.length_set]
  exact ownsRow_setCell h.row (by rw [ltC_len]; omega) _
 ·rcases List.mem_or_eq_of_mem_set hy with h1 | rfl
  ·exact h.byt y h1
  ·exact h.byt x (List.mem_of_getElem? hx)
set_option maxRecDepth 100000 in
set_option maxHeartbeats 1600000 in
theorem rcarry_out (n0 : Nat) (w0 w : World) (B : Nat) (sv : Value) (L : List Lt) (i : Int) (h : RNetAt n0 w0 w B sv L) (hi : i < 0 ∨ (L.length : Int) ≤ i) : Calls Tryz.prog 30 #[.pointer (some ⟨B, 0, none⟩), .int .i64 i] w fun e w' => e = .returned (.tuple #[.int .i64 0, .slice none 0 0, .int .i64 6]) ∧ w = w' := by
 have CT := rat_out n0 w0 w B sv L i h hi
 clear h hi
 go_enter Tryz.func30, Tryz.ntmps30
 go_wp2_with fail
 refine CT.mono ?_
 rintro e w1 ⟨rfl, rfl⟩
 go_wp2_with fail
 go_ret3
 exact ⟨rfl, rfl⟩
set_option maxRecDepth 100000 in
set_option maxHeartbeats 1600000 in
theorem rcarry_in (n0 : Nat) (w0 w : World) (B : Nat) (sv : Value) (L : List Lt) (i : Nat) (x : Lt) (hn0 : n0 ≤ w.heap.size) (h : RNetAt n0 w0 w B sv L) (hx : L[i]? = some x) (hl : L.length ≤ 100000) (hcar : x.car < 1000000) :
  Calls Tryz.prog 30 #[.pointer (some ⟨B, 0, none⟩), .int .i64 (i : Int)] w fun e w' => e = .returned (.tuple #[.int .i64 x.to_, x.v, .int .i64 0]) ∧ ∃ sv', RNetAt n0 w0 w' B sv' (L.set i { x with car := x.car + 1 }) ∧ Mods [B] w w' ∧ ∀ k ∈ ob sv', w.heap.size ≤ k := by
 have CT := rat_in n0 w0 w B sv L i x h hx
 have HH := Lib.hid h
 have HX := Lib.hid hx
 have hi : i < L.length := (List.getElem?_eq_some_iff.1 hx).1
 obtain ⟨ax, cx, ex⟩ := rdV h x (List.mem_of_getElem? hx)
 rw [ex] at CT ⊢
 have HEX := Lib.hid ex
 clear h hx ex
 go_enter Tryz.func30, Tryz.ntmps30
 go_wp2_with fail
 refine CT.mono ?_
 rintro e w1 ⟨rfl, hb1⟩
 clear CT
 have h1 := HH.out.below hb1
 have HN := Lib.hid h1
 have HB1 := Lib.hid hb1
 have c0 := h1.cell
 have HRD := Lib.hid (Rd.of_own h1.row)
 have HBL : Hid (B < w1.heap.size) := Lib.hid h1.lt
 have HLL := Lib.hid hl
 have HO1 := Lib.hid (ltC_oneR (rdV h1))
 have z0 : w1.frozen? ⟨B, 0, none⟩ = false := frozenOf h1.box 0
 clear h1 hb1 hl
 go_upto_region 4 with (at_builtin; go_must (refine wpList_apps rfl _ _ 28 rfl w1.heap.size 57 _ 3 40 Tryz.underlying28 infoRL rfl (by decide) (by decide) _ 0 [] rfl (World.ownsRow_nil _ _ _ _) _ L.length (ltC L) rfl HRD.out HO1.out (by have := HLL.out; omega) (Nat.le_refl _) ?_); intro v2 w2 ho2 hb2 hg2 hs2 hn2; simp only [Nat.zero_add, List.nil_append] at ho2; obtain ⟨g, cap, rfl, hge, hgl⟩ := ownsRow_nonil ho2 (fun e => by have := (hn2.1 e).2; omega); have y0 : w2.cell? ⟨B, 0, none⟩ = some sv := (hb2.cell (p := ⟨B, 0, none⟩) HBL.out).trans c0; have z2 : w2.frozen? ⟨B, 0, none⟩ = false := frozenOf ((hb2.block _ HBL.out).trans HN.out.box) 0; have HO2 := Lib.hid ho2; have HB2 := Lib.hid hb2; clear ho2 hb2 hg2 hs2 hn2)
 obtain ⟨w3, hw3⟩ : ∃ W, w2.setCell ⟨B, 0, none⟩ (.slice (some ⟨g, 0, none⟩) L.length cap) = W := ⟨_, rfl⟩
 have HR3 : Hid (RNetAt n0 w0 w3 B (.slice (some ⟨g, 0, none⟩) L.length cap) L) := Lib.hid (by
  rw [← hw3]
  exact RNetAt.fresh ((HB2.out.block _ HBL.out).trans HN.out.box) HO2.out (Nat.le_trans hn0 HB1.out.size) HN.out.ge HN.out.byt)
 have HM3 : Hid (Mods [B, g] w w3) := Lib.hid (by
  rw [← hw3]
  exact (Mods.of_below (bthen HB1.out HB2.out)).setCell (p := ⟨B, 0, none⟩) (by simp) _)
 have HG : Hid (w.heap.size ≤ g) := Lib.hid (by have := HB1.out.size; omega)
 have c3 := HR3.out.cell
 obtain ⟨g', cap', e3, q1, q2, g0, g1, g2⟩ := HR3.out.at_ HX.out
 obtain ⟨e1, _, rfl⟩ := Value.slice.inj e3
 obtain ⟨rfl, _⟩ := Addr.mk.inj (Option.some.inj e1)
 have f1 : w3.frozen? ⟨g, i * 3 + 1, none⟩ = false := by
  obtain ⟨cs, f, hh⟩ := own_tagS HR3.out.row g (by simp [ob_some])
  rcases HR3.out.row.2 with ⟨he, _⟩ | ⟨g', cap', cur, he, _, hh, _⟩
  ·cases he
  ·obtain ⟨e1, _, _⟩ := Value.slice.inj he
   obtain ⟨rfl, _⟩ := Addr.mk.inj (Option.some.inj e1)
   exact frozenOf hh _
 rw [hw3]
 clear e3 e1 hw3 c0 y0 z0 z2 hgl hge
 unfold maxLen at q2
 go_wp2_with fail
 go_ret3
 have HS := HR3.out.setCar HX.out (x.car + 1)
 rw [show ((x.car + 1 : Nat) : Int) = (x.car : Int) + 1 from by omega, HEX.out] at HS
 refine ⟨rfl, _, HS, ?_, fun k hk => ?_⟩
 ·have h4 : Mods [B, g] w (w3.setCell ⟨g, i * 3 + 1, none⟩ (.int .i64 ((x.car : Int) + 1))) := HM3.out.setCell (p := ⟨g, i * 3 + 1, none⟩) (by simp) _
  exact (Mods.refl [B] w).trans h4 (fun k hk => by
   simp only [List.mem_cons, List.not_mem_nil, or_false] at hk ⊢
   rcases hk with h | h
   ·exact .inl h
   ·right; have := HG.out; omega)
 ·rw [ob_some] at hk
  simp only [List.mem_cons, List.not_mem_nil, or_false] at hk
  have := HG.out
  omega
end Go.Proofs.YtgkelbdgdhkeoaaGreat
/- The reference's nets: Put, walked. -/
namespace Go.Proofs.YtgkelbdgdhkeoaaGreat
open Go.RowKit
set_option linter.unusedVariables false
set_option linter.unusedSimpArgs false
open Wire Cmd
/-- What the reference's Put leaves. -/
def RNPutP (n0 : Nat) (w0 w : World) (B : Nat) (L : List Lt) (t : Int) (b : List UInt8) (u : Value) (e : Ending) (w' : World) : Prop :=
 (putOk L t b = false ∧ e = .returned (.int .i64 (-1)) ∧ Below w.heap.size w w') ∨
 (putOk L t b = true ∧ e = .returned (.int .i64 (L.length : Int)) ∧ ∃ sv', RNetAt n0 w0 w' B sv' (L ++ [⟨t, 0, u, b⟩]) ∧ Mods [B] w w' ∧ ∀ k ∈ ob sv', w.heap.size ≤ k)
set_option maxRecDepth 100000 in
set_option maxHeartbeats 1600000 in
theorem rnput_any (n0 : Nat) (w0 w : World) (B : Nat) (sv : Value) (L : List Lt) (t : Int) (b : List UInt8) (u : Value) (hn0 : n0 ≤ w.heap.size) (h : RNetAt n0 w0 w B sv L) (hu : Rd w0 1 u b.length (bV b)) (hbw : Below w0.heap.size w0 w) (hm : b.length ≤ 20000) (hL : L.length ≤ 100000) :
  Calls Tryz.prog 29 #[.pointer (some ⟨B, 0, none⟩), .int .i64 t, u] w (RNPutP n0 w0 w B L t b u) := by
 have HH := Lib.hid h
 have HU := Lib.hid hu
 have CO := rofM_any b u w0 w hu hbw hm
 have HLL := Lib.hid hL
 have HV := Lib.hid (ltC_oneR (rdV h))
 obtain ⟨ao, cap, rfl, _, _, ⟨_, hc1, hc2⟩, _⟩ := Rd.of_own h.row
 obtain ⟨au, cu, rfl, _⟩ := hu
 unfold maxLen at hc2
 have HDA := Lib.hid (oM_data0 b)
 unfold ROMfP at CO
 have HPO : Hid (putOk L t b = (decide (t = 0 ∨ t = 1) && decide (L.length < 100000) && (ofM b).isSome)) := Lib.hid rfl
 generalize oM (ofM b) = mm at *
 generalize (ofM b).isSome = y at *
 clear h hm hbw hL
 by_cases h0 : t < 0
 ·have HF : Hid (putOk L t b = false) := Lib.hid (by rw [HPO.out, decide_eq_false (by omega : ¬ (t = 0 ∨ t = 1))]; rfl)
  have q0 : decide (t < 0) = true := decide_eq_true h0
  clear h0
  go_enter Tryz.func29, Tryz.ntmps29
  go_wp2_with fail
  refine CO.mono ?_
  rintro e w1 ⟨hb1, s1, s2, rfl, ho1, ho2⟩
  obtain ⟨D1, hD1, l1, n1⟩ : ∃ L, msL mm s1 s2 = L ∧ L.length = 290 ∧ ∀ u ∈ L, u.oneCell' = true := ⟨_, rfl, msL_len HDA.out, msL_one (rdOne ho1) (rdOne ho2)⟩
  rw [hD1]
  have hst1 := msNewN w1 l1 n1
  have HB1 : Hid (Below w.heap.size w (w1.alloc (.cells D1.toArray 80))) := Lib.hid (balloc hb1 _)
  clear hD1 n1 hb1 ho1 ho2 CO
  go_upto_region 2 with fail
  clear hst1 l1
  generalize w1.alloc (.cells D1.toArray 80) = wr at *
  have hNr := HH.out.below HB1.out
  have HR := Lib.hid hNr
  have c0 := hNr.cell
  have z0 : wr.frozen? ⟨B, 0, none⟩ = false := frozenOf hNr.box 0
  clear hNr
  go_wp2_with fail
  go_ret
  exact .inl ⟨HF.out, rfl, HB1.out⟩
 have q0 : decide (t < 0) = false := decide_eq_false h0
 by_cases h1 : 1 < t
 ·have HF : Hid (putOk L t b = false) := Lib.hid (by rw [HPO.out, decide_eq_false (by omega : ¬ (t = 0 ∨ t = 1))]; rfl)
  have q1 : decide (1 < t) = true := decide_eq_true h1
  clear h0 h1
  go_enter Tryz.func29, Tryz.ntmps29
  go_wp2_with fail
  refine CO.mono ?_
  rintro e w1 ⟨hb1, s1, s2, rfl, ho1, ho2⟩
  obtain ⟨D1, hD1, l1, n1⟩ : ∃ L, msL mm s1 s2 = L ∧ L.length = 290 ∧ ∀ u ∈ L, u.oneCell' = true := ⟨_, rfl, msL_len HDA.out, msL_one (rdOne ho1) (rdOne ho2)⟩
  rw [hD1]
  have hst1 := msNewN w1 l1 n1
  have HB1 : Hid (Below w.heap.size w (w1.alloc (.cells D1.toArray 80))) := Lib.hid (balloc hb1 _)
  clear hD1 n1 hb1 ho1 ho2 CO
  go_upto_region 2 with fail
  clear hst1 l1
  generalize w1.alloc (.cells D1.toArray 80) = wr at *
  have hNr := HH.out.below HB1.out
  have HR := Lib.hid hNr
  have c0 := hNr.cell
  have z0 : wr.frozen? ⟨B, 0, none⟩ = false := frozenOf hNr.box 0
  clear hNr
  go_wp2_with fail
  go_ret
  exact .inl ⟨HF.out, rfl, HB1.out⟩
 have q1 : decide (1 < t) = false := decide_eq_false h1
 have HT : Hid (t = 0 ∨ t = 1) := Lib.hid (by omega)
 clear h0 h1
 cases y with
 | false =>
  have HF : Hid (putOk L t b = false) := Lib.hid (by rw [HPO.out, Bool.and_false])
  go_enter Tryz.func29, Tryz.ntmps29
  go_wp2_with fail
  refine CO.mono ?_
  rintro e w1 ⟨hb1, s1, s2, rfl, ho1, ho2⟩
  obtain ⟨D1, hD1, l1, n1⟩ : ∃ L, msL mm s1 s2 = L ∧ L.length = 290 ∧ ∀ u ∈ L, u.oneCell' = true := ⟨_, rfl, msL_len HDA.out, msL_one (rdOne ho1) (rdOne ho2)⟩
  rw [hD1]
  have hst1 := msNewN w1 l1 n1
  have HB1 : Hid (Below w.heap.size w (w1.alloc (.cells D1.toArray 80))) := Lib.hid (balloc hb1 _)
  clear hD1 n1 hb1 ho1 ho2 CO
  go_upto_region 2 with fail
  clear hst1 l1
  generalize w1.alloc (.cells D1.toArray 80) = wr at *
  have hNr := HH.out.below HB1.out
  have HR := Lib.hid hNr
  have c0 := hNr.cell
  have z0 : wr.frozen? ⟨B, 0, none⟩ = false := frozenOf hNr.box 0
  clear hNr
  go_wp2_with fail
  go_ret
  exact .inl ⟨HF.out, rfl, HB1.out⟩
 | true =>
  by_cases hf : (100000 : Int) ≤ (L.length : Int)
  ·have HF : Hid (putOk L t b = false) := Lib.hid (by rw [HPO.out, decide_eq_false (by omega : ¬ L.length < 100000), Bool.and_false]; rfl)
   have q2 : decide ((100000 : Int) ≤ (L.length : Int)) = true := decide_eq_true hf
   clear hf
   go_enter Tryz.func29, Tryz.ntmps29
   go_wp2_with fail
   refine CO.mono ?_
   rintro e w1 ⟨hb1, s1, s2, rfl, ho1, ho2⟩
   obtain ⟨D1, hD1, l1, n1⟩ : ∃ L, msL mm s1 s2 = L ∧ L.length = 290 ∧ ∀ u ∈ L, u.oneCell' = true := ⟨_, rfl, msL_len HDA.out, msL_one (rdOne ho1) (rdOne ho2)⟩
   rw [hD1]
   have hst1 := msNewN w1 l1 n1
   have HB1 : Hid (Below w.heap.size w (w1.alloc (.cells D1.toArray 80))) := Lib.hid (balloc hb1 _)
   clear hD1 n1 hb1 ho1 ho2 CO
   go_upto_region 2 with fail
   clear hst1 l1
   generalize w1.alloc (.cells D1.toArray 80) = wr at *
   have hNr := HH.out.below HB1.out
   have HR := Lib.hid hNr
   have c0 := hNr.cell
   have z0 : wr.frozen? ⟨B, 0, none⟩ = false := frozenOf hNr.box 0
   clear hNr
   go_wp2_with fail
   go_ret
   exact .inl ⟨HF.out, rfl, HB1.out⟩
  have q2 : decide ((100000 : Int) ≤ (L.length : Int)) = false := decide_eq_false hf
  have HLT : Hid (L.length < 100000) := Lib.hid (by omega)
  have HY : Hid (putOk L t b = true) := Lib.hid (by rw [HPO.out, decide_eq_true HT.out, decide_eq_true HLT.out]; rfl)
  clear hf
  go_enter Tryz.func29, Tryz.ntmps29
  go_wp2_with fail
  refine CO.mono ?_
  rintro e w1 ⟨hb1, s1, s2, rfl, ho1, ho2⟩
  obtain ⟨D1, hD1, l1, n1⟩ : ∃ L, msL mm s1 s2 = L ∧ L.length = 290 ∧ ∀ u ∈ L, u.oneCell' = true := ⟨_, rfl, msL_len HDA.out, msL_one (rdOne ho1) (rdOne ho2)⟩
  rw [hD1]
  have hst1 := msNewN w1 l1 n1
  have HB1 : Hid (Below w.heap.size w (w1.alloc (.cells D1.toArray 80))) := Lib.hid (balloc hb1 _)
  clear hD1 n1 hb1 ho1 ho2 CO
  go_upto_region 2 with fail
  clear hst1 l1
  generalize w1.alloc (.cells D1.toArray 80) = wr at *
  have hNr := HH.out.below HB1.out
  have HR := Lib.hid hNr
  have c0 := hNr.cell
  have z0 : wr.frozen? ⟨B, 0, none⟩ = false := frozenOf hNr.box 0
  clear hNr
  have HRD := Lib.hid (Rd.of_own HR.out.row)
  have HBL : Hid (B < wr.heap.size) := Lib.hid HR.out.lt
  go_wp2_with (at_builtin; go_must (refine wpList_apps rfl _ _ 28 rfl wr.heap.size 57 _ 3 40 Tryz.underlying28 infoRL rfl (by decide) (by decide) (.slice none 0 0) 0 [] rfl (World.ownsRow_nil _ _ _ _) _ L.length (ltC L) rfl HRD.out HV.out (by have := HLT.out; omega) (Nat.le_refl _) ?_); intro v2 w2 ho2 hb2 hg2 hs2 hn2; simp only [Nat.zero_add, List.nil_append] at ho2; have HO2 := Lib.hid ho2; have HB2 := Lib.hid hb2; clear ho2 hb2 hg2 hs2 hn2; refine Hid.out ?_)
  refine Lib.hid ?_
  go_wp2_with (at_builtin; go_must (refine wpList_app rfl _ _ 28 rfl wr.heap.size 57 _ 3 40 Tryz.underlying28 infoRL rfl (by decide) (by decide) v2 L.length (ltC L) rfl HO2.out rfl rfl (by simp [Value.oneCell']) (by have := HLT.out; omega) HB2.out.size ?_); intro v3 w3 ho3 hb3 hg3 hs3 hn3; obtain ⟨g, cg, rfl, hge, hgl⟩ := ownsRow_nonil ho3 hn3; have hx3 : w3.heap[B]? = some (.cells #[.slice ao L.length cap] 30 (0, 0)) := (hb3.block _ HBL.out).trans ((HB2.out.block _ HBL.out).trans HR.out.box); have y0 := cellOf hx3 0 rfl; have z3 := frozenOf hx3 0; have HO3 := Lib.hid ho3; have HB3 := Lib.hid (HB2.out.trans hb3); have HX3 := Lib.hid hx3; clear ho3 hb3 hg3 hs3 hn3 hx3)
  go_ret
  have HF := RNetAt.fresh (L := L ++ [⟨t, 0, .slice au b.length cu, b⟩]) (sv' := .slice (some ⟨g, 0, none⟩) (L.length + 1) cg) HX3.out (by rw [ltC_app, List.length_append]; exact HO3.out) (Nat.le_trans hn0 HB1.out.size) HR.out.ge (fun x hx => by
   rcases List.mem_append.1 hx with h1 | h1
   ·exact HR.out.byt x h1
   ·obtain rfl : x = ⟨t, 0, .slice au b.length cu, b⟩ := by simpa using h1
    exact HU.out)
  refine .inr ⟨HY.out, rfl, _, HF, (Mods.of_below (bthen HB1.out HB3.out)).setCell (p := ⟨B, 0, none⟩) (by simp) _, fun k hk => ?_⟩
  rw [ob_some] at hk
  simp only [List.mem_cons, List.not_mem_nil, or_false] at hk
  have := HB1.out.size
  omega
end Go.Proofs.YtgkelbdgdhkeoaaGreat
/- The reference's nets: Waits, Much, walked. -/
namespace Go.Proofs.YtgkelbdgdhkeoaaGreat
open Go.RowKit
set_option linter.unusedVariables false
set_option linter.unusedSimpArgs false
set_option maxRecDepth 100000 in
set_option maxHeartbeats 1600000 in
theorem rwaits_any (n0 : Nat) (w0 w : World) (B : Nat) (sv : Value) (L : List Lt) (h : RNetAt n0 w0 w B sv L) (hL : L.length ≤ 100000) :
  Calls Tryz.prog 17 #[.pointer (some ⟨B, 0, none⟩)] w fun e w' => ∃ v', e = .returned v' ∧ w'.ownsRow w.heap.size 3 1 v' (waitsL L).length (iV (waitsL L)) ∧ Below w.heap.size w w' := by
 obtain ⟨n, hn⟩ : ∃ n, L.length = n := ⟨_, rfl⟩
 have HN := Lib.hid hn
 have HW : Hid (waitsL L = waitsK L n) := Lib.hid (by rw [← hn]; rfl)
 have HH : Hid (∀ W, Below w.heap.size w W → RNetAt n0 w0 W B sv L) := Lib.hid (fun W hW => h.below hW)
 obtain ⟨ao, cap, rfl, _, _, ⟨_, hc1, hc2⟩, _⟩ := Rd.of_own h.row
 rw [hn] at hL hc1 HH
 rw [HW.out]
 unfold maxLen at hc2
 clear h hn
 go_enter Tryz.func17, Tryz.ntmps17
 go_wp2_with fail
 go_loopw [3, 4] (fun o i wr => ∃ (k : Nat) (v' : Value), k ≤ n ∧ i = .int .i64 (k : Int) ∧ v' = o ∧ wr.ownsRow w.heap.size 3 1 v' (waitsK L k).length (iV (waitsK L k)) ∧ Below w.heap.size w wr) (fun _ i _ => n - (intOf i).toNat)
 case atStart => exact ⟨0, _, by omega, rfl, rfl, World.ownsRow_nil _ _ _ _, Below.refl _ _⟩
 case round =>
  obtain ⟨k, v', hk, rfl, rfl, ho, hbr⟩ := hrel
  have c0 := (HH.out _ hbr).cell
  have HO := Lib.hid ho
  have HBR := Lib.hid hbr
  by_cases hlt : k < n
  ·obtain ⟨x, hx⟩ : ∃ x, L[k]? = some x := ⟨_, List.getElem?_eq_getElem (by rw [HN.out]; exact hlt)⟩
   have HX := Lib.hid hx
   obtain ⟨g, cap', e0, _, _, g0, g1, g2⟩ := (HH.out _ hbr).at_ hx
   obtain ⟨e1, _, _⟩ := Value.slice.inj e0
   have HLE : Hid ((waitsK L k).length ≤ k) := Lib.hid (waitsK_le L k)
   obtain ⟨c, hc⟩ : ∃ c, x.car = c := ⟨_, rfl⟩
   rw [hc] at g1
   have HC := Lib.hid hc
   subst e1
   clear hbr hx e0 ho g0 g2 hc
   rcases Nat.eq_zero_or_pos c with rfl | hpos
   ·have HS := Lib.hid (waitsK_yes HX.out HC.out)
    go_wp2_with (at_builtin; go_must (refine wpList_app rfl _ _ 51 rfl w.heap.size 3 _ 1 8 Tryz.underlying51 infoIntN rfl (by decide) (by decide) v' (waitsK L k).length (iV (waitsK L k)) rfl HO.out rfl rfl (by simp [Value.oneCell']) (by have := HLE.out; omega) HBR.out.size ?_); intro v3 w3 ho3 hb3 hg3 hs3 hn3; have HO3 := Lib.hid ho3; have HB3 := Lib.hid hb3; clear ho3 hb3 hg3 hs3 hn3)
    go_roundw
    case rel =>
     refine ⟨k + 1, v3, by omega, by go_num, rfl, ?_, HBR.out.trans HB3.out⟩
     rw [HS.out, List.length_append]
     have := HO3.out
     rw [show iV (waitsK L k ++ [k]) = iV (waitsK L k) ++ [.int .i64 (k : Int)] from by simp [iV]]
     exact this
    case measure => simp [intOf]; omega
   ·have q0 : decide ((c : Int) = 0) = false := decide_eq_false (by omega)
    have HS := Lib.hid (waitsK_no HX.out (by rw [HC.out]; omega))
    go_wp2_with fail
    go_roundw
    case rel => exact ⟨k + 1, v', by omega, by go_num, rfl, by rw [HS.out]; exact HO.out, HBR.out⟩
    case measure => simp [intOf]; omega
  ·obtain rfl : k = n := by omega
   clear hbr ho
   go_wp2_with fail
   go_ret
   exact ⟨_, rfl, HO.out, HBR.out⟩
end Go.Proofs.YtgkelbdgdhkeoaaGreat
