/- Several texts in one: Cmd4 Cmd5 CmdR4 CmdR5 CmdR6 CmdR8 BuildN CmdR7 Ans0 Ans1 Ans2 Ans3 Ans4 Read0. -/
import Derived.Test.YtgkelbdgdhkeoaaGreatPCA
import Derived.Test.YtgkelbdgdhkeoaaGreatPWB
import Derived.Test.YtgkelbdgdhkeoaaGreatPCmdR3
import Derived.Test.YtgkelbdgdhkeoaaGreatPWC
namespace Go.Proofs.YtgkelbdgdhkeoaaGreat
open Go.RowKit
set_option linter.unusedVariables false
set_option linter.unusedSimpArgs false
open Wire Cmd
/-- Values in a row that is new, their bytes in the world w. -/
def RowA (B : Nat) (w W : World) (v : Value) (l : List V) : Prop :=
 ∃ xs, W.ownsRow B 20 1 v l.length xs ∧ ∀ (j : Nat) (x : V), l[j]? = some x → ∃ u, xs[j]? = some u ∧ AnyV w u x
theorem RowA.below {B : Nat} {w W W' : World} {v : Value} {l : List V} (h : RowA B w W v l) (hb : Below W.heap.size W W') : RowA B w W' v l := by
 obtain ⟨xs, ho, hx⟩ := h
 exact ⟨xs, ownsRow_below ho hb, hx⟩
theorem RowA.at {B : Nat} {w W W' : World} {v : Value} {l : List V} (h : RowA B w W v l) (hs : ∀ k ∈ ob v, W'.heap[k]? = W.heap[k]?) : RowA B w W' v l := by
 obtain ⟨xs, ho, hx⟩ := h
 exact ⟨xs, ownsRow_at ho hs, hx⟩
theorem RowA.snoc {B : Nat} {w W' : World} {v' u : Value} {l : List V} {x : V} {xs : List Value} (hx : ∀ (j : Nat) (x : V), l[j]? = some x → ∃ u, xs[j]? = some u ∧ AnyV w u x) (hn : xs.length = l.length)
  (ho : W'.ownsRow B 20 1 v' (l.length + 1) (xs ++ [u])) (hu : AnyV w u x) : RowA B w W' v' (l ++ [x]) := by
 refine ⟨xs ++ [u], by rw [List.length_append]; exact ho, fun j y hj => ?_⟩
 rcases Nat.lt_trichotomy j l.length with h | h | h
 ·rw [List.getElem?_append_left h] at hj
  obtain ⟨z, h1, h2⟩ := hx j y hj
  exact ⟨z, by rw [List.getElem?_append_left (by omega)]; exact h1, h2⟩
 ·subst h
  have hy : x = y := by simpa using hj
  subst hy
  exact ⟨u, by rw [← hn]; simp, hu⟩
 ·rw [List.getElem?_eq_none (by simp; omega)] at hj; cases hj
theorem u64_wrap (n : Int) : IntKind.u64.wrap n = ((toU n : Nat) : Int) := by
 rw [IntKind.wrap_u64]; unfold toU; omega
theorem u64_lt (n : Int) : toU n < 18446744073709551616 := by unfold toU; omega
theorem strB_snoc (l : List UInt8) (c : UInt8) : strB (l ++ [c]) = strB l ++ ⟨#[c]⟩ := by simp [strB, ByteArray.ext_iff]
theorem any_num (w : World) (n : Nat) (h : n < 18446744073709551616) : AnyV w (.iface 41 (.int .u64 (n : Int))) (num n) := .inl ⟨rfl, rfl, h⟩
theorem any_blob (w : World) (sl : Value) (l : List UInt8) (h : Rd w 1 sl l.length (bV l)) : AnyV w (.iface 34 sl) (blob l) := .inr (.inr (.inl ⟨rfl, sl, rfl, h⟩))
/-- What a round of shape knows of memory. -/
structure ShM (B K : Nat) (w : World) (o : Op0) (sl v : Value) (l : List V) (pos : Nat) (W : World) : Prop where
 it : W.heap[K]? = some (.stringIter (strB (nm o.k)) pos)
 bx : W.heap[B]? = some (.cells (oC o sl) 70 (0, 0))
 row : RowA (B + 1) w W v l
 ap : ∀ j ∈ ob v, j ≠ K
 below : Below B w W
 kb : B + 1 < K
theorem ShM.next {B K : Nat} {w : World} {o : Op0} {sl v : Value} {l : List V} {pos p' : Nat} {W : World} (h : ShM B K w o sl v l pos W) : ShM B K w o sl v l p' (W.iterAt K (strB (nm o.k)) p') :=
 ⟨Lib.iterAt_heap W K _ pos p' h.it, (Lib.iterAt_other _ _ _ _ _ (by have := h.kb; omega)).trans h.bx, h.row.at (fun k hk => Lib.iterAt_other _ _ _ _ _ (h.ap k hk)), h.ap, Lib.below_iterAt h.below (by have := h.kb; omega) _ _, h.kb⟩
theorem ShM.grown {B K : Nat} {w : World} {o : Op0} {sl v v' u : Value} {l : List V} {x : V} {xs : List Value} {pos : Nat} {W W' : World} (h : ShM B K w o sl v l pos W)
  (hx : ∀ (j : Nat) (x : V), l[j]? = some x → ∃ u, xs[j]? = some u ∧ AnyV w u x) (hn : xs.length = l.length) (ho1 : W.ownsRow (B + 1) 20 1 v l.length xs)
  (ho : W'.ownsRow (B + 1) 20 1 v' (l.length + 1) (xs ++ [u])) (hu : AnyV w u x) (hb : Below (B + 1) W W') (hg : W.grownBy W' v.ownBlock) (hs : SameOrNew W v v') : ShM B K w o sl v' (l ++ [x]) pos W' := by
 have hk := (Array.getElem?_eq_some_iff.1 h.it).1
 have hkb := h.kb
 refine ⟨(hg.block K hk (fun e => h.ap K (by unfold ob; rw [Option.mem_toList]; exact e.symm) rfl)).trans h.it, (hb.block B (by omega)).trans h.bx, RowA.snoc hx hn ho hu, fun j hj => ?_, h.below.trans (hb.mono (by omega)), hkb⟩
 rcases (Chg.of_grown hg hs).2 j hj with h1 | h1
 ·exact h.ap j h1
 ·omega
set_option maxRecDepth 100000 in
set_option maxHeartbeats 6400000 in
theorem shape_any (o : Op0) (ok : o.Ok) (sl : Value) (w : World) (hd : Rd w 1 sl o.data.length (bV o.data)) :
  Calls Tryz.prog 86 #[.agg (oC o sl)] w fun e w' => ∃ v', e = .returned (.tuple #[.string (strB (shS (nm o.k))), v']) ∧ Below w.heap.size w w' ∧ RowA w.heap.size w w' v' (vals o (nm o.k)) := by
 have HD := Lib.hid hd
 have HOK := Lib.hid ok
 have hk1 := ok.k.1
 have hk2 := ok.k.2
 have HQ1 := Lib.hid ok.vol
 have HQ2 := Lib.hid ok.to
 obtain ⟨B, hB⟩ : ∃ B, w.heap.size = B := ⟨_, rfl⟩
 clear ok
 obtain ⟨ao, cap, rfl, _⟩ := hd
 have hoC : oC o (.slice ao o.data.length cap) = #[.int .i64 o.k, .int .u64 (o.vol : Int), .int .u64 (o.to : Int), .int .i64 o.size, .int .i64 o.pl, .int .i64 o.count, .slice ao o.data.length cap] := rfl
 have HOC := Lib.hid hoC
 rw [hoC]
 clear hoC
 have HBS : Hid (Below w.heap.size w ((w.alloc (.cells #[.int .i64 o.k, .int .u64 (o.vol : Int), .int .u64 (o.to : Int), .int .i64 o.size, .int .i64 o.pl, .int .i64 o.count, .slice ao o.data.length cap] 70)).alloc (.cells #[] 20))) := Lib.hid (balloc (balloc (Below.refl _ _) _) _)
 have HB0 : Hid (((w.alloc (.cells #[.int .i64 o.k, .int .u64 (o.vol : Int), .int .u64 (o.to : Int), .int .i64 o.size, .int .i64 o.pl, .int .i64 o.count, .slice ao o.data.length cap] 70)).alloc (.cells #[] 20)).heap[B]? = some (.cells (oC o (.slice ao o.data.length cap)) 70 (0, 0)) ∧
   ((w.alloc (.cells #[.int .i64 o.k, .int .u64 (o.vol : Int), .int .u64 (o.to : Int), .int .i64 o.size, .int .i64 o.pl, .int .i64 o.count, .slice ao o.data.length cap] 70)).alloc (.cells #[] 20)).ownsRow (B + 1) 20 1 (.slice (some ⟨B + 1, 0, none⟩) 0 0) 0 []) := Lib.hid (by
  subst hB
  refine ⟨?_, ?_⟩
  ·rw [Below.heap_alloc _ _ _ (by simp)]; exact heap_alloc_new w _
  ·have := World.ownsRow_made (base := w.heap.size + 1) (e := 20) (size := 1) (w.alloc (.cells #[.int .i64 o.k, .int .u64 (o.vol : Int), .int .u64 (o.to : Int), .int .i64 o.size, .int .i64 o.pl, .int .i64 o.count, .slice ao o.data.length cap] 70)) #[] 0 (by simp) (by decide) rfl
   rw [World.size_alloc] at this
   exact this)
 go_enter Tryz.func86, Tryz.ntmps86
 go_wp2_with fail
 refine (names_any _ _).mono ?_
 rintro e w1 ⟨rfl, hb1⟩
 obtain ⟨K, hK⟩ : ∃ K, w1.heap.size = K := ⟨_, rfl⟩
 have HI : Hid (ShM B K w o (.slice ao o.data.length cap) (.slice (some ⟨B + 1, 0, none⟩) 0 0) [] 0 (w1.iter (strB (nm o.k)) 0)) := Lib.hid (by
  have hs1 := hb1.size
  rw [World.size_alloc, World.size_alloc, hB] at hs1
  have hbi : Below w1.heap.size w1 (w1.iter (strB (nm o.k)) 0) := balloc (Below.refl _ _) _
  refine ⟨hK ▸ World.iter_heap w1 _ 0, ?_, ⟨[], ?_, fun j x hj => by simp at hj⟩, ?_, ?_, by omega⟩
  ·exact (hbi.block B (by omega)).trans ((hb1.block B (by rw [World.size_alloc, World.size_alloc, hB]; omega)).trans HB0.out.1)
  ·exact ownsRow_below (ownsRow_below HB0.out.2 hb1) hbi
  ·intro j hj; rw [ob_some] at hj; simp at hj; omega
  ·have := bthen (bthen HBS.out hb1) hbi
   rwa [hB] at this)
 clear hb1
 go_wp2_with fail
 generalize w1.iter (strB (nm o.k)) 0 = w2 at HI ⊢
 have HB := Lib.hid hB
 clear hB hK
 have hsz3 : (strB (nm o.k)).size ≤ 3 := by rw [str_size]; exact nm_len _
 have HL := Lib.hid (nm_low o.k)
 have HCS := Lib.hid (chs_str (nm o.k))
 have HSS := Lib.hid (str_size (nm o.k))
 generalize hs : strB (nm o.k) = s at *
 have HS := Lib.hid hs
 clear hs
 go_loopg [4, 5] s.size (fun g a l wr => ∃ (pos : Nat) (v' : Value), pos ≤ s.size ∧ g = s.size - pos ∧ a = .string (strB (shS ((nm o.k).take pos))) ∧ v' = l ∧ ShM B K w o (.slice ao o.data.length cap) v' (vals o ((nm o.k).take pos)) pos wr)
 case atStart => exact ⟨0, _, by omega, by omega, rfl, rfl, HI.out⟩
 case round =>
  obtain ⟨pos, v', hp, hg, rfl, rfl, hm⟩ := hrel
  have HG := Lib.hid hg
  have HM := Lib.hid hm
  have hit : wr.heap[K]? = some (.stringIter s pos) := by rw [← HS.out]; exact hm.it
  clear hg hm
  by_cases hlt : pos < s.size
  ·obtain ⟨c, hc⟩ : ∃ c, (s[pos]'hlt) = c := ⟨_, rfl⟩
   have hget : (nm o.k)[pos]? = some c := by
    have h1 := chs_get hlt
    rw [HCS.out, hc] at h1; exact h1
   have hlow : c.toNat < 128 := HL.out c (List.mem_of_getElem? hget)
   have hdec : Utf8.decode s pos = (c.toNat, 1) := by rw [← hc]; exact decode_ascii s pos hlt (by rw [hc]; exact hlow)
   have hnx := fun ty => Lib.run_next_any_at (P := Tryz.prog) wr K s pos ty hit hlt
   simp only [hdec] at hnx
   have HM2 : Hid (ShM B K w o (.slice ao o.data.length cap) v' (vals o ((nm o.k).take pos)) (pos + 1) (wr.iterAt K s (pos + 1))) := Lib.hid (by rw [← HS.out]; exact HM.out.next)
   obtain ⟨wr2, hwr2⟩ : ∃ W, wr.iterAt K s (pos + 1) = W := ⟨_, rfl⟩
   rw [hwr2] at hnx HM2
   have hbx2 := HM2.out.bx
   have c0 : wr2.cell? ⟨B, 0, none⟩ = some (.int .i64 o.k) := cellIs hbx2 rfl
   have c1 : wr2.cell? ⟨B, 1, none⟩ = some (.int .u64 (o.vol : Int)) := cellIs hbx2 rfl
   have c2 : wr2.cell? ⟨B, 2, none⟩ = some (.int .u64 (o.to : Int)) := cellIs hbx2 rfl
   have c3 : wr2.cell? ⟨B, 3, none⟩ = some (.int .i64 o.size) := cellIs hbx2 rfl
   have c4 : wr2.cell? ⟨B, 4, none⟩ = some (.int .i64 o.pl) := cellIs hbx2 rfl
   have c5 : wr2.cell? ⟨B, 5, none⟩ = some (.int .i64 o.count) := cellIs hbx2 rfl
   have c6 : wr2.cell? ⟨B, 6, none⟩ = some (.slice ao o.data.length cap) := cellIs hbx2 rfl
   have HGET := Lib.hid hget
   clear hwr2 hbx2 hit hdec hc
   by_cases h118 : (c.toNat : Int) = 118
   ·have g118 : ((c.toNat : Int) == 118) = true := beqI h118
    have hva : vaL (c.toNat : Int) o = num o.vol := by unfold vaL; simp [h118]
    have hsa : shL (c.toNat : Int) = 52 := by unfold shL; simp [h118]
    have hua := any_num w o.vol HQ1.out
    have hwz := u64_wrap o.size
    have hwp := u64_wrap o.pl
    have hwc := u64_wrap o.count
    have HU := Lib.hid hua
    obtain ⟨xs, ho, hx⟩ := HM2.out.row
    have hn1 : xs.length = (vals o ((nm o.k).take pos)).length := by have := ho.1; omega
    have HX := Lib.hid (And.intro hx (And.intro hn1 ho))
    have hbs2 : B + 1 ≤ wr2.heap.size := by have h1 := (Array.getElem?_eq_some_iff.1 HM2.out.it).1; have := HM2.out.kb; omega
    have hvl : ((vals o ((nm o.k).take pos)).length + 1) * 16 ≤ 140737488355328 := by
     have : (vals o ((nm o.k).take pos)).length ≤ 3 := by unfold vals; rw [List.length_map, List.length_take]; have := HSS.out; omega
     omega
    have HVS : Hid (vals o ((nm o.k).take (pos + 1)) = vals o ((nm o.k).take pos) ++ [vaL (c.toNat : Int) o]) := Lib.hid (by rw [List.take_add_one, HGET.out]; exact vals_snoc _ _ _)
    have HSH : Hid (strB (shS ((nm o.k).take (pos + 1))) = strB (shS ((nm o.k).take pos)) ++ ⟨#[shL (c.toNat : Int)]⟩) := Lib.hid (by rw [List.take_add_one, HGET.out, ← strB_snoc]; exact congrArg strB (shS_snoc _ _))
    rw [hva] at HVS
    rw [hsa] at HSH
    have hssz : (strB (shS ((nm o.k).take pos))).size ≤ 3 := by rw [str_size]; unfold shS; rw [List.length_map, List.length_take]; have := HSS.out; omega
    clear hx hn1 hget hua hva hsa
    generalize strB (shS ((nm o.k).take pos)) = sa at *
    generalize vals o ((nm o.k).take pos) = vs at *
    go_wp2_with (at_builtin; go_must (refine wpList_app rfl _ _ 90 rfl (B + 1) 20 _ 1 16 Tryz.underlying90 infoAny rfl (by decide) (by decide) v' vs.length xs rfl ho rfl rfl (by simp [Value.oneCell']) hvl hbs2 ?_); intro v5 w5 ho5 hb5 hg5 hs5 hn5)
    have HM5 := Lib.hid (HM2.out.grown HX.out.1 HX.out.2.1 HX.out.2.2 ho5 HU.out hb5 hg5 hs5)
    clear ho5 hb5 hg5 hs5 hn5 ho
    go_wp2_with fail
    go_roundg (s.size - (pos + 1))
    case rel => exact ⟨pos + 1, v5, by omega, rfl, by rw [HSH.out], rfl, by rw [HVS.out]; exact HM5.out⟩
    case measure => have := HG.out; omega
   by_cases h116 : (c.toNat : Int) = 116
   ·have g116 : ((c.toNat : Int) == 116) = true := beqI h116
    have g118 : ((c.toNat : Int) == 118) = false := bneI h118
    have hva : vaL (c.toNat : Int) o = num o.to := by unfold vaL; simp [h116]
    have hsa : shL (c.toNat : Int) = 52 := by unfold shL; simp [h116]
    have hua := any_num w o.to HQ2.out
    have hwz := u64_wrap o.size
    have hwp := u64_wrap o.pl
    have hwc := u64_wrap o.count
    have HU := Lib.hid hua
    obtain ⟨xs, ho, hx⟩ := HM2.out.row
    have hn1 : xs.length = (vals o ((nm o.k).take pos)).length := by have := ho.1; omega
    have HX := Lib.hid (And.intro hx (And.intro hn1 ho))
    have hbs2 : B + 1 ≤ wr2.heap.size := by have h1 := (Array.getElem?_eq_some_iff.1 HM2.out.it).1; have := HM2.out.kb; omega
    have hvl : ((vals o ((nm o.k).take pos)).length + 1) * 16 ≤ 140737488355328 := by
     have : (vals o ((nm o.k).take pos)).length ≤ 3 := by unfold vals; rw [List.length_map, List.length_take]; have := HSS.out; omega
     omega
    have HVS : Hid (vals o ((nm o.k).take (pos + 1)) = vals o ((nm o.k).take pos) ++ [vaL (c.toNat : Int) o]) := Lib.hid (by rw [List.take_add_one, HGET.out]; exact vals_snoc _ _ _)
    have HSH : Hid (strB (shS ((nm o.k).take (pos + 1))) = strB (shS ((nm o.k).take pos)) ++ ⟨#[shL (c.toNat : Int)]⟩) := Lib.hid (by rw [List.take_add_one, HGET.out, ← strB_snoc]; exact congrArg strB (shS_snoc _ _))
    rw [hva] at HVS
    rw [hsa] at HSH
    have hssz : (strB (shS ((nm o.k).take pos))).size ≤ 3 := by rw [str_size]; unfold shS; rw [List.length_map, List.length_take]; have := HSS.out; omega
    clear hx hn1 hget hua hva hsa
    generalize strB (shS ((nm o.k).take pos)) = sa at *
    generalize vals o ((nm o.k).take pos) = vs at *
    go_wp2_with (at_builtin; go_must (refine wpList_app rfl _ _ 90 rfl (B + 1) 20 _ 1 16 Tryz.underlying90 infoAny rfl (by decide) (by decide) v' vs.length xs rfl ho rfl rfl (by simp [Value.oneCell']) hvl hbs2 ?_); intro v5 w5 ho5 hb5 hg5 hs5 hn5)
    have HM5 := Lib.hid (HM2.out.grown HX.out.1 HX.out.2.1 HX.out.2.2 ho5 HU.out hb5 hg5 hs5)
    clear ho5 hb5 hg5 hs5 hn5 ho
    go_wp2_with fail
    go_roundg (s.size - (pos + 1))
    case rel => exact ⟨pos + 1, v5, by omega, rfl, by rw [HSH.out], rfl, by rw [HVS.out]; exact HM5.out⟩
    case measure => have := HG.out; omega
   by_cases h115 : (c.toNat : Int) = 115
   ·have g115 : ((c.toNat : Int) == 115) = true := beqI h115
    have g118 : ((c.toNat : Int) == 118) = false := bneI h118
    have g116 : ((c.toNat : Int) == 116) = false := bneI h116
    have hva : vaL (c.toNat : Int) o = num (toU o.size) := by unfold vaL; simp [h115]
    have hsa : shL (c.toNat : Int) = 52 := by unfold shL; simp [h115]
    have hua := any_num w _ (u64_lt o.size)
    have hwz := u64_wrap o.size
    have hwp := u64_wrap o.pl
    have hwc := u64_wrap o.count
    have HU := Lib.hid hua
    obtain ⟨xs, ho, hx⟩ := HM2.out.row
    have hn1 : xs.length = (vals o ((nm o.k).take pos)).length := by have := ho.1; omega
    have HX := Lib.hid (And.intro hx (And.intro hn1 ho))
    have hbs2 : B + 1 ≤ wr2.heap.size := by have h1 := (Array.getElem?_eq_some_iff.1 HM2.out.it).1; have := HM2.out.kb; omega
    have hvl : ((vals o ((nm o.k).take pos)).length + 1) * 16 ≤ 140737488355328 := by
     have : (vals o ((nm o.k).take pos)).length ≤ 3 := by unfold vals; rw [List.length_map, List.length_take]; have := HSS.out; omega
     omega
    have HVS : Hid (vals o ((nm o.k).take (pos + 1)) = vals o ((nm o.k).take pos) ++ [vaL (c.toNat : Int) o]) := Lib.hid (by rw [List.take_add_one, HGET.out]; exact vals_snoc _ _ _)
    have HSH : Hid (strB (shS ((nm o.k).take (pos + 1))) = strB (shS ((nm o.k).take pos)) ++ ⟨#[shL (c.toNat : Int)]⟩) := Lib.hid (by rw [List.take_add_one, HGET.out, ← strB_snoc]; exact congrArg strB (shS_snoc _ _))
    rw [hva] at HVS
    rw [hsa] at HSH
    have hssz : (strB (shS ((nm o.k).take pos))).size ≤ 3 := by rw [str_size]; unfold shS; rw [List.length_map, List.length_take]; have := HSS.out; omega
    clear hx hn1 hget hua hva hsa
    generalize strB (shS ((nm o.k).take pos)) = sa at *
    generalize vals o ((nm o.k).take pos) = vs at *
    go_wp2_with (at_builtin; go_must (refine wpList_app rfl _ _ 90 rfl (B + 1) 20 _ 1 16 Tryz.underlying90 infoAny rfl (by decide) (by decide) v' vs.length xs rfl ho rfl rfl (by simp [Value.oneCell']) hvl hbs2 ?_); intro v5 w5 ho5 hb5 hg5 hs5 hn5)
    have HM5 := Lib.hid (HM2.out.grown HX.out.1 HX.out.2.1 HX.out.2.2 ho5 HU.out hb5 hg5 hs5)
    clear ho5 hb5 hg5 hs5 hn5 ho
    go_wp2_with fail
    go_roundg (s.size - (pos + 1))
    case rel => exact ⟨pos + 1, v5, by omega, rfl, by rw [HSH.out], rfl, by rw [HVS.out]; exact HM5.out⟩
    case measure => have := HG.out; omega
   by_cases h97 : (c.toNat : Int) = 97
   ·have g97 : ((c.toNat : Int) == 97) = true := beqI h97
    have g118 : ((c.toNat : Int) == 118) = false := bneI h118
    have g116 : ((c.toNat : Int) == 116) = false := bneI h116
    have g115 : ((c.toNat : Int) == 115) = false := bneI h115
    have hva : vaL (c.toNat : Int) o = num (toU o.pl) := by unfold vaL; simp [h97]
    have hsa : shL (c.toNat : Int) = 52 := by unfold shL; simp [h97]
    have hua := any_num w _ (u64_lt o.pl)
    have hwz := u64_wrap o.size
    have hwp := u64_wrap o.pl
    have hwc := u64_wrap o.count
    have HU := Lib.hid hua
    obtain ⟨xs, ho, hx⟩ := HM2.out.row
    have hn1 : xs.length = (vals o ((nm o.k).take pos)).length := by have := ho.1; omega
    have HX := Lib.hid (And.intro hx (And.intro hn1 ho))
    have hbs2 : B + 1 ≤ wr2.heap.size := by have h1 := (Array.getElem?_eq_some_iff.1 HM2.out.it).1; have := HM2.out.kb; omega
    have hvl : ((vals o ((nm o.k).take pos)).length + 1) * 16 ≤ 140737488355328 := by
     have : (vals o ((nm o.k).take pos)).length ≤ 3 := by unfold vals; rw [List.length_map, List.length_take]; have := HSS.out; omega
     omega
    have HVS : Hid (vals o ((nm o.k).take (pos + 1)) = vals o ((nm o.k).take pos) ++ [vaL (c.toNat : Int) o]) := Lib.hid (by rw [List.take_add_one, HGET.out]; exact vals_snoc _ _ _)
    have HSH : Hid (strB (shS ((nm o.k).take (pos + 1))) = strB (shS ((nm o.k).take pos)) ++ ⟨#[shL (c.toNat : Int)]⟩) := Lib.hid (by rw [List.take_add_one, HGET.out, ← strB_snoc]; exact congrArg strB (shS_snoc _ _))
    rw [hva] at HVS
    rw [hsa] at HSH
    have hssz : (strB (shS ((nm o.k).take pos))).size ≤ 3 := by rw [str_size]; unfold shS; rw [List.length_map, List.length_take]; have := HSS.out; omega
    clear hx hn1 hget hua hva hsa
    generalize strB (shS ((nm o.k).take pos)) = sa at *
    generalize vals o ((nm o.k).take pos) = vs at *
    go_wp2_with (at_builtin; go_must (refine wpList_app rfl _ _ 90 rfl (B + 1) 20 _ 1 16 Tryz.underlying90 infoAny rfl (by decide) (by decide) v' vs.length xs rfl ho rfl rfl (by simp [Value.oneCell']) hvl hbs2 ?_); intro v5 w5 ho5 hb5 hg5 hs5 hn5)
    have HM5 := Lib.hid (HM2.out.grown HX.out.1 HX.out.2.1 HX.out.2.2 ho5 HU.out hb5 hg5 hs5)
    clear ho5 hb5 hg5 hs5 hn5 ho
    go_wp2_with fail
    go_roundg (s.size - (pos + 1))
    case rel => exact ⟨pos + 1, v5, by omega, rfl, by rw [HSH.out], rfl, by rw [HVS.out]; exact HM5.out⟩
    case measure => have := HG.out; omega
   by_cases h99 : (c.toNat : Int) = 99
   ·have g99 : ((c.toNat : Int) == 99) = true := beqI h99
    have g118 : ((c.toNat : Int) == 118) = false := bneI h118
    have g116 : ((c.toNat : Int) == 116) = false := bneI h116
    have g115 : ((c.toNat : Int) == 115) = false := bneI h115
    have g97 : ((c.toNat : Int) == 97) = false := bneI h97
    have hva : vaL (c.toNat : Int) o = num (toU o.count) := by unfold vaL; simp [h99]
    have hsa : shL (c.toNat : Int) = 52 := by unfold shL; simp [h99]
    have hua := any_num w _ (u64_lt o.count)
    have hwz := u64_wrap o.size
    have hwp := u64_wrap o.pl
    have hwc := u64_wrap o.count
    have HU := Lib.hid hua
    obtain ⟨xs, ho, hx⟩ := HM2.out.row
    have hn1 : xs.length = (vals o ((nm o.k).take pos)).length := by have := ho.1; omega
    have HX := Lib.hid (And.intro hx (And.intro hn1 ho))
    have hbs2 : B + 1 ≤ wr2.heap.size := by have h1 := (Array.getElem?_eq_some_iff.1 HM2.out.it).1; have := HM2.out.kb; omega
    have hvl : ((vals o ((nm o.k).take pos)).length + 1) * 16 ≤ 140737488355328 := by
     have : (vals o ((nm o.k).take pos)).length ≤ 3 := by unfold vals; rw [List.length_map, List.length_take]; have := HSS.out; omega
     omega
    have HVS : Hid (vals o ((nm o.k).take (pos + 1)) = vals o ((nm o.k).take pos) ++ [vaL (c.toNat : Int) o]) := Lib.hid (by rw [List.take_add_one, HGET.out]; exact vals_snoc _ _ _)
    have HSH : Hid (strB (shS ((nm o.k).take (pos + 1))) = strB (shS ((nm o.k).take pos)) ++ ⟨#[shL (c.toNat : Int)]⟩) := Lib.hid (by rw [List.take_add_one, HGET.out, ← strB_snoc]; exact congrArg strB (shS_snoc _ _))
    rw [hva] at HVS
    rw [hsa] at HSH
    have hssz : (strB (shS ((nm o.k).take pos))).size ≤ 3 := by rw [str_size]; unfold shS; rw [List.length_map, List.length_take]; have := HSS.out; omega
    clear hx hn1 hget hua hva hsa
    generalize strB (shS ((nm o.k).take pos)) = sa at *
    generalize vals o ((nm o.k).take pos) = vs at *
    go_wp2_with (at_builtin; go_must (refine wpList_app rfl _ _ 90 rfl (B + 1) 20 _ 1 16 Tryz.underlying90 infoAny rfl (by decide) (by decide) v' vs.length xs rfl ho rfl rfl (by simp [Value.oneCell']) hvl hbs2 ?_); intro v5 w5 ho5 hb5 hg5 hs5 hn5)
    have HM5 := Lib.hid (HM2.out.grown HX.out.1 HX.out.2.1 HX.out.2.2 ho5 HU.out hb5 hg5 hs5)
    clear ho5 hb5 hg5 hs5 hn5 ho
    go_wp2_with fail
    go_roundg (s.size - (pos + 1))
    case rel => exact ⟨pos + 1, v5, by omega, rfl, by rw [HSH.out], rfl, by rw [HVS.out]; exact HM5.out⟩
    case measure => have := HG.out; omega
   have g118 : ((c.toNat : Int) == 118) = false := bneI h118
   have g116 : ((c.toNat : Int) == 116) = false := bneI h116
   have g115 : ((c.toNat : Int) == 115) = false := bneI h115
   have g97 : ((c.toNat : Int) == 97) = false := bneI h97
   have g99 : ((c.toNat : Int) == 99) = false := bneI h99
   have hva : vaL (c.toNat : Int) o = blob o.data := by unfold vaL; simp [h118, h116, h115, h97, h99]
   have hsa : shL (c.toNat : Int) = 42 := by unfold shL; simp [h118, h116, h115, h97, h99]
   have hua := any_blob w _ o.data HD.out
   have HU := Lib.hid hua
   obtain ⟨xs, ho, hx⟩ := HM2.out.row
   have hn1 : xs.length = (vals o ((nm o.k).take pos)).length := by have := ho.1; omega
   have HX := Lib.hid (And.intro hx (And.intro hn1 ho))
   have hbs2 : B + 1 ≤ wr2.heap.size := by have h1 := (Array.getElem?_eq_some_iff.1 HM2.out.it).1; have := HM2.out.kb; omega
   have hvl : ((vals o ((nm o.k).take pos)).length + 1) * 16 ≤ 140737488355328 := by
    have : (vals o ((nm o.k).take pos)).length ≤ 3 := by unfold vals; rw [List.length_map, List.length_take]; have := HSS.out; omega
    omega
   have HVS : Hid (vals o ((nm o.k).take (pos + 1)) = vals o ((nm o.k).take pos) ++ [vaL (c.toNat : Int) o]) := Lib.hid (by rw [List.take_add_one, HGET.out]; exact vals_snoc _ _ _)
   have HSH : Hid (strB (shS ((nm o.k).take (pos + 1))) = strB (shS ((nm o.k).take pos)) ++ ⟨#[shL (c.toNat : Int)]⟩) := Lib.hid (by rw [List.take_add_one, HGET.out, ← strB_snoc]; exact congrArg strB (shS_snoc _ _))
   rw [hva] at HVS
   rw [hsa] at HSH
   have hssz : (strB (shS ((nm o.k).take pos))).size ≤ 3 := by rw [str_size]; unfold shS; rw [List.length_map, List.length_take]; have := HSS.out; omega
   clear hx hn1 hget hua hva hsa
   generalize strB (shS ((nm o.k).take pos)) = sa at *
   generalize vals o ((nm o.k).take pos) = vs at *
   go_wp2_with (at_builtin; go_must (refine wpList_app rfl _ _ 90 rfl (B + 1) 20 _ 1 16 Tryz.underlying90 infoAny rfl (by decide) (by decide) v' vs.length xs rfl ho rfl rfl (by simp [Value.oneCell']) hvl hbs2 ?_); intro v5 w5 ho5 hb5 hg5 hs5 hn5)
   have HM5 := Lib.hid (HM2.out.grown HX.out.1 HX.out.2.1 HX.out.2.2 ho5 HU.out hb5 hg5 hs5)
   clear ho5 hb5 hg5 hs5 hn5 ho
   go_wp2_with fail
   go_roundg (s.size - (pos + 1))
   case rel => exact ⟨pos + 1, v5, by omega, rfl, by rw [HSH.out], rfl, by rw [HVS.out]; exact HM5.out⟩
   case measure => have := HG.out; omega
  ·obtain rfl : pos = s.size := by omega
   have hnx := fun ty => Lib.run_next_end_at (P := Tryz.prog) wr K s s.size ty hit (by omega)
   have htk : (nm o.k).take s.size = nm o.k := List.take_of_length_le (by rw [HSS.out]; exact Nat.le_refl _)
   have HR : Hid (RowA w.heap.size w wr v' (vals o (nm o.k))) := Lib.hid (by
    obtain ⟨xs, ho, hx⟩ := HM.out.row
    rw [htk] at ho hx
    exact ⟨xs, ownsRow_base ho (by rw [HB.out]; omega), hx⟩)
   rw [htk]
   clear htk hit
   obtain ⟨sa, hsa⟩ : ∃ sa, strB (shS (nm o.k)) = sa := ⟨_, rfl⟩
   rw [hsa]
   have HSA := Lib.hid hsa
   clear hsa
   go_wp2_with fail
   go_ret2
   exact ⟨_, by rw [HSA.out]; rfl, by rw [HB.out]; exact HM.out.below, HR.out⟩
end Go.Proofs.YtgkelbdgdhkeoaaGreat
/- What clients ask: Bytes, walked. -/
namespace Go.Proofs.YtgkelbdgdhkeoaaGreat
open Go.RowKit
set_option linter.unusedVariables false
set_option linter.unusedSimpArgs false
open Wire Cmd
theorem AnyV.one {w : World} {u : Value} {x : V} (h : AnyV w u x) : u.oneCell' = true := by
 rcases h with ⟨_, rfl, _⟩ | ⟨_, rfl⟩ | ⟨_, sl, rfl, _⟩ | ⟨_, rfl, _⟩ | ⟨_, _, _, _, h⟩
 ·rfl
 ·rfl
 ·rfl
 ·rfl
 ·rcases h with ⟨n, rfl⟩ | rfl <;> rfl
theorem anysA {w W : World} {B : Nat} {v : Value} {l : List V} {xs : List Value} (ho : W.ownsRow B 20 1 v l.length xs) (hx : ∀ (j : Nat) (x : V), l[j]? = some x → ∃ u, xs[j]? = some u ∧ AnyV w u x) (hb : Below w.heap.size w W) :
  ∃ ao cap, v = .slice ao l.length cap ∧ (ao = none → cap = 0) ∧ Anys W ao l.length cap l := by
 obtain ⟨ao, cap, rfl, _, _, ⟨hn, h1, h2⟩, hc⟩ := Rd.of_own ho
 refine ⟨ao, cap, rfl, hn, rfl, h1, h2, fun j x hj => ?_⟩
 obtain ⟨u, hu, ha⟩ := hx j x hj
 obtain ⟨b, off, e, hbl, hce⟩ := hc j u hu
 exact ⟨b, off, u, e, hbl, hce, ha.below hb⟩
end Go.Proofs.YtgkelbdgdhkeoaaGreat
/- The reference's shape and value, walked. -/
namespace Go.Proofs.YtgkelbdgdhkeoaaGreat
open Go.RowKit
set_option linter.unusedVariables false
set_option linter.unusedSimpArgs false
open Wire Cmd
theorem nm_shape (k : Int) : ∀ c ∈ nm k, (c = 100 → shL (c.toNat : Int) = 42) ∧ (c ≠ 100 → shL (c.toNat : Int) = 52) := by unfold nm; (repeat' split) <;> decide
set_option maxRecDepth 100000 in
set_option maxHeartbeats 3200000 in
theorem rshape_any (k : Int) (w : World) : Calls Tryz.prog 68 #[.int .i64 k] w fun e w' => e = .returned (.string (strB (shS (nm k)))) ∧ w = w' := by
 have CN := rnames_any k w
 have hcs : chs (strB (nm k)) = nm k := by simp [chs, strB]
 have hsz : (strB (nm k)).size ≤ 3 := by rw [← chs_len]; simp only [chs, strB]; simpa using nm_len k
 have HCS := Lib.hid hcs
 have HNS := Lib.hid (nm_shape k)
 clear hcs
 generalize hs : strB (nm k) = s at *
 clear hs
 go_enter Tryz.func68, Tryz.ntmps68
 go_wp2_with fail
 go_loop [3, 4] (fun t i => ∃ p : Nat, p ≤ s.size ∧ t = .string (strB (shS ((nm k).take p))) ∧ i = .int .i64 (p : Int)) (fun t i => s.size - (intOf i).toNat)
 case atStart => exact ⟨0, by omega, rfl, rfl⟩
 case round =>
  obtain ⟨p, hp, rfl, rfl⟩ := hrel
  by_cases hlt : p < s.size
  ·have hget := chs_get hlt
   rw [HCS.out] at hget
   have hmem := List.mem_of_getElem? hget
   have HT : Hid (shS ((nm k).take (p + 1)) = shS ((nm k).take p) ++ [shL (((s[p]'hlt)).toNat : Int)]) := Lib.hid (by
    rw [List.take_add_one, hget]; exact shS_snoc _ _)
   obtain ⟨q1, q2⟩ := HNS.out _ hmem
   clear hget hmem
   have hXl : (strB (shS ((nm k).take p))).size ≤ 3 := by
    rw [str_size]; unfold shS; rw [List.length_map, List.length_take]; exact Nat.le_trans (Nat.min_le_right _ _) (nm_len k)
   generalize hX : strB (shS ((nm k).take p)) = X at *
   go_wp2_with fail
   refine CN.mono ?_
   rintro e w1 ⟨rfl, rfl⟩
   go_wp2_with fail
   refine CN.mono ?_
   rintro e w1 ⟨rfl, rfl⟩
   by_cases hc : (s[p]'hlt) = 100
   ·have hq : (((s[p]'hlt).toNat : Int) == 100) = true := by rw [hc]; rfl
    have HX : Hid (X ++ ⟨#[42]⟩ = strB (shS ((nm k).take (p + 1)))) := Lib.hid (by rw [HT.out, q1 hc, strB_snoc, hX])
    clear hc q1 q2 hX
    go_wp2_with fail
    go_round
    case rel => exact ⟨p + 1, by omega, by rw [← HX.out], by go_num⟩
    case measure => simp [intOf] <;> omega
   ·have hq : (((s[p]'hlt).toNat : Int) == 100) = false := by
     rw [beq_eq_false_iff_ne]; intro h; exact hc (UInt8.toNat_inj.1 (by have : (100 : UInt8).toNat = 100 := rfl; omega))
    have HX : Hid (X ++ ⟨#[52]⟩ = strB (shS ((nm k).take (p + 1)))) := Lib.hid (by rw [HT.out, q2 hc, strB_snoc, hX])
    clear hc q1 q2 hX
    go_wp2_with fail
    go_round
    case rel => exact ⟨p + 1, by omega, by rw [← HX.out], by go_num⟩
    case measure => simp [intOf] <;> omega
  ·obtain rfl : p = s.size := by omega
   have HE : Hid (strB (shS ((nm k).take s.size)) = strB (shS (nm k))) := Lib.hid (by
    rw [List.take_of_length_le (by rw [← HCS.out, chs_len]; exact Nat.le_refl _)])
   generalize strB (shS ((nm k).take s.size)) = X at *
   go_wp2_with fail
   refine CN.mono ?_
   rintro e w1 ⟨rfl, rfl⟩
   go_wp2_with fail
   go_ret
   exact ⟨by rw [← HE.out]; rfl, rfl⟩
end Go.Proofs.YtgkelbdgdhkeoaaGreat
/- The reference's value, walked. -/
namespace Go.Proofs.YtgkelbdgdhkeoaaGreat
open Go.RowKit
set_option linter.unusedVariables false
set_option linter.unusedSimpArgs false
open Wire Cmd
end Go.Proofs.YtgkelbdgdhkeoaaGreat
/- The reference's Pack, walked. -/
namespace Go.Proofs.YtgkelbdgdhkeoaaGreat
open Go.RowKit
set_option linter.unusedVariables false
set_option linter.unusedSimpArgs false
open Wire Cmd
/-- A row of one, new. -/
theorem own_new (W : World) (B : Nat) (hB : B ≤ W.heap.size) (e : TypeId) (L : List Value) (n : Nat) (hL : L.length = n) : (W.alloc (.cells L.toArray e)).ownsRow B e n (.slice (some ⟨W.heap.size, 0, none⟩) 1 1) 1 L :=
 ⟨by omega, .inr ⟨W.heap.size, 1, L.toArray, rfl, hB, heap_alloc_new W _, Nat.le_refl _, by unfold maxLen; omega, by simp [hL], by simp [← hL]⟩⟩
theorem nm_six (k : Int) : ∀ c ∈ nm k, c = 118 ∨ c = 116 ∨ c = 115 ∨ c = 97 ∨ c = 99 ∨ c = 100 := by unfold nm; (repeat' split) <;> decide
end Go.Proofs.YtgkelbdgdhkeoaaGreat
/- Plain: an operation that may be has bytes. -/
namespace Go.Proofs.YtgkelbdgdhkeoaaGreat
open Go.RowKit
set_option linter.unusedVariables false
open Wire Cmd
theorem toU_of {n : Int} (h1 : 0 ≤ n) (h2 : n < 18446744073709551616) : ((toU n : Nat) : Int) = n := by unfold toU; omega
end Go.Proofs.YtgkelbdgdhkeoaaGreat
/- A slice of several elements of many cells, made in place. -/
namespace Go.Proofs.YtgkelbdgdhkeoaaGreat
open Go.RowKit
set_option linter.unusedVariables false
set_option linter.unusedSimpArgs false
end Go.Proofs.YtgkelbdgdhkeoaaGreat
/- The reference's Pack, walked. -/
namespace Go.Proofs.YtgkelbdgdhkeoaaGreat
open Go.RowKit
set_option linter.unusedVariables false
set_option linter.unusedSimpArgs false
open Wire Cmd
end Go.Proofs.YtgkelbdgdhkeoaaGreat
/- What an operation is answered: plain Lean (no program). -/
namespace Go.Proofs.YtgkelbdgdhkeoaaGreat
open Go.RowKit
set_option linter.unusedVariables false
open Wire Cmd
namespace Cmd
/-- An answer. -/
structure Ans0 where
 code : Int
 done : Int
 data : List UInt8
deriving DecidableEq
def ansEq (a b : Ans0) : Bool := decide (a = b)
structure Ans0.Ok (a : Ans0) : Prop where
 code : -9223372036854775808 ≤ a.code ∧ a.code ≤ 9223372036854775807
 done : -9223372036854775808 ≤ a.done ∧ a.done ≤ 9223372036854775807
/-- May an answer be? -/
def MayA (a : Ans0) : Prop := 0 ≤ a.code ∧ a.code ≤ 14 ∧ 0 ≤ a.done ∧ a.done ≤ 1024 ∧ (a.done = 0 ∨ a.code = 8) ∧ a.data.length % 64 = 0 ∧ a.data.length ≤ 65536 ∧ (a.code = 0 ∨ a.data.length = 0)
instance (a : Ans0) : Decidable (MayA a) := by unfold MayA; infer_instance
def mayA (a : Ans0) : Bool := decide (MayA a)
/-- An answer's bytes; none: it may not be. -/
def packA (a : Ans0) : Option (List UInt8) := if mayA a then pack [49, 52, 42] [num (toU a.code), num (toU a.done), blob a.data] else none
end Cmd
theorem lay_n1 {n : Nat} (h : n < 256) : lay 49 (num n) = some [UInt8.ofNat n] := by
 have h2 : isNum 49 = true ∧ n < 256 ^ wid 49 := ⟨rfl, by rw [show wid 49 = 1 from rfl]; omega⟩
 have h3 : lay 49 (num n) = some (low n (wid 49)) := if_pos h2
 rw [h3, show wid 49 = 1 from rfl]
 show some [UInt8.ofNat (n % 256)] = _
 rw [Nat.mod_eq_of_lt h]
end Go.Proofs.YtgkelbdgdhkeoaaGreat
/- SameAnswer of both, the reference's MayAnswer, walked. -/
namespace Go.Proofs.YtgkelbdgdhkeoaaGreat
open Go.RowKit
set_option linter.unusedVariables false
set_option linter.unusedSimpArgs false
open Wire Cmd
/-- An answer's cells; by value. -/
def aC (a : Ans0) (sl : Value) : Array Value := #[.int .i64 a.code, .int .i64 a.done, sl]
end Go.Proofs.YtgkelbdgdhkeoaaGreat
/- MayAnswer, walked. -/
namespace Go.Proofs.YtgkelbdgdhkeoaaGreat
open Go.RowKit
set_option linter.unusedVariables false
set_option linter.unusedSimpArgs false
open Wire Cmd
end Go.Proofs.YtgkelbdgdhkeoaaGreat
/- CopyAnswer, AnswerBytes, the reference's PackAnswer, walked. -/
namespace Go.Proofs.YtgkelbdgdhkeoaaGreat
open Go.RowKit
set_option linter.unusedVariables false
set_option linter.unusedSimpArgs false
open Wire Cmd
end Go.Proofs.YtgkelbdgdhkeoaaGreat
/- The reference's PackAnswer, walked. -/
namespace Go.Proofs.YtgkelbdgdhkeoaaGreat
open Go.RowKit
set_option linter.unusedVariables false
set_option linter.unusedSimpArgs false
open Wire Cmd
end Go.Proofs.YtgkelbdgdhkeoaaGreat
/- What bytes are: an operation, an answer: plain Lean (no program). -/
namespace Go.Proofs.YtgkelbdgdhkeoaaGreat
set_option linter.unusedVariables false
open Wire Cmd
namespace Cmd
/-- An operation with what a letter stands for. -/
def getL (o : Op0) (c : UInt8) (v : V) : Op0 :=
 if c = 118 then { o with vol := v.n } else if c = 116 then ⟨o.k, o.vol, v.n, o.size, o.pl, o.count, o.data⟩ else if c = 115 then { o with size := (v.n : Int) }
 else if c = 97 then { o with pl := (v.n : Int) } else if c = 99 then { o with count := (v.n : Int) } else { o with data := v.b }
def getAll : Op0 → List UInt8 → List V → Op0
 | o, c :: cs, v :: vs => getAll (getL o c v) cs vs
 | o, _, _ => o
def kind0 (k : UInt8) : Op0 := ⟨(k.toNat : Int), 0, 0, 0, 0, 0, []⟩
/-- The operation of bytes; none: none's. -/
def ofO : List UInt8 → Option Op0
 | [] => none
 | k :: r => (unpack (shS (nm (k.toNat : Int))) r).bind fun p =>
  if p.2 = r.length then (if mayO (getAll (kind0 k) (nm (k.toNat : Int)) p.1) then some (getAll (kind0 k) (nm (k.toNat : Int)) p.1) else none) else none
/-- The answer of values. -/
def ansV : List V → Option Ans0
 | [x, y, z] => if mayA ⟨(x.n : Int), (y.n : Int), z.b⟩ then some ⟨(x.n : Int), (y.n : Int), z.b⟩ else none
 | _ => none
/-- The answer of bytes; none: none's. -/
def ofA (b : List UInt8) : Option Ans0 := (unpack [49, 52, 42] b).bind fun p => if p.2 = b.length then ansV p.1 else none
end Cmd
theorem getAll_k : ∀ (cs : List UInt8) (l : List V) (o : Op0), (getAll o cs l).k = o.k
 | [], _, _ => by unfold getAll; rfl
 | _ :: _, [], _ => by unfold getAll; rfl
 | c :: cs, v :: vs, o => by
  rw [getAll, getAll_k cs vs]
  unfold getL
  (repeat' split) <;> rfl
def six (c : UInt8) : Prop := c = 118 ∨ c = 116 ∨ c = 115 ∨ c = 97 ∨ c = 99 ∨ c = 100
/-- What a letter's value is. -/
def ValOf (c : UInt8) (v : V) : Prop := (shL (c.toNat : Int) = 52 ∧ v = num v.n ∧ v.n < 4294967296) ∨ (shL (c.toNat : Int) = 42 ∧ v = blob v.b)
theorem lift_52 {b : List UInt8} {v : V} {k : Nat} (h : lift 52 b = some (v, k)) : v = num v.n ∧ v.n < 4294967296 := by
 unfold lift at h
 split at h
 ·cases h
 ·rename_i hl
  rw [if_neg (by decide), if_neg (by decide), if_neg (by decide)] at h
  obtain ⟨rfl, rfl⟩ := Prod.mk.inj (Option.some.inj h)
  refine ⟨rfl, ?_⟩
  have := sum_take_pow b (wid 52) (by omega)
  exact this
theorem lift_42 {b : List UInt8} {v : V} {k : Nat} (h : lift 42 b = some (v, k)) : v = blob v.b := by
 unfold lift at h
 split at h
 ·cases h
 ·rw [if_neg (by decide), if_pos rfl] at h
  split at h
  ·cases h
  ·obtain ⟨rfl, rfl⟩ := Prod.mk.inj (Option.some.inj h)
   rfl
theorem shL_or (c : Int) : shL c = 52 ∨ shL c = 42 := by unfold shL; split <;> simp
theorem may_shS (cs : List UInt8) : may (shS cs) = true := by
 unfold may shS
 rw [List.all_eq_true]
 intro x hx
 obtain ⟨c, _, rfl⟩ := List.mem_map.1 hx
 rcases shL_or (c.toNat : Int) with h | h <;> rw [h] <;> decide
inductive VTs : List UInt8 → List V → Prop
 | nil : VTs [] []
 | cons {c : UInt8} {cs : List UInt8} {v : V} {vs : List V} : ValOf c v → VTs cs vs → VTs (c :: cs) (v :: vs)
theorem unpackT : ∀ (cs : List UInt8) (r : List UInt8) (l : List V) (n : Nat), unpack (shS cs) r = some (l, n) → VTs cs l
 | [], r, l, n, h => by
  obtain ⟨rfl, rfl⟩ := Prod.mk.inj (Option.some.inj h)
  exact .nil
 | c :: cs, r, l, n, h => by
  have e : shS (c :: cs) = shL (c.toNat : Int) :: shS cs := rfl
  rw [e, unpack] at h
  cases hl : lift (shL (c.toNat : Int)) r with
  | none => rw [hl] at h; cases h
  | some p =>
   obtain ⟨v, k⟩ := p
   rw [hl, Option.bind_some] at h
   dsimp only at h
   cases hu : unpack (shS cs) (r.drop k) with
   | none => rw [hu] at h; cases h
   | some q =>
    obtain ⟨vs, m⟩ := q
    rw [hu] at h
    obtain ⟨rfl, rfl⟩ := Prod.mk.inj (Option.some.inj h)
    refine .cons ?_ (unpackT cs _ _ _ hu)
    rcases shL_or (c.toNat : Int) with h1 | h1
    ·rw [h1] at hl; exact .inl ⟨h1, lift_52 hl⟩
    ·rw [h1] at hl; exact .inr ⟨h1, lift_42 hl⟩
theorem toU_nat {n : Nat} (h : n < 4294967296) : toU (n : Int) = n := by unfold toU; omega
theorem valN {c : UInt8} {v : V} (h : ValOf c v) (hc : shL (c.toNat : Int) = 52) : v = num v.n ∧ toU (v.n : Int) = v.n := by
 rcases h with h | h
 ·exact ⟨h.2.1, toU_nat h.2.2⟩
 ·rw [hc] at h; exact absurd h.1 (by decide)
theorem valB {c : UInt8} {v : V} (h : ValOf c v) (hc : shL (c.toNat : Int) = 42) : v = blob v.b := by
 rcases h with h | h
 ·rw [hc] at h; exact absurd h.1 (by decide)
 ·exact h.2
theorem nm_cases (k : Int) : nm k = [118, 115] ∨ nm k = [118] ∨ nm k = [118, 116] ∨ nm k = [118, 97, 100] ∨ nm k = [118, 97, 99] ∨ nm k = [] := by
 unfold nm; (repeat' split) <;> simp
theorem vals_getAll (b : Op0) (k : Int) (l : List V) (h : VTs (nm k) l) : vals (getAll b (nm k) l) (nm k) = l := by
 rcases nm_cases k with e | e | e | e | e | e
 ·rw [e] at h ⊢
  obtain _ | ⟨h1, _ | ⟨h2, _ | _⟩⟩ := h
  obtain ⟨e1, t1⟩ := valN h1 rfl
  obtain ⟨e2, t2⟩ := valN h2 rfl
  rename_i v1 v2
  show [num v1.n, num (toU (v2.n : Int))] = _
  rw [t2, ← e1, ← e2]
 ·rw [e] at h ⊢
  obtain _ | ⟨h1, _ | _⟩ := h
  obtain ⟨e1, t1⟩ := valN h1 rfl
  rename_i v1
  show [num v1.n] = _
  rw [← e1]
 ·rw [e] at h ⊢
  obtain _ | ⟨h1, _ | ⟨h2, _ | _⟩⟩ := h
  obtain ⟨e1, t1⟩ := valN h1 rfl
  obtain ⟨e2, t2⟩ := valN h2 rfl
  rename_i v1 v2
  show [num v1.n, num v2.n] = _
  rw [← e1, ← e2]
 ·rw [e] at h ⊢
  obtain _ | ⟨h1, _ | ⟨h2, _ | ⟨h3, _ | _⟩⟩⟩ := h
  obtain ⟨e1, t1⟩ := valN h1 rfl
  obtain ⟨e2, t2⟩ := valN h2 rfl
  have e3 := valB h3 rfl
  rename_i v1 v2 v3
  show [num v1.n, num (toU (v2.n : Int)), blob v3.b] = _
  rw [t2, ← e1, ← e2, ← e3]
 ·rw [e] at h ⊢
  obtain _ | ⟨h1, _ | ⟨h2, _ | ⟨h3, _ | _⟩⟩⟩ := h
  obtain ⟨e1, t1⟩ := valN h1 rfl
  obtain ⟨e2, t2⟩ := valN h2 rfl
  obtain ⟨e3, t3⟩ := valN h3 rfl
  rename_i v1 v2 v3
  show [num v1.n, num (toU (v2.n : Int)), num (toU (v3.n : Int))] = _
  rw [t2, t3, ← e1, ← e2, ← e3]
 ·rw [e] at h ⊢
  obtain _ | _ := h
  rfl
/-- Bytes that are read are just those of what comes. -/
theorem packO_ofO {b : List UInt8} {d : Op0} (h : ofO b = some d) : packO d = some b := by
 cases b with
 | nil => cases h
 | cons k r =>
  rw [ofO] at h
  cases hu : unpack (shS (nm (k.toNat : Int))) r with
  | none => rw [hu] at h; cases h
  | some p =>
   obtain ⟨l, n⟩ := p
   rw [hu, Option.bind_some] at h
   by_cases hn : n = r.length
   ·rw [if_pos hn] at h
    cases hm : mayO (getAll (kind0 k) (nm (k.toNat : Int)) l) with
    | false => rw [hm] at h; cases h
    | true =>
     rw [hm, if_pos rfl] at h
     obtain rfl := Option.some.inj h
     have hv := vals_getAll (kind0 k) (k.toNat : Int) l (unpackT _ _ _ _ hu)
     have hp := pack_unpack _ _ _ _ (may_shS _) hu
     have hk : (getAll (kind0 k) (nm (k.toNat : Int)) l).k = (k.toNat : Int) := getAll_k _ _ _
     rw [hn, List.take_length] at hp
     have hkl := k.toNat_lt
     unfold packO
     rw [if_pos hm, hk, hv, toU_nat (by omega), pack, lay_n1 (by omega), Option.bind_some, hp, UInt8.ofNat_toNat]
     rfl
   ·rw [if_neg hn] at h; cases h
/-- The letters of an answer's shape, as they were those of a kind. -/
theorem lift_49 {b : List UInt8} {v : V} {k : Nat} (h : lift 49 b = some (v, k)) : v = num v.n ∧ v.n < 256 := by
 unfold lift at h
 split at h
 ·cases h
 ·rename_i hl
  rw [if_neg (by decide), if_neg (by decide), if_neg (by decide)] at h
  obtain ⟨rfl, rfl⟩ := Prod.mk.inj (Option.some.inj h)
  refine ⟨rfl, ?_⟩
  have := sum_take_pow b (wid 49) (by omega)
  exact this
theorem unpack_cons {c : UInt8} {s b : List UInt8} {l : List V} {n : Nat} (h : unpack (c :: s) b = some (l, n)) : ∃ v k vs m, lift c b = some (v, k) ∧ unpack s (b.drop k) = some (vs, m) ∧ l = v :: vs ∧ n = k + m := by
 rw [unpack] at h
 cases hl : lift c b with
 | none => rw [hl] at h; cases h
 | some p =>
  obtain ⟨v, k⟩ := p
  rw [hl, Option.bind_some] at h
  dsimp only at h
  cases hu : unpack s (b.drop k) with
  | none => rw [hu] at h; cases h
  | some q =>
   obtain ⟨vs, m⟩ := q
   rw [hu] at h
   obtain ⟨rfl, rfl⟩ := Prod.mk.inj (Option.some.inj h)
   exact ⟨v, k, vs, m, rfl, hu, rfl, rfl⟩
end Go.Proofs.YtgkelbdgdhkeoaaGreat
