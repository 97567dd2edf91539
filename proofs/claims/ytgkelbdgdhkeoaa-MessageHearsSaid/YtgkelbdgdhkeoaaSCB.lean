/- Several texts in one: Cmd4 Cmd5 CmdR4 CmdR5 CmdR6 CmdR8 BuildN CmdR7 Ans0 Ans1 Ans2 Ans3 Ans4 Read0. -/
import Derived.Test.YtgkelbdgdhkeoaaSCA
import Derived.Test.YtgkelbdgdhkeoaaSWB
import Derived.Test.YtgkelbdgdhkeoaaSCmdR3
import Derived.Test.YtgkelbdgdhkeoaaSWC
namespace Go.Proofs.Ytgkelbdgdhkeoaa
open Go.RowKit
set_option linter.unusedVariables false
set_option linter.unusedSimpArgs false
open Wire Cmd
/-- Values in a row that is new, their bytes in the world w. -/
def RowA (B : Nat) (w W : World) (v : Value) (l : List V) : Prop :=
 ∃ xs, W.ownsRow B 20 1 v l.length xs ∧ ∀ (j : Nat) (x : V), l[j]? = some x → ∃ u, xs[j]? = some u ∧ AnyV w u x
theorem RowA.below {B : Nat} {w W W' : World} {v : Value} {l : List V} (h : RowA B w W v l) (hb : Below W.heap.size W W') : RowA B w W' v l := by
 obtain ⟨xs, ho, hx⟩ := h
 exact ⟨xs, ownsRow_below ho hb, hx⟩
theorem RowA.at {B : Nat} {w W W' : World} {v : Value} {l : List V} (h : RowA B w W v l) (hs : ∀ k ∈ ob v, W'.heap[k]? = W.heap[k]?) : RowA B w W' v l := by
 obtain ⟨xs, ho, hx⟩ := h
 exact ⟨xs, ownsRow_at ho hs, hx⟩
theorem RowA.snoc {B : Nat} {w W' : World} {v' u : Value} {l : List V} {x : V} {xs : List Value} (hx : ∀ (j : Nat) (x : V), l[j]? = some x → ∃ u, xs[j]? = some u ∧ AnyV w u x) (hn : xs.length = l.length)
  (ho : W'.ownsRow B 20 1 v' (l.length + 1) (xs ++ [u])) (hu : AnyV w u x) : RowA B w W' v' (l ++ [x]) := by
 refine ⟨xs ++ [u], by rw [List.length_append]; exact ho, fun j y hj => ?_⟩
 rcases Nat.lt_trichotomy j l.length with h | h | h
 ·rw [List.getElem?_append_left h] at hj
  obtain ⟨z, h1, h2⟩ := hx j y hj
  exact ⟨z, by rw [List.getElem?_append_left (by omega)]; exact h1, h2⟩
 ·subst h
  have hy : x = y := by simpa using hj
  subst hy
  exact ⟨u, by rw [← hn]; simp, hu⟩
 ·rw [List.getElem?_eq_none (by simp; omega)] at hj; cases hj
theorem u64_wrap (n : Int) : IntKind.u64.wrap n = ((toU n : Nat) : Int) := by
 rw [IntKind.wrap_u64]; unfold toU; omega
theorem u64_lt (n : Int) : toU n < 18446744073709551616 := by unfold toU; omega
theorem strB_snoc (l : List UInt8) (c : UInt8) : strB (l ++ [c]) = strB l ++ ⟨#[c]⟩ := by simp [strB, ByteArray.ext_iff]
theorem any_num (w : World) (n : Nat) (h : n < 18446744073709551616) : AnyV w (.iface 23 (.int .u64 (n : Int))) (num n) := .inl ⟨rfl, rfl, h⟩
theorem any_blob (w : World) (sl : Value) (l : List UInt8) (h : Rd w 1 sl l.length (bV l)) : AnyV w (.iface 24 sl) (blob l) := .inr (.inr (.inl ⟨rfl, sl, rfl, h⟩))
/-- What a round of shape knows of memory. -/
structure ShM (B K : Nat) (w : World) (o : Op0) (sl v : Value) (l : List V) (pos : Nat) (W : World) : Prop where
 it : W.heap[K]? = some (.stringIter (strB (nm o.k)) pos)
 bx : W.heap[B]? = some (.cells (oC o sl) 26 (0, 0))
 row : RowA (B + 1) w W v l
 ap : ∀ j ∈ ob v, j ≠ K
 below : Below B w W
 kb : B + 1 < K
theorem ShM.next {B K : Nat} {w : World} {o : Op0} {sl v : Value} {l : List V} {pos p' : Nat} {W : World} (h : ShM B K w o sl v l pos W) : ShM B K w o sl v l p' (W.iterAt K (strB (nm o.k)) p') :=
 ⟨Lib.iterAt_heap W K _ pos p' h.it, (Lib.iterAt_other _ _ _ _ _ (by have := h.kb; omega)).trans h.bx, h.row.at (fun k hk => Lib.iterAt_other _ _ _ _ _ (h.ap k hk)), h.ap, Lib.below_iterAt h.below (by have := h.kb; omega) _ _, h.kb⟩
theorem ShM.grown {B K : Nat} {w : World} {o : Op0} {sl v v' u : Value} {l : List V} {x : V} {xs : List Value} {pos : Nat} {W W' : World} (h : ShM B K w o sl v l pos W)
  (hx : ∀ (j : Nat) (x : V), l[j]? = some x → ∃ u, xs[j]? = some u ∧ AnyV w u x) (hn : xs.length = l.length) (ho1 : W.ownsRow (B + 1) 20 1 v l.length xs)
  (ho : W'.ownsRow (B + 1) 20 1 v' (l.length + 1) (xs ++ [u])) (hu : AnyV w u x) (hb : Below (B + 1) W W') (hg : W.grownBy W' v.ownBlock) (hs : SameOrNew W v v') : ShM B K w o sl v' (l ++ [x]) pos W' := by
 have hk := (Array.getElem?_eq_some_iff.1 h.it).1
 have hkb := h.kb
 refine ⟨(hg.block K hk (fun e => h.ap K (by unfold ob; rw [Option.mem_toList]; exact e.symm) rfl)).trans h.it, (hb.block B (by omega)).trans h.bx, RowA.snoc hx hn ho hu, fun j hj => ?_, h.below.trans (hb.mono (by omega)), hkb⟩
 rcases (Chg.of_grown hg hs).2 j hj with h1 | h1
 ·exact h.ap j h1
 ·omega
set_option maxRecDepth 100000 in
set_option maxHeartbeats 6400000 in
theorem shape_any (o : Op0) (ok : o.Ok) (sl : Value) (w : World) (hd : Rd w 1 sl o.data.length (bV o.data)) :
  Calls Try.prog 82 #[.agg (oC o sl)] w fun e w' => ∃ v', e = .returned (.tuple #[.string (strB (shS (nm o.k))), v']) ∧ Below w.heap.size w w' ∧ RowA w.heap.size w w' v' (vals o (nm o.k)) := by
 have HD := Lib.hid hd
 have HOK := Lib.hid ok
 have hk1 := ok.k.1
 have hk2 := ok.k.2
 have HQ1 := Lib.hid ok.vol
 have HQ2 := Lib.hid ok.to
 obtain ⟨B, hB⟩ : ∃ B, w.heap.size = B := ⟨_, rfl⟩
 clear ok
 obtain ⟨ao, cap, rfl, _⟩ := hd
 have hoC : oC o (.slice ao o.data.length cap) = #[.int .i64 o.k, .int .u64 (o.vol : Int), .int .u64 (o.to : Int), .int .i64 o.size, .int .i64 o.pl, .int .i64 o.count, .slice ao o.data.length cap] := rfl
 have HOC := Lib.hid hoC
 rw [hoC]
 clear hoC
 have HBS : Hid (Below w.heap.size w ((w.alloc (.cells #[.int .i64 o.k, .int .u64 (o.vol : Int), .int .u64 (o.to : Int), .int .i64 o.size, .int .i64 o.pl, .int .i64 o.count, .slice ao o.data.length cap] 26)).alloc (.cells #[] 20))) := Lib.hid (balloc (balloc (Below.refl _ _) _) _)
 have HB0 : Hid (((w.alloc (.cells #[.int .i64 o.k, .int .u64 (o.vol : Int), .int .u64 (o.to : Int), .int .i64 o.size, .int .i64 o.pl, .int .i64 o.count, .slice ao o.data.length cap] 26)).alloc (.cells #[] 20)).heap[B]? = some (.cells (oC o (.slice ao o.data.length cap)) 26 (0, 0)) ∧
   ((w.alloc (.cells #[.int .i64 o.k, .int .u64 (o.vol : Int), .int .u64 (o.to : Int), .int .i64 o.size, .int .i64 o.pl, .int .i64 o.count, .slice ao o.data.length cap] 26)).alloc (.cells #[] 20)).ownsRow (B + 1) 20 1 (.slice (some ⟨B + 1, 0, none⟩) 0 0) 0 []) := Lib.hid (by
  subst hB
  refine ⟨?_, ?_⟩
  ·rw [Below.heap_alloc _ _ _ (by simp)]; exact heap_alloc_new w _
  ·have := World.ownsRow_made (base := w.heap.size + 1) (e := 20) (size := 1) (w.alloc (.cells #[.int .i64 o.k, .int .u64 (o.vol : Int), .int .u64 (o.to : Int), .int .i64 o.size, .int .i64 o.pl, .int .i64 o.count, .slice ao o.data.length cap] 26)) #[] 0 (by simp) (by decide) rfl
   rw [World.size_alloc] at this
   exact this)
 go_enter Try.func82, Try.ntmps82
 go_wp2_with fail
 refine (names_any _ _).mono ?_
 rintro e w1 ⟨rfl, hb1⟩
 obtain ⟨K, hK⟩ : ∃ K, w1.heap.size = K := ⟨_, rfl⟩
 have HI : Hid (ShM B K w o (.slice ao o.data.length cap) (.slice (some ⟨B + 1, 0, none⟩) 0 0) [] 0 (w1.iter (strB (nm o.k)) 0)) := Lib.hid (by
  have hs1 := hb1.size
  rw [World.size_alloc, World.size_alloc, hB] at hs1
  have hbi : Below w1.heap.size w1 (w1.iter (strB (nm o.k)) 0) := balloc (Below.refl _ _) _
  refine ⟨hK ▸ World.iter_heap w1 _ 0, ?_, ⟨[], ?_, fun j x hj => by simp at hj⟩, ?_, ?_, by omega⟩
  ·exact (hbi.block B (by omega)).trans ((hb1.block B (by rw [World.size_alloc, World.size_alloc, hB]; omega)).trans HB0.out.1)
  ·exact ownsRow_below (ownsRow_below HB0.out.2 hb1) hbi
  ·intro j hj; rw [ob_some] at hj; simp at hj; omega
  ·have := bthen (bthen HBS.out hb1) hbi
   rwa [hB] at this)
 clear hb1
 go_wp2_with fail
 generalize w1.iter (strB (nm o.k)) 0 = w2 at HI ⊢
 have HB := Lib.hid hB
 clear hB hK
 have hsz3 : (strB (nm o.k)).size ≤ 3 := by rw [str_size]; exact nm_len _
 have HL := Lib.hid (nm_low o.k)
 have HCS := Lib.hid (chs_str (nm o.k))
 have HSS := Lib.hid (str_size (nm o.k))
 generalize hs : strB (nm o.k) = s at *
 have HS := Lib.hid hs
 clear hs
 go_loopg [4, 5] s.size (fun g a l wr => ∃ (pos : Nat) (v' : Value), pos ≤ s.size ∧ g = s.size - pos ∧ a = .string (strB (shS ((nm o.k).take pos))) ∧ v' = l ∧ ShM B K w o (.slice ao o.data.length cap) v' (vals o ((nm o.k).take pos)) pos wr)
 case atStart => exact ⟨0, _, by omega, by omega, rfl, rfl, HI.out⟩
 case round =>
  obtain ⟨pos, v', hp, hg, rfl, rfl, hm⟩ := hrel
  have HG := Lib.hid hg
  have HM := Lib.hid hm
  have hit : wr.heap[K]? = some (.stringIter s pos) := by rw [← HS.out]; exact hm.it
  clear hg hm
  by_cases hlt : pos < s.size
  ·obtain ⟨c, hc⟩ : ∃ c, (s[pos]'hlt) = c := ⟨_, rfl⟩
   have hget : (nm o.k)[pos]? = some c := by
    have h1 := chs_get hlt
    rw [HCS.out, hc] at h1; exact h1
   have hlow : c.toNat < 128 := HL.out c (List.mem_of_getElem? hget)
   have hdec : Utf8.decode s pos = (c.toNat, 1) := by rw [← hc]; exact decode_ascii s pos hlt (by rw [hc]; exact hlow)
   have hnx := fun ty => Lib.run_next_any_at (P := Try.prog) wr K s pos ty hit hlt
   simp only [hdec] at hnx
   have HM2 : Hid (ShM B K w o (.slice ao o.data.length cap) v' (vals o ((nm o.k).take pos)) (pos + 1) (wr.iterAt K s (pos + 1))) := Lib.hid (by rw [← HS.out]; exact HM.out.next)
   obtain ⟨wr2, hwr2⟩ : ∃ W, wr.iterAt K s (pos + 1) = W := ⟨_, rfl⟩
   rw [hwr2] at hnx HM2
   have hbx2 := HM2.out.bx
   have c0 : wr2.cell? ⟨B, 0, none⟩ = some (.int .i64 o.k) := cellIs hbx2 rfl
   have c1 : wr2.cell? ⟨B, 1, none⟩ = some (.int .u64 (o.vol : Int)) := cellIs hbx2 rfl
   have c2 : wr2.cell? ⟨B, 2, none⟩ = some (.int .u64 (o.to : Int)) := cellIs hbx2 rfl
   have c3 : wr2.cell? ⟨B, 3, none⟩ = some (.int .i64 o.size) := cellIs hbx2 rfl
   have c4 : wr2.cell? ⟨B, 4, none⟩ = some (.int .i64 o.pl) := cellIs hbx2 rfl
   have c5 : wr2.cell? ⟨B, 5, none⟩ = some (.int .i64 o.count) := cellIs hbx2 rfl
   have c6 : wr2.cell? ⟨B, 6, none⟩ = some (.slice ao o.data.length cap) := cellIs hbx2 rfl
   have HGET := Lib.hid hget
   clear hwr2 hbx2 hit hdec hc
   by_cases h118 : (c.toNat : Int) = 118
   ·have g118 : ((c.toNat : Int) == 118) = true := beqI h118
    have hva : vaL (c.toNat : Int) o = num o.vol := by unfold vaL; simp [h118]
    have hsa : shL (c.toNat : Int) = 52 := by unfold shL; simp [h118]
    have hua := any_num w o.vol HQ1.out
    have hwz := u64_wrap o.size
    have hwp := u64_wrap o.pl
    have hwc := u64_wrap o.count
    have HU := Lib.hid hua
    obtain ⟨xs, ho, hx⟩ := HM2.out.row
    have hn1 : xs.length = (vals o ((nm o.k).take pos)).length := by have := ho.1; omega
    have HX := Lib.hid (And.intro hx (And.intro hn1 ho))
    have hbs2 : B + 1 ≤ wr2.heap.size := by have h1 := (Array.getElem?_eq_some_iff.1 HM2.out.it).1; have := HM2.out.kb; omega
    have hvl : ((vals o ((nm o.k).take pos)).length + 1) * 16 ≤ 140737488355328 := by
     have : (vals o ((nm o.k).take pos)).length ≤ 3 := by unfold vals; rw [List.length_map, List.length_take]; have := HSS.out; omega
     omega
    have HVS : Hid (vals o ((nm o.k).take (pos + 1)) = vals o ((nm o.k).take pos) ++ [vaL (c.toNat : Int) o]) := Lib.hid (by rw [List.take_add_one, HGET.out]; exact vals_snoc _ _ _)
    have HSH : Hid (strB (shS ((nm o.k).take (pos + 1))) = strB (shS ((nm o.k).take pos)) ++ ⟨#[shL (c.toNat : Int)]⟩) := Lib.hid (by rw [List.take_add_one, HGET.out, ← strB_snoc]; exact congrArg strB (shS_snoc _ _))
    rw [hva] at HVS
    rw [hsa] at HSH
    have hssz : (strB (shS ((nm o.k).take pos))).size ≤ 3 := by rw [str_size]; unfold shS; rw [List.length_map, List.length_take]; have := HSS.out; omega
    clear hx hn1 hget hua hva hsa
    generalize strB (shS ((nm o.k).take pos)) = sa at *
    generalize vals o ((nm o.k).take pos) = vs at *
    go_wp2_with (at_builtin; go_must (refine wpList_app rfl _ _ 126 rfl (B + 1) 20 _ 1 16 Try.underlying126 infoAny rfl (by decide) (by decide) v' vs.length xs rfl ho rfl rfl (by simp [Value.oneCell']) hvl hbs2 ?_); intro v5 w5 ho5 hb5 hg5 hs5 hn5)
    have HM5 := Lib.hid (HM2.out.grown HX.out.1 HX.out.2.1 HX.out.2.2 ho5 HU.out hb5 hg5 hs5)
    clear ho5 hb5 hg5 hs5 hn5 ho
    go_wp2_with fail
    go_roundg (s.size - (pos + 1))
    case rel => exact ⟨pos + 1, v5, by omega, rfl, by rw [HSH.out], rfl, by rw [HVS.out]; exact HM5.out⟩
    case measure => have := HG.out; omega
   by_cases h116 : (c.toNat : Int) = 116
   ·have g116 : ((c.toNat : Int) == 116) = true := beqI h116
    have g118 : ((c.toNat : Int) == 118) = false := bneI h118
    have hva : vaL (c.toNat : Int) o = num o.to := by unfold vaL; simp [h116]
    have hsa : shL (c.toNat : Int) = 52 := by unfold shL; simp [h116]
    have hua := any_num w o.to HQ2.out
    have hwz := u64_wrap o.size
    have hwp := u64_wrap o.pl
    have hwc := u64_wrap o.count
    have HU := Lib.hid hua
    obtain ⟨xs, ho, hx⟩ := HM2.out.row
    have hn1 : xs.length = (vals o ((nm o.k).take pos)).length := by have := ho.1; omega
    have HX := Lib.hid (And.intro hx (And.intro hn1 ho))
    have hbs2 : B + 1 ≤ wr2.heap.size := by have h1 := (Array.getElem?_eq_some_iff.1 HM2.out.it).1; have := HM2.out.kb; omega
    have hvl : ((vals o ((nm o.k).take pos)).length + 1) * 16 ≤ 140737488355328 := by
     have : (vals o ((nm o.k).take pos)).length ≤ 3 := by unfold vals; rw [List.length_map, List.length_take]; have := HSS.out; omega
     omega
    have HVS : Hid (vals o ((nm o.k).take (pos + 1)) = vals o ((nm o.k).take pos) ++ [vaL (c.toNat : Int) o]) := Lib.hid (by rw [List.take_add_one, HGET.out]; exact vals_snoc _ _ _)
    have HSH : Hid (strB (shS ((nm o.k).take (pos + 1))) = strB (shS ((nm o.k).take pos)) ++ ⟨#[shL (c.toNat : Int)]⟩) := Lib.hid (by rw [List.take_add_one, HGET.out, ← strB_snoc]; exact congrArg strB (shS_snoc _ _))
    rw [hva] at HVS
    rw [hsa] at HSH
    have hssz : (strB (shS ((nm o.k).take pos))).size ≤ 3 := by rw [str_size]; unfold shS; rw [List.length_map, List.length_take]; have := HSS.out; omega
    clear hx hn1 hget hua hva hsa
    generalize strB (shS ((nm o.k).take pos)) = sa at *
    generalize vals o ((nm o.k).take pos) = vs at *
    go_wp2_with (at_builtin; go_must (refine wpList_app rfl _ _ 126 rfl (B + 1) 20 _ 1 16 Try.underlying126 infoAny rfl (by decide) (by decide) v' vs.length xs rfl ho rfl rfl (by simp [Value.oneCell']) hvl hbs2 ?_); intro v5 w5 ho5 hb5 hg5 hs5 hn5)
    have HM5 := Lib.hid (HM2.out.grown HX.out.1 HX.out.2.1 HX.out.2.2 ho5 HU.out hb5 hg5 hs5)
    clear ho5 hb5 hg5 hs5 hn5 ho
    go_wp2_with fail
    go_roundg (s.size - (pos + 1))
    case rel => exact ⟨pos + 1, v5, by omega, rfl, by rw [HSH.out], rfl, by rw [HVS.out]; exact HM5.out⟩
    case measure => have := HG.out; omega
   by_cases h115 : (c.toNat : Int) = 115
   ·have g115 : ((c.toNat : Int) == 115) = true := beqI h115
    have g118 : ((c.toNat : Int) == 118) = false := bneI h118
    have g116 : ((c.toNat : Int) == 116) = false := bneI h116
    have hva : vaL (c.toNat : Int) o = num (toU o.size) := by unfold vaL; simp [h115]
    have hsa : shL (c.toNat : Int) = 52 := by unfold shL; simp [h115]
    have hua := any_num w _ (u64_lt o.size)
    have hwz := u64_wrap o.size
    have hwp := u64_wrap o.pl
    have hwc := u64_wrap o.count
    have HU := Lib.hid hua
    obtain ⟨xs, ho, hx⟩ := HM2.out.row
    have hn1 : xs.length = (vals o ((nm o.k).take pos)).length := by have := ho.1; omega
    have HX := Lib.hid (And.intro hx (And.intro hn1 ho))
    have hbs2 : B + 1 ≤ wr2.heap.size := by have h1 := (Array.getElem?_eq_some_iff.1 HM2.out.it).1; have := HM2.out.kb; omega
    have hvl : ((vals o ((nm o.k).take pos)).length + 1) * 16 ≤ 140737488355328 := by
     have : (vals o ((nm o.k).take pos)).length ≤ 3 := by unfold vals; rw [List.length_map, List.length_take]; have := HSS.out; omega
     omega
    have HVS : Hid (vals o ((nm o.k).take (pos + 1)) = vals o ((nm o.k).take pos) ++ [vaL (c.toNat : Int) o]) := Lib.hid (by rw [List.take_add_one, HGET.out]; exact vals_snoc _ _ _)
    have HSH : Hid (strB (shS ((nm o.k).take (pos + 1))) = strB (shS ((nm o.k).take pos)) ++ ⟨#[shL (c.toNat : Int)]⟩) := Lib.hid (by rw [List.take_add_one, HGET.out, ← strB_snoc]; exact congrArg strB (shS_snoc _ _))
    rw [hva] at HVS
    rw [hsa] at HSH
    have hssz : (strB (shS ((nm o.k).take pos))).size ≤ 3 := by rw [str_size]; unfold shS; rw [List.length_map, List.length_take]; have := HSS.out; omega
    clear hx hn1 hget hua hva hsa
    generalize strB (shS ((nm o.k).take pos)) = sa at *
    generalize vals o ((nm o.k).take pos) = vs at *
    go_wp2_with (at_builtin; go_must (refine wpList_app rfl _ _ 126 rfl (B + 1) 20 _ 1 16 Try.underlying126 infoAny rfl (by decide) (by decide) v' vs.length xs rfl ho rfl rfl (by simp [Value.oneCell']) hvl hbs2 ?_); intro v5 w5 ho5 hb5 hg5 hs5 hn5)
    have HM5 := Lib.hid (HM2.out.grown HX.out.1 HX.out.2.1 HX.out.2.2 ho5 HU.out hb5 hg5 hs5)
    clear ho5 hb5 hg5 hs5 hn5 ho
    go_wp2_with fail
    go_roundg (s.size - (pos + 1))
    case rel => exact ⟨pos + 1, v5, by omega, rfl, by rw [HSH.out], rfl, by rw [HVS.out]; exact HM5.out⟩
    case measure => have := HG.out; omega
   by_cases h97 : (c.toNat : Int) = 97
   ·have g97 : ((c.toNat : Int) == 97) = true := beqI h97
    have g118 : ((c.toNat : Int) == 118) = false := bneI h118
    have g116 : ((c.toNat : Int) == 116) = false := bneI h116
    have g115 : ((c.toNat : Int) == 115) = false := bneI h115
    have hva : vaL (c.toNat : Int) o = num (toU o.pl) := by unfold vaL; simp [h97]
    have hsa : shL (c.toNat : Int) = 52 := by unfold shL; simp [h97]
    have hua := any_num w _ (u64_lt o.pl)
    have hwz := u64_wrap o.size
    have hwp := u64_wrap o.pl
    have hwc := u64_wrap o.count
    have HU := Lib.hid hua
    obtain ⟨xs, ho, hx⟩ := HM2.out.row
    have hn1 : xs.length = (vals o ((nm o.k).take pos)).length := by have := ho.1; omega
    have HX := Lib.hid (And.intro hx (And.intro hn1 ho))
    have hbs2 : B + 1 ≤ wr2.heap.size := by have h1 := (Array.getElem?_eq_some_iff.1 HM2.out.it).1; have := HM2.out.kb; omega
    have hvl : ((vals o ((nm o.k).take pos)).length + 1) * 16 ≤ 140737488355328 := by
     have : (vals o ((nm o.k).take pos)).length ≤ 3 := by unfold vals; rw [List.length_map, List.length_take]; have := HSS.out; omega
     omega
    have HVS : Hid (vals o ((nm o.k).take (pos + 1)) = vals o ((nm o.k).take pos) ++ [vaL (c.toNat : Int) o]) := Lib.hid (by rw [List.take_add_one, HGET.out]; exact vals_snoc _ _ _)
    have HSH : Hid (strB (shS ((nm o.k).take (pos + 1))) = strB (shS ((nm o.k).take pos)) ++ ⟨#[shL (c.toNat : Int)]⟩) := Lib.hid (by rw [List.take_add_one, HGET.out, ← strB_snoc]; exact congrArg strB (shS_snoc _ _))
    rw [hva] at HVS
    rw [hsa] at HSH
    have hssz : (strB (shS ((nm o.k).take pos))).size ≤ 3 := by rw [str_size]; unfold shS; rw [List.length_map, List.length_take]; have := HSS.out; omega
    clear hx hn1 hget hua hva hsa
    generalize strB (shS ((nm o.k).take pos)) = sa at *
    generalize vals o ((nm o.k).take pos) = vs at *
    go_wp2_with (at_builtin; go_must (refine wpList_app rfl _ _ 126 rfl (B + 1) 20 _ 1 16 Try.underlying126 infoAny rfl (by decide) (by decide) v' vs.length xs rfl ho rfl rfl (by simp [Value.oneCell']) hvl hbs2 ?_); intro v5 w5 ho5 hb5 hg5 hs5 hn5)
    have HM5 := Lib.hid (HM2.out.grown HX.out.1 HX.out.2.1 HX.out.2.2 ho5 HU.out hb5 hg5 hs5)
    clear ho5 hb5 hg5 hs5 hn5 ho
    go_wp2_with fail
    go_roundg (s.size - (pos + 1))
    case rel => exact ⟨pos + 1, v5, by omega, rfl, by rw [HSH.out], rfl, by rw [HVS.out]; exact HM5.out⟩
    case measure => have := HG.out; omega
   by_cases h99 : (c.toNat : Int) = 99
   ·have g99 : ((c.toNat : Int) == 99) = true := beqI h99
    have g118 : ((c.toNat : Int) == 118) = false := bneI h118
    have g116 : ((c.toNat : Int) == 116) = false := bneI h116
    have g115 : ((c.toNat : Int) == 115) = false := bneI h115
    have g97 : ((c.toNat : Int) == 97) = false := bneI h97
    have hva : vaL (c.toNat : Int) o = num (toU o.count) := by unfold vaL; simp [h99]
    have hsa : shL (c.toNat : Int) = 52 := by unfold shL; simp [h99]
    have hua := any_num w _ (u64_lt o.count)
    have hwz := u64_wrap o.size
    have hwp := u64_wrap o.pl
    have hwc := u64_wrap o.count
    have HU := Lib.hid hua
    obtain ⟨xs, ho, hx⟩ := HM2.out.row
    have hn1 : xs.length = (vals o ((nm o.k).take pos)).length := by have := ho.1; omega
    have HX := Lib.hid (And.intro hx (And.intro hn1 ho))
    have hbs2 : B + 1 ≤ wr2.heap.size := by have h1 := (Array.getElem?_eq_some_iff.1 HM2.out.it).1; have := HM2.out.kb; omega
    have hvl : ((vals o ((nm o.k).take pos)).length + 1) * 16 ≤ 140737488355328 := by
     have : (vals o ((nm o.k).take pos)).length ≤ 3 := by unfold vals; rw [List.length_map, List.length_take]; have := HSS.out; omega
     omega
    have HVS : Hid (vals o ((nm o.k).take (pos + 1)) = vals o ((nm o.k).take pos) ++ [vaL (c.toNat : Int) o]) := Lib.hid (by rw [List.take_add_one, HGET.out]; exact vals_snoc _ _ _)
    have HSH : Hid (strB (shS ((nm o.k).take (pos + 1))) = strB (shS ((nm o.k).take pos)) ++ ⟨#[shL (c.toNat : Int)]⟩) := Lib.hid (by rw [List.take_add_one, HGET.out, ← strB_snoc]; exact congrArg strB (shS_snoc _ _))
    rw [hva] at HVS
    rw [hsa] at HSH
    have hssz : (strB (shS ((nm o.k).take pos))).size ≤ 3 := by rw [str_size]; unfold shS; rw [List.length_map, List.length_take]; have := HSS.out; omega
    clear hx hn1 hget hua hva hsa
    generalize strB (shS ((nm o.k).take pos)) = sa at *
    generalize vals o ((nm o.k).take pos) = vs at *
    go_wp2_with (at_builtin; go_must (refine wpList_app rfl _ _ 126 rfl (B + 1) 20 _ 1 16 Try.underlying126 infoAny rfl (by decide) (by decide) v' vs.length xs rfl ho rfl rfl (by simp [Value.oneCell']) hvl hbs2 ?_); intro v5 w5 ho5 hb5 hg5 hs5 hn5)
    have HM5 := Lib.hid (HM2.out.grown HX.out.1 HX.out.2.1 HX.out.2.2 ho5 HU.out hb5 hg5 hs5)
    clear ho5 hb5 hg5 hs5 hn5 ho
    go_wp2_with fail
    go_roundg (s.size - (pos + 1))
    case rel => exact ⟨pos + 1, v5, by omega, rfl, by rw [HSH.out], rfl, by rw [HVS.out]; exact HM5.out⟩
    case measure => have := HG.out; omega
   have g118 : ((c.toNat : Int) == 118) = false := bneI h118
   have g116 : ((c.toNat : Int) == 116) = false := bneI h116
   have g115 : ((c.toNat : Int) == 115) = false := bneI h115
   have g97 : ((c.toNat : Int) == 97) = false := bneI h97
   have g99 : ((c.toNat : Int) == 99) = false := bneI h99
   have hva : vaL (c.toNat : Int) o = blob o.data := by unfold vaL; simp [h118, h116, h115, h97, h99]
   have hsa : shL (c.toNat : Int) = 42 := by unfold shL; simp [h118, h116, h115, h97, h99]
   have hua := any_blob w _ o.data HD.out
   have HU := Lib.hid hua
   obtain ⟨xs, ho, hx⟩ := HM2.out.row
   have hn1 : xs.length = (vals o ((nm o.k).take pos)).length := by have := ho.1; omega
   have HX := Lib.hid (And.intro hx (And.intro hn1 ho))
   have hbs2 : B + 1 ≤ wr2.heap.size := by have h1 := (Array.getElem?_eq_some_iff.1 HM2.out.it).1; have := HM2.out.kb; omega
   have hvl : ((vals o ((nm o.k).take pos)).length + 1) * 16 ≤ 140737488355328 := by
    have : (vals o ((nm o.k).take pos)).length ≤ 3 := by unfold vals; rw [List.length_map, List.length_take]; have := HSS.out; omega
    omega
   have HVS : Hid (vals o ((nm o.k).take (pos + 1)) = vals o ((nm o.k).take pos) ++ [vaL (c.toNat : Int) o]) := Lib.hid (by rw [List.take_add_one, HGET.out]; exact vals_snoc _ _ _)
   have HSH : Hid (strB (shS ((nm o.k).take (pos + 1))) = strB (shS ((nm o.k).take pos)) ++ ⟨#[shL (c.toNat : Int)]⟩) := Lib.hid (by rw [List.take_add_one, HGET.out, ← strB_snoc]; exact congrArg strB (shS_snoc _ _))
   rw [hva] at HVS
   rw [hsa] at HSH
   have hssz : (strB (shS ((nm o.k).take pos))).size ≤ 3 := by rw [str_size]; unfold shS; rw [List.length_map, List.length_take]; have := HSS.out; omega
   clear hx hn1 hget hua hva hsa
   generalize strB (shS ((nm o.k).take pos)) = sa at *
   generalize vals o ((nm o.k).take pos) = vs at *
   go_wp2_with (at_builtin; go_must (refine wpList_app rfl _ _ 126 rfl (B + 1) 20 _ 1 16 Try.underlying126 infoAny rfl (by decide) (by decide) v' vs.length xs rfl ho rfl rfl (by simp [Value.oneCell']) hvl hbs2 ?_); intro v5 w5 ho5 hb5 hg5 hs5 hn5)
   have HM5 := Lib.hid (HM2.out.grown HX.out.1 HX.out.2.1 HX.out.2.2 ho5 HU.out hb5 hg5 hs5)
   clear ho5 hb5 hg5 hs5 hn5 ho
   go_wp2_with fail
   go_roundg (s.size - (pos + 1))
   case rel => exact ⟨pos + 1, v5, by omega, rfl, by rw [HSH.out], rfl, by rw [HVS.out]; exact HM5.out⟩
   case measure => have := HG.out; omega
  ·obtain rfl : pos = s.size := by omega
   have hnx := fun ty => Lib.run_next_end_at (P := Try.prog) wr K s s.size ty hit (by omega)
   have htk : (nm o.k).take s.size = nm o.k := List.take_of_length_le (by rw [HSS.out]; exact Nat.le_refl _)
   have HR : Hid (RowA w.heap.size w wr v' (vals o (nm o.k))) := Lib.hid (by
    obtain ⟨xs, ho, hx⟩ := HM.out.row
    rw [htk] at ho hx
    exact ⟨xs, ownsRow_base ho (by rw [HB.out]; omega), hx⟩)
   rw [htk]
   clear htk hit
   obtain ⟨sa, hsa⟩ : ∃ sa, strB (shS (nm o.k)) = sa := ⟨_, rfl⟩
   rw [hsa]
   have HSA := Lib.hid hsa
   clear hsa
   go_wp2_with fail
   go_ret2
   exact ⟨_, by rw [HSA.out]; rfl, by rw [HB.out]; exact HM.out.below, HR.out⟩
end Go.Proofs.Ytgkelbdgdhkeoaa
/- What clients ask: Bytes, walked. -/
namespace Go.Proofs.Ytgkelbdgdhkeoaa
open Go.RowKit
set_option linter.unusedVariables false
set_option linter.unusedSimpArgs false
open Wire Cmd
theorem AnyV.one {w : World} {u : Value} {x : V} (h : AnyV w u x) : u.oneCell' = true := by
 rcases h with ⟨_, rfl, _⟩ | ⟨_, rfl⟩ | ⟨_, sl, rfl, _⟩ | ⟨_, rfl, _⟩ | ⟨_, _, _, _, h⟩
 ·rfl
 ·rfl
 ·rfl
 ·rfl
 ·rcases h with ⟨n, rfl⟩ | rfl <;> rfl
theorem row_one {w : World} {l : List V} {xs : List Value} (hn : xs.length = l.length) (hx : ∀ (j : Nat) (x : V), l[j]? = some x → ∃ u, xs[j]? = some u ∧ AnyV w u x) : ∀ u ∈ xs, u.oneCell' = true := by
 intro u hu
 obtain ⟨j, hj⟩ := List.mem_iff_getElem?.1 hu
 have hjl : j < l.length := by rw [← hn]; exact (List.getElem?_eq_some_iff.1 hj).1
 obtain ⟨z, h1, h2⟩ := hx j _ (List.getElem?_eq_getElem hjl)
 rw [hj] at h1
 obtain rfl := Option.some.inj h1
 exact h2.one
theorem row_cons {w : World} {l : List V} {xs : List Value} {u : Value} {x : V} (hu : AnyV w u x) (hx : ∀ (j : Nat) (x : V), l[j]? = some x → ∃ u, xs[j]? = some u ∧ AnyV w u x) : ∀ (j : Nat) (y : V), (x :: l)[j]? = some y → ∃ z, (u :: xs)[j]? = some z ∧ AnyV w z y := by
 intro j y hj
 cases j with
 | zero => simp at hj; subst hj; exact ⟨u, rfl, hu⟩
 | succ j => exact hx j y (by simpa using hj)
theorem anysA {w W : World} {B : Nat} {v : Value} {l : List V} {xs : List Value} (ho : W.ownsRow B 20 1 v l.length xs) (hx : ∀ (j : Nat) (x : V), l[j]? = some x → ∃ u, xs[j]? = some u ∧ AnyV w u x) (hb : Below w.heap.size w W) :
  ∃ ao cap, v = .slice ao l.length cap ∧ (ao = none → cap = 0) ∧ Anys W ao l.length cap l := by
 obtain ⟨ao, cap, rfl, _, _, ⟨hn, h1, h2⟩, hc⟩ := Rd.of_own ho
 refine ⟨ao, cap, rfl, hn, rfl, h1, h2, fun j x hj => ?_⟩
 obtain ⟨u, hu, ha⟩ := hx j x hj
 obtain ⟨b, off, e, hbl, hce⟩ := hc j u hu
 exact ⟨b, off, u, e, hbl, hce, ha.below hb⟩
theorem vals_blen (o : Op0) (l : List UInt8) : ∀ v ∈ vals o l, v.b.length ≤ o.data.length := by
 intro v hv
 obtain ⟨c, _, rfl⟩ := List.mem_map.1 hv
 unfold vaL
 (repeat' split) <;> first | exact Nat.zero_le _ | exact Nat.le_refl _
theorem str_cons (l : List UInt8) (c : UInt8) : (⟨#[c]⟩ : ByteArray) ++ strB l = strB (c :: l) := by simp [strB, ByteArray.ext_iff]
set_option maxRecDepth 100000 in
set_option maxHeartbeats 6400000 in
theorem bytes_any (o : Op0) (ok : o.Ok) (sl : Value) (w : World) (hd : Rd w 1 sl o.data.length (bV o.data)) (hl : o.data.length ≤ 1000000) :
  Calls Try.prog 19 #[.agg (oC o sl)] w (PackP w (packO o)) := by
 have HD := Lib.hid hd
 have HOK := Lib.hid ok
 clear ok
 obtain ⟨ao, cap, rfl, _⟩ := hd
 have hoC : oC o (.slice ao o.data.length cap) = #[.int .i64 o.k, .int .u64 (o.vol : Int), .int .u64 (o.to : Int), .int .i64 o.size, .int .i64 o.pl, .int .i64 o.count, .slice ao o.data.length cap] := rfl
 have HOC := Lib.hid hoC
 have hb0 : Below w.heap.size w (w.alloc (.cells #[.int .i64 o.k, .int .u64 (o.vol : Int), .int .u64 (o.to : Int), .int .i64 o.size, .int .i64 o.pl, .int .i64 o.count, .slice ao o.data.length cap] 26)) := balloc (Below.refl _ _) _
 have HB0 := Lib.hid hb0
 have hbx0 : (w.alloc (.cells #[.int .i64 o.k, .int .u64 (o.vol : Int), .int .u64 (o.to : Int), .int .i64 o.size, .int .i64 o.pl, .int .i64 o.count, .slice ao o.data.length cap] 26)).heap[w.heap.size]? = some (.cells #[.int .i64 o.k, .int .u64 (o.vol : Int), .int .u64 (o.to : Int), .int .i64 o.size, .int .i64 o.pl, .int .i64 o.count, .slice ao o.data.length cap] 26 (0, 0)) := heap_alloc_new w _
 have HBX0 := Lib.hid hbx0
 have CM := mayO_any o HOK.out (.slice ao o.data.length cap) _ (HD.out.below hb0)
 have CS := fun W (hW : Below w.heap.size w W) => shape_any o HOK.out (.slice ao o.data.length cap) W (HD.out.below hW)
 rw [HOC.out] at CM CS
 rw [hoC]
 have HCS := Lib.hid CS
 clear hoC CS hb0 hbx0
 have hk1 := HOK.out.k.1
 have hk2 := HOK.out.k.2
 cases hmay : mayO o with
 | false =>
  have HE : Hid (packO o = none) := Lib.hid (by unfold packO; rw [hmay]; rfl)
  rw [hmay] at CM
  clear hmay
  go_enter Try.func19, Try.ntmps19
  go_wp2_with fail
  refine CM.mono ?_
  rintro e w1 ⟨rfl, hb1⟩
  have HB1 := Lib.hid (bthen HB0.out hb1)
  clear hb1 CM
  go_wp2_with fail
  go_ret2
  exact PackP.none_of HE.out rfl HB1.out
 | true =>
  have HE : Hid (packO o = pack (49 :: shS (nm o.k)) (num (toU o.k) :: vals o (nm o.k))) := Lib.hid (by unfold packO; rw [hmay, if_pos rfl])
  rw [hmay] at CM
  clear hmay
  go_enter Try.func19, Try.ntmps19
  go_wp2_with fail
  refine CM.mono ?_
  rintro e w1 ⟨rfl, hb1⟩
  have HB1 := Lib.hid (bthen HB0.out hb1)
  have hbx1 := (hb1.block w.heap.size (by simp)).trans HBX0.out
  have HBX1 := Lib.hid hbx1
  clear hb1 CM
  have c0 : w1.cell? ⟨w.heap.size, 0, none⟩ = some (.int .i64 o.k) := cellIs hbx1 rfl
  have c1 : w1.cell? ⟨w.heap.size, 1, none⟩ = some (.int .u64 (o.vol : Int)) := cellIs hbx1 rfl
  have c2 : w1.cell? ⟨w.heap.size, 2, none⟩ = some (.int .u64 (o.to : Int)) := cellIs hbx1 rfl
  have c3 : w1.cell? ⟨w.heap.size, 3, none⟩ = some (.int .i64 o.size) := cellIs hbx1 rfl
  have c4 : w1.cell? ⟨w.heap.size, 4, none⟩ = some (.int .i64 o.pl) := cellIs hbx1 rfl
  have c5 : w1.cell? ⟨w.heap.size, 5, none⟩ = some (.int .i64 o.count) := cellIs hbx1 rfl
  have c6 : w1.cell? ⟨w.heap.size, 6, none⟩ = some (.slice ao o.data.length cap) := cellIs hbx1 rfl
  have hlt1 : w.heap.size < w1.heap.size := (Array.getElem?_eq_some_iff.1 hbx1).1
  clear hbx1
  go_wp2_with fail
  refine (HCS.out w1 HB1.out).mono ?_
  rintro e w2 ⟨v2, rfl, hb2, hrow⟩
  have HB2 := Lib.hid (bthen HB1.out hb2)
  have HB12 := Lib.hid hb2
  have hbx2 := (hb2.block w.heap.size hlt1).trans HBX1.out
  have d0 : w2.cell? ⟨w.heap.size, 0, none⟩ = some (.int .i64 o.k) := cellIs hbx2 rfl
  obtain ⟨xs, ho, hx⟩ := hrow
  obtain ⟨aov, capv, rfl, _, _, _, _⟩ := Rd.of_own ho
  have hn1 : xs.length = (vals o (nm o.k)).length := by have := ho.1; omega
  have hvl3 : (vals o (nm o.k)).length ≤ 3 := by unfold vals; rw [List.length_map]; exact nm_len _
  have HX := Lib.hid (And.intro hx (And.intro hn1 (row_one hn1 hx)))
  have HOO := Lib.hid ho
  have hssz : (strB (shS (nm o.k))).size ≤ 3 := by rw [str_size]; unfold shS; rw [List.length_map]; exact nm_len _
  have hwk := u64_wrap o.k
  obtain ⟨sa, hsa⟩ : ∃ sa, strB (shS (nm o.k)) = sa := ⟨_, rfl⟩
  rw [hsa] at hssz
  rw [hsa]
  have HSA := Lib.hid hsa
  obtain ⟨nv, hnv⟩ : ∃ nv, (vals o (nm o.k)).length = nv := ⟨_, rfl⟩
  rw [hnv] at hvl3 ho hn1
  rw [hnv]
  have HNV := Lib.hid hnv
  clear hb2 hbx2 hx hsa c0 c1 c2 c3 c4 c5 c6 hlt1 hnv hn1
  have hlit := World.ownsRow_lit (base := w2.heap.size) (e := 20) (size := 1) w2 #[.iface 23 (.int .u64 ((toU o.k : Nat) : Int))] 1 (Nat.le_refl _) (by decide) rfl
  have HLIT := Lib.hid hlit
  have hrd := (Rd.of_own ho).below (balloc (Below.refl _ w2) (.cells #[.iface 23 (.int .u64 ((toU o.k : Nat) : Int))] 20))
  have HRD := Lib.hid hrd
  clear hlit hrd ho
  go_wp2_with (at_builtin; go_must (refine wpList_apps rfl _ _ 126 rfl w2.heap.size 20 _ 1 16 Try.underlying126 infoAny rfl (by decide) (by decide) (.slice (some ⟨w2.heap.size, 0, none⟩) 1 1) 1 _ rfl HLIT.out (.slice aov nv capv) nv xs rfl HRD.out HX.out.2.2 (by omega) (by simp) ?_); intro v5 w5 ho5 hb5 hg5 hs5 hn5)
  have hb25 : Below w2.heap.size w2 w5 := (balloc (Below.refl _ w2) _).trans hb5
  have HB15 := Lib.hid (bthen HB12.out hb25)
  have HB5 := Lib.hid (bthen HB2.out hb25)
  have hlen : (num (toU o.k) :: vals o (nm o.k)).length = 1 + nv := by rw [List.length_cons, HNV.out]; omega
  have hrow : w5.ownsRow w2.heap.size 20 1 v5 (num (toU o.k) :: vals o (nm o.k)).length (.iface 23 (.int .u64 ((toU o.k : Nat) : Int)) :: xs) := by rw [hlen]; exact ho5
  obtain ⟨ao5, cap5, rfl, hn5', hany⟩ := anysA hrow (row_cons (any_num w1 _ (u64_lt o.k)) HX.out.1) HB15.out
  have hchs : chs ((⟨#[49]⟩ : ByteArray) ++ sa) = 49 :: shS (nm o.k) := by rw [← HSA.out, str_cons, chs_str]
  have hsz : ((⟨#[49]⟩ : ByteArray) ++ sa).size ≤ 4 := by rw [ByteArray.size_append]; show 1 + sa.size ≤ 4; omega
  have CP := pack_any ((⟨#[49]⟩ : ByteArray) ++ sa) hany o.data.length (fun v hv => by
   rcases List.mem_cons.1 hv with rfl | hv
   ·exact Nat.zero_le _
   ·exact vals_blen o _ v hv) (by omega) (by
    have : ((⟨#[49]⟩ : ByteArray) ++ sa).size * (o.data.length + 260) ≤ 4 * 1000260 := Nat.mul_le_mul hsz (by omega)
    omega) hn5'
  rw [hchs, ← HE.out] at CP
  rw [hlen] at CP
  rw [hlen]
  have HCP := Lib.hid CP
  clear ho5 hb5 hg5 hs5 hn5 hn5' hrow hany hchs hsz CP hlen hb25 hwk d0
  go_wp2_with fail
  refine HCP.out.mono ?_
  rintro e w6 ⟨hb6, hP⟩
  have HB6 := Lib.hid (bthen HB5.out hb6)
  clear hb6
  cases hq : packO o with
  | none =>
   rw [hq] at hP
   obtain rfl := hP
   have HQ := Lib.hid hq
   clear hq
   go_wp2_with fail
   go_ret2
   exact PackP.none_of HQ.out rfl HB6.out
  | some bs =>
   rw [hq] at hP
   obtain ⟨v6, rfl, ho6⟩ := hP
   have HO6 : Hid (w6.ownsRow w.heap.size 5 1 v6 bs.length (bV bs)) := Lib.hid (ownsRow_base ho6 HB5.out.size)
   have HQ := Lib.hid hq
   clear hq ho6
   go_wp2_with fail
   go_ret2
   exact PackP.some_of HQ.out rfl HO6.out HB6.out
end Go.Proofs.Ytgkelbdgdhkeoaa
/- The reference's shape and value, walked. -/
namespace Go.Proofs.Ytgkelbdgdhkeoaa
open Go.RowKit
set_option linter.unusedVariables false
set_option linter.unusedSimpArgs false
open Wire Cmd
theorem nm_shape (k : Int) : ∀ c ∈ nm k, (c = 100 → shL (c.toNat : Int) = 42) ∧ (c ≠ 100 → shL (c.toNat : Int) = 52) := by unfold nm; (repeat' split) <;> decide
set_option maxRecDepth 100000 in
set_option maxHeartbeats 3200000 in
theorem rshape_any (k : Int) (w : World) : Calls Try.prog 94 #[.int .i64 k] w fun e w' => e = .returned (.string (strB (shS (nm k)))) ∧ w = w' := by
 have CN := rnames_any k w
 have hcs : chs (strB (nm k)) = nm k := by simp [chs, strB]
 have hsz : (strB (nm k)).size ≤ 3 := by rw [← chs_len]; simp only [chs, strB]; simpa using nm_len k
 have HCS := Lib.hid hcs
 have HNS := Lib.hid (nm_shape k)
 clear hcs
 generalize hs : strB (nm k) = s at *
 clear hs
 go_enter Try.func94, Try.ntmps94
 go_wp2_with fail
 go_loop [3, 4] (fun t i => ∃ p : Nat, p ≤ s.size ∧ t = .string (strB (shS ((nm k).take p))) ∧ i = .int .i64 (p : Int)) (fun t i => s.size - (intOf i).toNat)
 case atStart => exact ⟨0, by omega, rfl, rfl⟩
 case round =>
  obtain ⟨p, hp, rfl, rfl⟩ := hrel
  by_cases hlt : p < s.size
  ·have hget := chs_get hlt
   rw [HCS.out] at hget
   have hmem := List.mem_of_getElem? hget
   have HT : Hid (shS ((nm k).take (p + 1)) = shS ((nm k).take p) ++ [shL (((s[p]'hlt)).toNat : Int)]) := Lib.hid (by
    rw [List.take_add_one, hget]; exact shS_snoc _ _)
   obtain ⟨q1, q2⟩ := HNS.out _ hmem
   clear hget hmem
   have hXl : (strB (shS ((nm k).take p))).size ≤ 3 := by
    rw [str_size]; unfold shS; rw [List.length_map, List.length_take]; exact Nat.le_trans (Nat.min_le_right _ _) (nm_len k)
   generalize hX : strB (shS ((nm k).take p)) = X at *
   go_wp2_with fail
   refine CN.mono ?_
   rintro e w1 ⟨rfl, rfl⟩
   go_wp2_with fail
   refine CN.mono ?_
   rintro e w1 ⟨rfl, rfl⟩
   by_cases hc : (s[p]'hlt) = 100
   ·have hq : (((s[p]'hlt).toNat : Int) == 100) = true := by rw [hc]; rfl
    have HX : Hid (X ++ ⟨#[42]⟩ = strB (shS ((nm k).take (p + 1)))) := Lib.hid (by rw [HT.out, q1 hc, strB_snoc, hX])
    clear hc q1 q2 hX
    go_wp2_with fail
    go_round
    case rel => exact ⟨p + 1, by omega, by rw [← HX.out], by go_num⟩
    case measure => simp [intOf] <;> omega
   ·have hq : (((s[p]'hlt).toNat : Int) == 100) = false := by
     rw [beq_eq_false_iff_ne]; intro h; exact hc (UInt8.toNat_inj.1 (by have : (100 : UInt8).toNat = 100 := rfl; omega))
    have HX : Hid (X ++ ⟨#[52]⟩ = strB (shS ((nm k).take (p + 1)))) := Lib.hid (by rw [HT.out, q2 hc, strB_snoc, hX])
    clear hc q1 q2 hX
    go_wp2_with fail
    go_round
    case rel => exact ⟨p + 1, by omega, by rw [← HX.out], by go_num⟩
    case measure => simp [intOf] <;> omega
  ·obtain rfl : p = s.size := by omega
   have HE : Hid (strB (shS ((nm k).take s.size)) = strB (shS (nm k))) := Lib.hid (by
    rw [List.take_of_length_le (by rw [← HCS.out, chs_len]; exact Nat.le_refl _)])
   generalize strB (shS ((nm k).take s.size)) = X at *
   go_wp2_with fail
   refine CN.mono ?_
   rintro e w1 ⟨rfl, rfl⟩
   go_wp2_with fail
   go_ret
   exact ⟨by rw [← HE.out]; rfl, rfl⟩
end Go.Proofs.Ytgkelbdgdhkeoaa
/- The reference's value, walked. -/
namespace Go.Proofs.Ytgkelbdgdhkeoaa
open Go.RowKit
set_option linter.unusedVariables false
set_option linter.unusedSimpArgs false
open Wire Cmd
/-- The result's cell, behind another block, after a call. -/
theorem thereV {w w2 : World} {c : Obj} (hb : Below (w.heap.size + 1 + 1) ((w.alloc c).alloc (.cells Try.zeroCells136 136)) w2) : w2.there (w.heap.size + 1) 0 260 := fun j hj => by
 have h := heap_alloc_new (w.alloc c) (.cells Try.zeroCells136 136)
 rw [World.size_alloc] at h
 have h2 := (hb.block (w.heap.size + 1) (Nat.lt_succ_self _)).trans h
 rw [Nat.zero_add]
 refine ⟨?_, frozenOf h2 j⟩
 have hz := zsz2
 rw [cell_of_row w2 _ j _ _ _ h2, Array.getElem?_eq_getElem (by omega)]; rfl
set_option maxRecDepth 100000 in
set_option maxHeartbeats 6400000 in
theorem rvalue_any (o : Op0) (c : UInt8) (hc : c = 118 ∨ c = 116 ∨ c = 115 ∨ c = 97 ∨ c = 99 ∨ c = 100) (sl : Value) (w0 w : World) (hd : Rd w0 1 sl o.data.length (bV o.data)) :
  Calls Try.prog 92 #[.agg (oC o sl), .int .u8 (c.toNat : Int)] w fun e w' => ∃ sl', e = .returned (rA (vaL (c.toNat : Int) o) sl') ∧ Rd w0 1 sl' (vaL (c.toNat : Int) o).b.length (bV (vaL (c.toNat : Int) o).b) ∧ Below w.heap.size w w' := by
 obtain ⟨k1, v1, t1, s1, p1, c1, d1⟩ := o
 have hb := balloc (balloc (Below.refl _ w) (.cells (oC ⟨k1, v1, t1, s1, p1, c1, d1⟩ sl) 26)) (.cells Try.zeroCells136 136)
 unfold oC at *
 dsimp only at hb hd ⊢
 have HB0 := Lib.hid hb
 have HDD := Lib.hid hd
 clear hb
 obtain ⟨ao, cap, rfl, _⟩ := hd
 have hwz := u64_wrap s1
 have hwp := u64_wrap p1
 have hwc := u64_wrap c1
 rcases hc with rfl | rfl | rfl | rfl | rfl | rfl
 ·have HVA : Hid (vaL (((118 : UInt8).toNat : Nat) : Int) (⟨k1, v1, t1, s1, p1, c1, d1⟩ : Op0) = num (v1)) := Lib.hid rfl
  generalize hvl : vaL (((118 : UInt8).toNat : Nat) : Int) (⟨k1, v1, t1, s1, p1, c1, d1⟩ : Op0) = vl at *
  rw [show (((118 : UInt8).toNat : Nat) : Int) = 118 from rfl] at *
  clear hvl
  generalize v1 = q at *
  have HMK := Lib.hid (mk_num q)
  have HONE := Lib.hid (rC_one' (v := num q) (sl := .slice none 0 0) (by rfl))
  have HLEN : Hid ((rC (num q) (.slice none 0 0)).length = 260) := Lib.hid (rC_len rep256)
  have HRD : Hid (Rd w0 1 (.slice none 0 0) (num q).b.length (bV (num q).b)) := Lib.hid (Rd.of_own (World.ownsRow_nil w0 0 5 1))
  obtain ⟨u, hu⟩ : ∃ u, num q = u := ⟨_, rfl⟩
  obtain ⟨us, hus⟩ : ∃ us, Value.slice none 0 0 = us := ⟨_, rfl⟩
  rw [hu, hus] at HONE HLEN HRD
  rw [hu] at HVA
  have HMK2 : Hid (∀ W, Calls Try.prog 90 #[.int .u64 (q : Int)] W fun e w' => e = .returned (rA u us) ∧ Below W.heap.size W w') := Lib.hid (by rw [← hu, ← hus]; exact HMK.out)
  clear HMK hu hus
  have hzz := zsz2
  go_enter Try.func92, Try.ntmps92
  go_wp2_with fail
  refine (HMK2.out _).mono ?_
  rintro e w2 ⟨rfl, hb2⟩
  have HTH0 := Lib.hid (thereV (by simpa using hb2))
  have HB2 := Lib.hid (bthen HB0.out hb2)
  have HR0 : Hid (∃ RC : List Value, rA u us = .agg RC.toArray ∧ RC.length = 260 ∧ (∀ z ∈ RC, z.oneCell' = true)) := Lib.hid ⟨_, rfl, HLEN.out, HONE.out⟩
  obtain ⟨RC, hRC, hrl, hone⟩ := HR0.out
  have HRC := Lib.hid hRC
  rw [hRC]
  have he260 : RC.toArray.size = 260 := by rw [List.size_toArray]; exact hrl
  have HTH : Hid (w2.there (w.heap.size + 1) 0 RC.toArray.size) := Lib.hid (by rw [he260]; exact HTH0.out)
  have HI2 : Hid ((Try.prog.info? 136).map (·.size) = some RC.toArray.size) := Lib.hid (by rw [List.size_toArray, hrl]; exact infoRV)
  have HI1 : Hid ((Try.prog.info? 136).map (·.size) = some RC.length) := Lib.hid (by rw [hrl]; exact infoRV)
  have HO1 := Lib.hid (all_oneCell_toArray hone)
  have hres : Hid (∀ {fn : Func} {p : Tmp} (h : fn.results = #[.cell p 136]) (tmps : Array Value) (hp : tmps.getD p undef = .pointer (some ⟨w.heap.size + 1, 0, none⟩)), (results fn tmps).run Try.prog (w2.setCells (w.heap.size + 1) 0 RC) = .ok (.agg RC.toArray) (w2.setCells (w.heap.size + 1) 0 RC)) := Lib.hid (fun h tmps hp => results_cell_mid h tmps _ (w.heap.size + 1) 0 RC _ hp (World.rangeAt_setCells_same w2 _ 0 RC (by rw [hrl]; exact HTH0.out)) Try.underlying136 rfl HI1.out)
  clear hRC hone hb2 he260
  go_wp2_with (first
   | (refine wpList_store_mid rfl 136 _ _ rfl (w.heap.size + 1) 0 RC.toArray rfl rfl HTH.out HI2.out HO1.out ?_))
  exact bodyPost_ret (v := .agg RC.toArray) (hres.out rfl _ rfl) rfl ⟨us, by rw [← HRC.out, HVA.out], by rw [HVA.out]; exact HRD.out, belowSetC (by omega) _ _ _ HB2.out⟩
 ·have HVA : Hid (vaL (((116 : UInt8).toNat : Nat) : Int) (⟨k1, v1, t1, s1, p1, c1, d1⟩ : Op0) = num (t1)) := Lib.hid rfl
  generalize hvl : vaL (((116 : UInt8).toNat : Nat) : Int) (⟨k1, v1, t1, s1, p1, c1, d1⟩ : Op0) = vl at *
  rw [show (((116 : UInt8).toNat : Nat) : Int) = 116 from rfl] at *
  clear hvl
  generalize t1 = q at *
  have HMK := Lib.hid (mk_num q)
  have HONE := Lib.hid (rC_one' (v := num q) (sl := .slice none 0 0) (by rfl))
  have HLEN : Hid ((rC (num q) (.slice none 0 0)).length = 260) := Lib.hid (rC_len rep256)
  have HRD : Hid (Rd w0 1 (.slice none 0 0) (num q).b.length (bV (num q).b)) := Lib.hid (Rd.of_own (World.ownsRow_nil w0 0 5 1))
  obtain ⟨u, hu⟩ : ∃ u, num q = u := ⟨_, rfl⟩
  obtain ⟨us, hus⟩ : ∃ us, Value.slice none 0 0 = us := ⟨_, rfl⟩
  rw [hu, hus] at HONE HLEN HRD
  rw [hu] at HVA
  have HMK2 : Hid (∀ W, Calls Try.prog 90 #[.int .u64 (q : Int)] W fun e w' => e = .returned (rA u us) ∧ Below W.heap.size W w') := Lib.hid (by rw [← hu, ← hus]; exact HMK.out)
  clear HMK hu hus
  have hzz := zsz2
  go_enter Try.func92, Try.ntmps92
  go_wp2_with fail
  refine (HMK2.out _).mono ?_
  rintro e w2 ⟨rfl, hb2⟩
  have HTH0 := Lib.hid (thereV (by simpa using hb2))
  have HB2 := Lib.hid (bthen HB0.out hb2)
  have HR0 : Hid (∃ RC : List Value, rA u us = .agg RC.toArray ∧ RC.length = 260 ∧ (∀ z ∈ RC, z.oneCell' = true)) := Lib.hid ⟨_, rfl, HLEN.out, HONE.out⟩
  obtain ⟨RC, hRC, hrl, hone⟩ := HR0.out
  have HRC := Lib.hid hRC
  rw [hRC]
  have he260 : RC.toArray.size = 260 := by rw [List.size_toArray]; exact hrl
  have HTH : Hid (w2.there (w.heap.size + 1) 0 RC.toArray.size) := Lib.hid (by rw [he260]; exact HTH0.out)
  have HI2 : Hid ((Try.prog.info? 136).map (·.size) = some RC.toArray.size) := Lib.hid (by rw [List.size_toArray, hrl]; exact infoRV)
  have HI1 : Hid ((Try.prog.info? 136).map (·.size) = some RC.length) := Lib.hid (by rw [hrl]; exact infoRV)
  have HO1 := Lib.hid (all_oneCell_toArray hone)
  have hres : Hid (∀ {fn : Func} {p : Tmp} (h : fn.results = #[.cell p 136]) (tmps : Array Value) (hp : tmps.getD p undef = .pointer (some ⟨w.heap.size + 1, 0, none⟩)), (results fn tmps).run Try.prog (w2.setCells (w.heap.size + 1) 0 RC) = .ok (.agg RC.toArray) (w2.setCells (w.heap.size + 1) 0 RC)) := Lib.hid (fun h tmps hp => results_cell_mid h tmps _ (w.heap.size + 1) 0 RC _ hp (World.rangeAt_setCells_same w2 _ 0 RC (by rw [hrl]; exact HTH0.out)) Try.underlying136 rfl HI1.out)
  clear hRC hone hb2 he260
  go_wp2_with (first
   | (refine wpList_store_mid rfl 136 _ _ rfl (w.heap.size + 1) 0 RC.toArray rfl rfl HTH.out HI2.out HO1.out ?_))
  exact bodyPost_ret (v := .agg RC.toArray) (hres.out rfl _ rfl) rfl ⟨us, by rw [← HRC.out, HVA.out], by rw [HVA.out]; exact HRD.out, belowSetC (by omega) _ _ _ HB2.out⟩
 ·have HVA : Hid (vaL (((115 : UInt8).toNat : Nat) : Int) (⟨k1, v1, t1, s1, p1, c1, d1⟩ : Op0) = num (toU s1)) := Lib.hid rfl
  generalize hvl : vaL (((115 : UInt8).toNat : Nat) : Int) (⟨k1, v1, t1, s1, p1, c1, d1⟩ : Op0) = vl at *
  rw [show (((115 : UInt8).toNat : Nat) : Int) = 115 from rfl] at *
  clear hvl
  generalize toU s1 = q at *
  have HMK := Lib.hid (mk_num q)
  have HONE := Lib.hid (rC_one' (v := num q) (sl := .slice none 0 0) (by rfl))
  have HLEN : Hid ((rC (num q) (.slice none 0 0)).length = 260) := Lib.hid (rC_len rep256)
  have HRD : Hid (Rd w0 1 (.slice none 0 0) (num q).b.length (bV (num q).b)) := Lib.hid (Rd.of_own (World.ownsRow_nil w0 0 5 1))
  obtain ⟨u, hu⟩ : ∃ u, num q = u := ⟨_, rfl⟩
  obtain ⟨us, hus⟩ : ∃ us, Value.slice none 0 0 = us := ⟨_, rfl⟩
  rw [hu, hus] at HONE HLEN HRD
  rw [hu] at HVA
  have HMK2 : Hid (∀ W, Calls Try.prog 90 #[.int .u64 (q : Int)] W fun e w' => e = .returned (rA u us) ∧ Below W.heap.size W w') := Lib.hid (by rw [← hu, ← hus]; exact HMK.out)
  clear HMK hu hus
  have hzz := zsz2
  go_enter Try.func92, Try.ntmps92
  go_wp2_with fail
  refine (HMK2.out _).mono ?_
  rintro e w2 ⟨rfl, hb2⟩
  have HTH0 := Lib.hid (thereV (by simpa using hb2))
  have HB2 := Lib.hid (bthen HB0.out hb2)
  have HR0 : Hid (∃ RC : List Value, rA u us = .agg RC.toArray ∧ RC.length = 260 ∧ (∀ z ∈ RC, z.oneCell' = true)) := Lib.hid ⟨_, rfl, HLEN.out, HONE.out⟩
  obtain ⟨RC, hRC, hrl, hone⟩ := HR0.out
  have HRC := Lib.hid hRC
  rw [hRC]
  have he260 : RC.toArray.size = 260 := by rw [List.size_toArray]; exact hrl
  have HTH : Hid (w2.there (w.heap.size + 1) 0 RC.toArray.size) := Lib.hid (by rw [he260]; exact HTH0.out)
  have HI2 : Hid ((Try.prog.info? 136).map (·.size) = some RC.toArray.size) := Lib.hid (by rw [List.size_toArray, hrl]; exact infoRV)
  have HI1 : Hid ((Try.prog.info? 136).map (·.size) = some RC.length) := Lib.hid (by rw [hrl]; exact infoRV)
  have HO1 := Lib.hid (all_oneCell_toArray hone)
  have hres : Hid (∀ {fn : Func} {p : Tmp} (h : fn.results = #[.cell p 136]) (tmps : Array Value) (hp : tmps.getD p undef = .pointer (some ⟨w.heap.size + 1, 0, none⟩)), (results fn tmps).run Try.prog (w2.setCells (w.heap.size + 1) 0 RC) = .ok (.agg RC.toArray) (w2.setCells (w.heap.size + 1) 0 RC)) := Lib.hid (fun h tmps hp => results_cell_mid h tmps _ (w.heap.size + 1) 0 RC _ hp (World.rangeAt_setCells_same w2 _ 0 RC (by rw [hrl]; exact HTH0.out)) Try.underlying136 rfl HI1.out)
  clear hRC hone hb2 he260
  go_wp2_with (first
   | (refine wpList_store_mid rfl 136 _ _ rfl (w.heap.size + 1) 0 RC.toArray rfl rfl HTH.out HI2.out HO1.out ?_))
  exact bodyPost_ret (v := .agg RC.toArray) (hres.out rfl _ rfl) rfl ⟨us, by rw [← HRC.out, HVA.out], by rw [HVA.out]; exact HRD.out, belowSetC (by omega) _ _ _ HB2.out⟩
 ·have HVA : Hid (vaL (((97 : UInt8).toNat : Nat) : Int) (⟨k1, v1, t1, s1, p1, c1, d1⟩ : Op0) = num (toU p1)) := Lib.hid rfl
  generalize hvl : vaL (((97 : UInt8).toNat : Nat) : Int) (⟨k1, v1, t1, s1, p1, c1, d1⟩ : Op0) = vl at *
  rw [show (((97 : UInt8).toNat : Nat) : Int) = 97 from rfl] at *
  clear hvl
  generalize toU p1 = q at *
  have HMK := Lib.hid (mk_num q)
  have HONE := Lib.hid (rC_one' (v := num q) (sl := .slice none 0 0) (by rfl))
  have HLEN : Hid ((rC (num q) (.slice none 0 0)).length = 260) := Lib.hid (rC_len rep256)
  have HRD : Hid (Rd w0 1 (.slice none 0 0) (num q).b.length (bV (num q).b)) := Lib.hid (Rd.of_own (World.ownsRow_nil w0 0 5 1))
  obtain ⟨u, hu⟩ : ∃ u, num q = u := ⟨_, rfl⟩
  obtain ⟨us, hus⟩ : ∃ us, Value.slice none 0 0 = us := ⟨_, rfl⟩
  rw [hu, hus] at HONE HLEN HRD
  rw [hu] at HVA
  have HMK2 : Hid (∀ W, Calls Try.prog 90 #[.int .u64 (q : Int)] W fun e w' => e = .returned (rA u us) ∧ Below W.heap.size W w') := Lib.hid (by rw [← hu, ← hus]; exact HMK.out)
  clear HMK hu hus
  have hzz := zsz2
  go_enter Try.func92, Try.ntmps92
  go_wp2_with fail
  refine (HMK2.out _).mono ?_
  rintro e w2 ⟨rfl, hb2⟩
  have HTH0 := Lib.hid (thereV (by simpa using hb2))
  have HB2 := Lib.hid (bthen HB0.out hb2)
  have HR0 : Hid (∃ RC : List Value, rA u us = .agg RC.toArray ∧ RC.length = 260 ∧ (∀ z ∈ RC, z.oneCell' = true)) := Lib.hid ⟨_, rfl, HLEN.out, HONE.out⟩
  obtain ⟨RC, hRC, hrl, hone⟩ := HR0.out
  have HRC := Lib.hid hRC
  rw [hRC]
  have he260 : RC.toArray.size = 260 := by rw [List.size_toArray]; exact hrl
  have HTH : Hid (w2.there (w.heap.size + 1) 0 RC.toArray.size) := Lib.hid (by rw [he260]; exact HTH0.out)
  have HI2 : Hid ((Try.prog.info? 136).map (·.size) = some RC.toArray.size) := Lib.hid (by rw [List.size_toArray, hrl]; exact infoRV)
  have HI1 : Hid ((Try.prog.info? 136).map (·.size) = some RC.length) := Lib.hid (by rw [hrl]; exact infoRV)
  have HO1 := Lib.hid (all_oneCell_toArray hone)
  have hres : Hid (∀ {fn : Func} {p : Tmp} (h : fn.results = #[.cell p 136]) (tmps : Array Value) (hp : tmps.getD p undef = .pointer (some ⟨w.heap.size + 1, 0, none⟩)), (results fn tmps).run Try.prog (w2.setCells (w.heap.size + 1) 0 RC) = .ok (.agg RC.toArray) (w2.setCells (w.heap.size + 1) 0 RC)) := Lib.hid (fun h tmps hp => results_cell_mid h tmps _ (w.heap.size + 1) 0 RC _ hp (World.rangeAt_setCells_same w2 _ 0 RC (by rw [hrl]; exact HTH0.out)) Try.underlying136 rfl HI1.out)
  clear hRC hone hb2 he260
  go_wp2_with (first
   | (refine wpList_store_mid rfl 136 _ _ rfl (w.heap.size + 1) 0 RC.toArray rfl rfl HTH.out HI2.out HO1.out ?_))
  exact bodyPost_ret (v := .agg RC.toArray) (hres.out rfl _ rfl) rfl ⟨us, by rw [← HRC.out, HVA.out], by rw [HVA.out]; exact HRD.out, belowSetC (by omega) _ _ _ HB2.out⟩
 ·have HVA : Hid (vaL (((99 : UInt8).toNat : Nat) : Int) (⟨k1, v1, t1, s1, p1, c1, d1⟩ : Op0) = num (toU c1)) := Lib.hid rfl
  generalize hvl : vaL (((99 : UInt8).toNat : Nat) : Int) (⟨k1, v1, t1, s1, p1, c1, d1⟩ : Op0) = vl at *
  rw [show (((99 : UInt8).toNat : Nat) : Int) = 99 from rfl] at *
  clear hvl
  generalize toU c1 = q at *
  have HMK := Lib.hid (mk_num q)
  have HONE := Lib.hid (rC_one' (v := num q) (sl := .slice none 0 0) (by rfl))
  have HLEN : Hid ((rC (num q) (.slice none 0 0)).length = 260) := Lib.hid (rC_len rep256)
  have HRD : Hid (Rd w0 1 (.slice none 0 0) (num q).b.length (bV (num q).b)) := Lib.hid (Rd.of_own (World.ownsRow_nil w0 0 5 1))
  obtain ⟨u, hu⟩ : ∃ u, num q = u := ⟨_, rfl⟩
  obtain ⟨us, hus⟩ : ∃ us, Value.slice none 0 0 = us := ⟨_, rfl⟩
  rw [hu, hus] at HONE HLEN HRD
  rw [hu] at HVA
  have HMK2 : Hid (∀ W, Calls Try.prog 90 #[.int .u64 (q : Int)] W fun e w' => e = .returned (rA u us) ∧ Below W.heap.size W w') := Lib.hid (by rw [← hu, ← hus]; exact HMK.out)
  clear HMK hu hus
  have hzz := zsz2
  go_enter Try.func92, Try.ntmps92
  go_wp2_with fail
  refine (HMK2.out _).mono ?_
  rintro e w2 ⟨rfl, hb2⟩
  have HTH0 := Lib.hid (thereV (by simpa using hb2))
  have HB2 := Lib.hid (bthen HB0.out hb2)
  have HR0 : Hid (∃ RC : List Value, rA u us = .agg RC.toArray ∧ RC.length = 260 ∧ (∀ z ∈ RC, z.oneCell' = true)) := Lib.hid ⟨_, rfl, HLEN.out, HONE.out⟩
  obtain ⟨RC, hRC, hrl, hone⟩ := HR0.out
  have HRC := Lib.hid hRC
  rw [hRC]
  have he260 : RC.toArray.size = 260 := by rw [List.size_toArray]; exact hrl
  have HTH : Hid (w2.there (w.heap.size + 1) 0 RC.toArray.size) := Lib.hid (by rw [he260]; exact HTH0.out)
  have HI2 : Hid ((Try.prog.info? 136).map (·.size) = some RC.toArray.size) := Lib.hid (by rw [List.size_toArray, hrl]; exact infoRV)
  have HI1 : Hid ((Try.prog.info? 136).map (·.size) = some RC.length) := Lib.hid (by rw [hrl]; exact infoRV)
  have HO1 := Lib.hid (all_oneCell_toArray hone)
  have hres : Hid (∀ {fn : Func} {p : Tmp} (h : fn.results = #[.cell p 136]) (tmps : Array Value) (hp : tmps.getD p undef = .pointer (some ⟨w.heap.size + 1, 0, none⟩)), (results fn tmps).run Try.prog (w2.setCells (w.heap.size + 1) 0 RC) = .ok (.agg RC.toArray) (w2.setCells (w.heap.size + 1) 0 RC)) := Lib.hid (fun h tmps hp => results_cell_mid h tmps _ (w.heap.size + 1) 0 RC _ hp (World.rangeAt_setCells_same w2 _ 0 RC (by rw [hrl]; exact HTH0.out)) Try.underlying136 rfl HI1.out)
  clear hRC hone hb2 he260
  go_wp2_with (first
   | (refine wpList_store_mid rfl 136 _ _ rfl (w.heap.size + 1) 0 RC.toArray rfl rfl HTH.out HI2.out HO1.out ?_))
  exact bodyPost_ret (v := .agg RC.toArray) (hres.out rfl _ rfl) rfl ⟨us, by rw [← HRC.out, HVA.out], by rw [HVA.out]; exact HRD.out, belowSetC (by omega) _ _ _ HB2.out⟩
 ·have HVA : Hid (vaL (((100 : UInt8).toNat : Nat) : Int) (⟨k1, v1, t1, s1, p1, c1, d1⟩ : Op0) = blob d1) := Lib.hid rfl
  generalize hvl : vaL (((100 : UInt8).toNat : Nat) : Int) (⟨k1, v1, t1, s1, p1, c1, d1⟩ : Op0) = vl at *
  rw [show (((100 : UInt8).toNat : Nat) : Int) = 100 from rfl] at *
  clear hvl
  have HMK := Lib.hid (mk_blob ao d1.length cap d1)
  have HONE := Lib.hid (rC_one' (v := blob d1) (sl := .slice ao d1.length cap) (by rfl))
  have HLEN : Hid ((rC (blob d1) (.slice ao d1.length cap)).length = 260) := Lib.hid (rC_len rep256)
  have HRD : Hid (Rd w0 1 (.slice ao d1.length cap) (blob d1).b.length (bV (blob d1).b)) := HDD
  obtain ⟨u, hu⟩ : ∃ u, blob d1 = u := ⟨_, rfl⟩
  obtain ⟨us, hus⟩ : ∃ us, Value.slice ao d1.length cap = us := ⟨_, rfl⟩
  rw [hu, hus] at HONE HLEN HRD
  rw [hu] at HVA
  have HMK2 : Hid (∀ W, Calls Try.prog 95 #[.slice ao d1.length cap] W fun e w' => e = .returned (rA u us) ∧ Below W.heap.size W w') := Lib.hid (by rw [← hu, ← hus]; exact HMK.out)
  clear HMK hu hus
  have hzz := zsz2
  go_enter Try.func92, Try.ntmps92
  go_wp2_with fail
  refine (HMK2.out _).mono ?_
  rintro e w2 ⟨rfl, hb2⟩
  have HTH0 := Lib.hid (thereV (by simpa using hb2))
  have HB2 := Lib.hid (bthen HB0.out hb2)
  have HR0 : Hid (∃ RC : List Value, rA u us = .agg RC.toArray ∧ RC.length = 260 ∧ (∀ z ∈ RC, z.oneCell' = true)) := Lib.hid ⟨_, rfl, HLEN.out, HONE.out⟩
  obtain ⟨RC, hRC, hrl, hone⟩ := HR0.out
  have HRC := Lib.hid hRC
  rw [hRC]
  have he260 : RC.toArray.size = 260 := by rw [List.size_toArray]; exact hrl
  have HTH : Hid (w2.there (w.heap.size + 1) 0 RC.toArray.size) := Lib.hid (by rw [he260]; exact HTH0.out)
  have HI2 : Hid ((Try.prog.info? 136).map (·.size) = some RC.toArray.size) := Lib.hid (by rw [List.size_toArray, hrl]; exact infoRV)
  have HI1 : Hid ((Try.prog.info? 136).map (·.size) = some RC.length) := Lib.hid (by rw [hrl]; exact infoRV)
  have HO1 := Lib.hid (all_oneCell_toArray hone)
  have hres : Hid (∀ {fn : Func} {p : Tmp} (h : fn.results = #[.cell p 136]) (tmps : Array Value) (hp : tmps.getD p undef = .pointer (some ⟨w.heap.size + 1, 0, none⟩)), (results fn tmps).run Try.prog (w2.setCells (w.heap.size + 1) 0 RC) = .ok (.agg RC.toArray) (w2.setCells (w.heap.size + 1) 0 RC)) := Lib.hid (fun h tmps hp => results_cell_mid h tmps _ (w.heap.size + 1) 0 RC _ hp (World.rangeAt_setCells_same w2 _ 0 RC (by rw [hrl]; exact HTH0.out)) Try.underlying136 rfl HI1.out)
  clear hRC hone hb2 he260
  go_wp2_with (first
   | (refine wpList_store_mid rfl 136 _ _ rfl (w.heap.size + 1) 0 RC.toArray rfl rfl HTH.out HI2.out HO1.out ?_))
  exact bodyPost_ret (v := .agg RC.toArray) (hres.out rfl _ rfl) rfl ⟨us, by rw [← HRC.out, HVA.out], by rw [HVA.out]; exact HRD.out, belowSetC (by omega) _ _ _ HB2.out⟩
end Go.Proofs.Ytgkelbdgdhkeoaa
/- The reference's Pack, walked. -/
namespace Go.Proofs.Ytgkelbdgdhkeoaa
open Go.RowKit
set_option linter.unusedVariables false
set_option linter.unusedSimpArgs false
open Wire Cmd
theorem wp_build1 {P : Program} {o : Oper} {a : Act} {K : Act → World → Prop} {Q : Exit → Act → World → Prop} {w : World} (x : Operand) (t e : TypeId) (n : Nat) (z : Value) (L : List Value)
  (ho : o.op = .buildSlice t 1 #[(0, x)]) (hx : a.eval x = .agg L.toArray) (ht : P.underlying t = some (.slice e)) (hi : (P.info? e).map (fun i => (i.zero, i.size)) = some (some z, n)) (hz : z.cells.size = n) (hL : L.length = n) (hn : 0 < n) (hn2 : n ≤ 1000)
  (h : ∀ W, W = w.alloc (.cells L.toArray e) → K (a.put o.dst (.slice (some ⟨w.heap.size, 0, none⟩) 1 1)) W) : o.wp P a w K Q := by
 have hrun := run_buildSlice_one (P := P) w t e n z L ht hi hz hL hn hn2
 unfold Oper.wp execOp
 simp only [ho, List.map_toArray, List.map_cons, List.map_nil, hx, Sem.run_bind, hrun, Result.andThen_ok, Sem.run_pure]
 exact h _ rfl
theorem wp_app1 {P : Program} {o : Oper} {a : Act} {K : Act → World → Prop} {Q : Exit → Act → World → Prop} (s x : Operand) (t : TypeId)
  (ho : o.op = .call { callee := .builtin .append, args := #[s, x], argTypes := #[t, t] })
  (base : Nat) (e : TypeId) (z : Value) (size bytes : Nat) (ht : P.underlying t = some (.slice e)) (hinfo : (P.info? e).map (fun i => (i.zero, i.size, i.bytes)) = some (some z, size, bytes))
  (hzs : z.cells.size = size) (hsz : 0 < size) (hby : 0 < bytes)
  {W W2 : World} (v : Value) (n : Nat) (xs : List Value) (hs : a.eval s = v) (hown : W.ownsRow base e size v n xs)
  {cs : Array Value} {fr : TypeId} (hW : W2 = W.alloc (.cells cs fr)) (hx : a.eval x = .slice (some ⟨W.heap.size, 0, none⟩) 1 1) (hcs : cs.size = size) (h1 : ∀ u ∈ cs.toList, u.oneCell' = true)
  (hbytes : (n + 1) * bytes ≤ 140737488355328) (hbase : base ≤ W.heap.size)
  (h : ∀ v' w', w'.ownsRow base e size v' (n + 1) (xs ++ cs.toList) → Below base W w' → K (a.put o.dst v') w') : o.wp P a W2 K Q := by
 subst hW
 obtain ⟨i0, hi, hz0, hz1, hz2⟩ := info_parts hinfo
 have hn1 : n + 1 ≤ maxLen := by
  have : n + 1 ≤ (n + 1) * bytes := Nat.le_mul_of_pos_right _ hby
  unfold maxLen; omega
 refine wp_app _ s x t ho base e i0 z size bytes ht hi hz0 hz1 hz2 hzs hsz v n xs hs (hown.alloc _) ⟨W.heap.size, 0, none⟩ 1 1 cs.toList hx (by simp [hcs]) ?_ h1 hn1 hbytes (by simp; omega) ?_
 ·intro j u hj
  have hadd : (⟨W.heap.size, 0, none⟩ : Addr).add j = ⟨W.heap.size, j, none⟩ := by unfold Addr.add; split <;> simp_all
  rw [hadd, cell_of_row (W.alloc (.cells cs fr)) W.heap.size j cs fr (0, 0) (heap_alloc_new W _)]
  simpa using hj
 ·intro v' w' ho' hg hsn hne
  have hg2 : W.grownBy w' v.ownBlock := by
   have ha := World.grownBy_alloc W (.cells cs fr) v.ownBlock
   refine ⟨hg.os.trans ha.os, hg.tape.trans ha.tape, hg.output.trans ha.output, Nat.le_trans ha.size hg.size, fun k hk hkr => ?_⟩
   rw [hg.block k (by simp; omega) hkr, ha.block k hk hkr]
  exact h v' w' ho' ((Below.refl base W).grown hg2 hbase (fun k hk => (hown.lt k hk).1))
/-- A row of one, new. -/
theorem own_new (W : World) (B : Nat) (hB : B ≤ W.heap.size) (e : TypeId) (L : List Value) (n : Nat) (hL : L.length = n) : (W.alloc (.cells L.toArray e)).ownsRow B e n (.slice (some ⟨W.heap.size, 0, none⟩) 1 1) 1 L :=
 ⟨by omega, .inr ⟨W.heap.size, 1, L.toArray, rfl, hB, heap_alloc_new W _, Nat.le_refl _, by unfold maxLen; omega, by simp [hL], by simp [← hL]⟩⟩
theorem nm_six (k : Int) : ∀ c ∈ nm k, c = 118 ∨ c = 116 ∨ c = 115 ∨ c = 97 ∨ c = 99 ∨ c = 100 := by unfold nm; (repeat' split) <;> decide
theorem vaL_ok (o : Op0) (ok : o.Ok) (c : Int) : (vaL c o).Ok := by
 unfold vaL
 (repeat' split) <;> refine ⟨?_, rep256⟩
 ·exact ok.vol
 ·exact ok.to
 ·exact u64_lt _
 ·exact u64_lt _
 ·exact u64_lt _
 ·exact Nat.two_pow_pos 64
theorem rangeLow {w w' : World} {B b o : Nat} {cs : List Value} (h : w.rangeAt b o cs) (hl : b < B) (hb : Below B w w') : w'.rangeAt b o cs :=
 fun j u hj => (hb.cell (p := ⟨b, o + j, none⟩) hl).trans (h j u hj)
end Go.Proofs.Ytgkelbdgdhkeoaa
/- Plain: an operation that may be has bytes. -/
namespace Go.Proofs.Ytgkelbdgdhkeoaa
open Go.RowKit
set_option linter.unusedVariables false
open Wire Cmd
theorem lay_n4 {n : Nat} (h : n < 4294967296) : ∃ a, lay 52 (num n) = some a := by
 have h2 : isNum 52 = true ∧ n < 256 ^ wid 52 := ⟨rfl, by rw [show wid 52 = 4 from rfl]; exact h⟩
 exact ⟨low n (wid 52), if_pos h2⟩
theorem toU_of {n : Int} (h1 : 0 ≤ n) (h2 : n < 18446744073709551616) : ((toU n : Nat) : Int) = n := by unfold toU; omega
theorem lay_six (o : Op0) (c : UInt8) (hc : c = 118 ∨ c = 116 ∨ c = 115 ∨ c = 97 ∨ c = 99 ∨ c = 100) (hw : wIn (c.toNat : Int) o = true) : ∃ a, lay (shL (c.toNat : Int)) (vaL (c.toNat : Int) o) = some a := by
 rcases hc with rfl | rfl | rfl | rfl | rfl | rfl
 ·have h : (decide (1 ≤ o.vol) && decide (o.vol < 4294967296)) = true := hw
  simp only [Bool.and_eq_true, decide_eq_true_eq] at h
  exact lay_n4 (n := o.vol) h.2
 ·have h : (decide (1 ≤ o.to) && decide (o.to < 4294967296) && (o.to != o.vol)) = true := hw
  simp only [Bool.and_eq_true, decide_eq_true_eq] at h
  exact lay_n4 (n := o.to) h.1.2
 ·have h : (decide (0 ≤ o.size) && decide (o.size ≤ 256)) = true := hw
  simp only [Bool.and_eq_true, decide_eq_true_eq] at h
  have := toU_of h.1 (by omega)
  exact lay_n4 (n := toU o.size) (by omega)
 ·have h : (decide (0 ≤ o.pl) && decide (o.pl ≤ 1048576)) = true := hw
  simp only [Bool.and_eq_true, decide_eq_true_eq] at h
  have := toU_of h.1 (by omega)
  exact lay_n4 (n := toU o.pl) (by omega)
 ·have h : (decide (1 ≤ o.count) && decide (o.count ≤ 1024)) = true := hw
  simp only [Bool.and_eq_true, decide_eq_true_eq] at h
  have := toU_of (n := o.count) (by omega) (by omega)
  exact lay_n4 (n := toU o.count) (by omega)
 ·have h : (decide (64 ≤ o.data.length) && decide (o.data.length % 64 = 0) && decide (o.data.length ≤ 2048)) = true := hw
  simp only [Bool.and_eq_true, decide_eq_true_eq] at h
  show ∃ a, lay 42 (blob o.data) = some a
  have h2 : (42 : UInt8) = 42 ∧ o.data.length ≤ 16777216 := ⟨rfl, Nat.le_trans h.2 (by decide)⟩
  exact ⟨low o.data.length 4 ++ o.data, if_pos h2⟩
theorem pack_all (o : Op0) : ∀ l : List UInt8, (∀ c ∈ l, ∃ a, lay (shL (c.toNat : Int)) (vaL (c.toNat : Int) o) = some a) → ∃ bs, pack (shS l) (vals o l) = some bs
 | [], _ => ⟨[], rfl⟩
 | c :: l, h => by
  obtain ⟨a, ha⟩ := h c (by simp)
  obtain ⟨bs, hb⟩ := pack_all o l (fun d hd => h d (by simp [hd]))
  refine ⟨a ++ bs, ?_⟩
  show (lay (shL (c.toNat : Int)) (vaL (c.toNat : Int) o)).bind (fun a => (pack (shS l) (vals o l)).map (a ++ ·)) = _
  rw [ha, hb]; rfl
theorem mayO_parts {o : Op0} (h : mayO o = true) : (∀ c ∈ nm o.k, wIn (c.toNat : Int) o = true) ∧ 1 ≤ o.k ∧ o.k ≤ 9 := by
 unfold mayO at h
 simp only [Bool.and_eq_true, decide_eq_true_eq, List.all_eq_true] at h
 exact ⟨h.1.1, h.1.2.1, h.1.2.2⟩
/-- An operation that may be has bytes. -/
theorem packO_some {o : Op0} (h : mayO o = true) : ∃ bs, packO o = some bs ∧ pack (49 :: shS (nm o.k)) (num (toU o.k) :: vals o (nm o.k)) = some bs := by
 obtain ⟨h1, h2, h3⟩ := mayO_parts h
 obtain ⟨bs, hb⟩ := pack_all o (nm o.k) (fun c hc => lay_six o c (nm_six o.k c hc) (h1 c hc))
 have hk := toU_of (n := o.k) (by omega) (by omega)
 have hl : lay 49 (num (toU o.k)) = some (low (toU o.k) 1) := by
  have h4 : isNum 49 = true ∧ toU o.k < 256 ^ wid 49 := ⟨rfl, by rw [show wid 49 = 1 from rfl]; omega⟩
  exact if_pos h4
 have hp : pack (49 :: shS (nm o.k)) (num (toU o.k) :: vals o (nm o.k)) = some (low (toU o.k) 1 ++ bs) := by
  show (lay 49 (num (toU o.k))).bind (fun a => (pack (shS (nm o.k)) (vals o (nm o.k))).map (a ++ ·)) = _
  rw [hl, hb]; rfl
 exact ⟨_, by unfold packO; rw [if_pos h]; exact hp, hp⟩
theorem packO_none {o : Op0} (h : mayO o = false) : packO o = none := by unfold packO; rw [h]; rfl
end Go.Proofs.Ytgkelbdgdhkeoaa
/- A slice of several elements of many cells, made in place. -/
namespace Go.Proofs.Ytgkelbdgdhkeoaa
open Go.RowKit
set_option linter.unusedVariables false
set_option linter.unusedSimpArgs false
/-- A row of many, new. -/
theorem own_newN (W : World) (B : Nat) (hB : B ≤ W.heap.size) (e : TypeId) (L : List Value) (n m : Nat) (hL : L.length = m * n) (hm : m ≤ 10) : (W.alloc (.cells L.toArray e)).ownsRow B e n (.slice (some ⟨W.heap.size, 0, none⟩) m m) m L :=
 ⟨by rw [hL], .inr ⟨W.heap.size, m, L.toArray, rfl, hB, heap_alloc_new W _, Nat.le_refl _, by unfold maxLen; omega, by simp [hL], by simp [← hL]⟩⟩
end Go.Proofs.Ytgkelbdgdhkeoaa
/- The reference's Pack, walked. -/
namespace Go.Proofs.Ytgkelbdgdhkeoaa
open Go.RowKit
set_option linter.unusedVariables false
set_option linter.unusedSimpArgs false
open Wire Cmd
set_option maxRecDepth 100000 in
set_option maxHeartbeats 6400000 in
theorem rpackO_any (o : Op0) (ok : o.Ok) (sl : Value) (w : World) (hd : Rd w 1 sl o.data.length (bV o.data)) (hl : o.data.length ≤ 1000000) (bs : List UInt8) (hbs : pack (49 :: shS (nm o.k)) (num (toU o.k) :: vals o (nm o.k)) = some bs) :
  Calls Try.prog 27 #[.agg (oC o sl)] w fun e w' => ∃ v', e = .returned v' ∧ w'.ownsRow w.heap.size 5 1 v' bs.length (bV bs) ∧ Below w.heap.size w w' := by
 have CV : Hid (∀ (c : UInt8), c ∈ nm o.k → ∀ W : World, Calls Try.prog 92 #[.agg (oC o sl), .int .u8 (c.toNat : Int)] W fun e w' => ∃ RC sl', e = .returned (.agg RC.toArray) ∧ RC = rC (vaL (c.toNat : Int) o) sl' ∧ RC.length = 260 ∧ (∀ u ∈ RC, u.oneCell' = true) ∧ Rd w 1 sl' (vaL (c.toNat : Int) o).b.length (bV (vaL (c.toNat : Int) o).b) ∧ Below W.heap.size W w') := Lib.hid (fun c hc W => by
  refine (rvalue_any o c (nm_six o.k c hc) sl w W hd).mono ?_
  rintro e w' ⟨sl', rfl, hrd, hb⟩
  refine ⟨_, sl', rfl, rfl, rC_len (vaL_ok o ok _).x, rC_one' ?_, hrd, hb⟩
  obtain ⟨ao, cap, rfl, _⟩ := hrd
  rfl)
 have HVAL := Lib.hid (fun (l : List UInt8) (cs : List (V × Value)) (c : UInt8) (h : cs.map Prod.fst = num (toU o.k) :: vals o l) (sl' : Value) => show (cs ++ [(vaL (c.toNat : Int) o, sl')]).map Prod.fst = num (toU o.k) :: vals o (l ++ [c]) by
  rw [List.map_append, h, vals_snoc]; rfl)
 have HOKL := Lib.hid (fun c => vaL_ok o ok c)
 have CN := rnames_any o.k
 have CSH := rshape_any o.k
 have HIO : Hid ((Try.prog.info? 26).map (·.size) = some 7) := Lib.hid infoOp
 have hwk := u64_wrap o.k
 have HCS : Hid (chs (strB (nm o.k)) = nm o.k) := Lib.hid (by simp [chs, strB])
 have hsz : (strB (nm o.k)).size ≤ 3 := by rw [← chs_len]; simp only [chs, strB]; simpa using nm_len o.k
 have HPK : Hid (∀ W v' cs, RVrow w (w.heap.size + 1) W v' cs → Below w.heap.size w W → cs.map Prod.fst = num (toU o.k) :: vals o (nm o.k) → Calls Try.prog 93 #[.string ((⟨#[49]⟩ : ByteArray) ++ strB (shS (nm o.k))), v'] W (PackP W (some bs))) := Lib.hid (fun W v' cs hr hb he => by
  obtain ⟨ao, cap, rfl, hv⟩ := hr.rvs hb
  rw [he] at hv
  have hln : cs.length ≤ 4 := by
   have h1 : (cs.map Prod.fst).length = _ := congrArg List.length he
   rw [List.length_map, List.length_cons] at h1
   unfold vals at h1
   rw [List.length_map] at h1
   have := nm_len o.k
   omega
  have h := rpack_big ((⟨#[49]⟩ : ByteArray) ++ strB (shS (nm o.k))) ao cs.length cap _ W hv (by omega) (by
   rw [ByteArray.size_append, str_size]
   unfold shS
   rw [List.length_map]
   have := nm_len o.k
   have h2 : (⟨#[49]⟩ : ByteArray).size = 1 := rfl
   omega) (by
   intro v hv
   rcases List.mem_cons.1 hv with rfl | hv
   ·exact Nat.zero_le _
   ·exact Nat.le_trans (vals_blen o _ v hv) hl)
  rw [str_cons, chs_str, hbs] at h
  rw [str_cons]
  exact h)
 have HSHL : (strB (shS (nm o.k))).size ≤ 3 := by
  rw [str_size]; unfold shS; rw [List.length_map]; exact nm_len o.k
 have hb := balloc (Below.refl _ w) (.cells (oC o sl) 26)
 have HB0 := Lib.hid hb
 have hbx := heap_alloc_new w (.cells (oC o sl) 26)
 obtain ⟨OC, hOC, hol, hog⟩ : ∃ OC : List Value, oC o sl = OC.toArray ∧ OC.length = 7 ∧ OC[0]? = some (.int .i64 o.k) := ⟨_, rfl, rfl, rfl⟩
 have HRO : Hid (∀ W, Below (w.heap.size + 1) (w.alloc (.cells (oC o sl) 26)) W → W.rangeAt w.heap.size 0 OC) := Lib.hid (fun W hW j u hj => by
  rw [Nat.zero_add]
  have h1 := (hW.block w.heap.size (Nat.lt_succ_self _)).trans hbx
  exact cellIs h1 (by rw [hOC]; simpa using hj))
 rw [hOC] at CV
 have HOC := Lib.hid (And.intro hol hog)
 have HE0 : Hid (∀ W : World, W.rangeAt w.heap.size 0 OC → W.cell? ⟨w.heap.size, 0, none⟩ = some (.int .i64 o.k)) := Lib.hid (fun W h => h 0 _ hog)
 have HI1 : Hid ((Try.prog.info? 26).map (·.size) = some OC.length) := Lib.hid (by rw [hol]; exact infoOp)
 have HRR0 := HRO.out (w.alloc (.cells (oC o sl) 26)) (Below.refl _ _)
 have e0 := HE0.out _ HRR0
 have HMK := Lib.hid (mk_num (toU o.k))
 have HSLN : Hid (Rd w 1 (.slice none 0 0) (num (toU o.k)).b.length (bV (num (toU o.k)).b)) := Lib.hid (Rd.of_own (World.ownsRow_nil w 0 5 1))
 have HOK0 : Hid ((num (toU o.k)).Ok) := Lib.hid ⟨u64_lt _, rep256⟩
 have HRC0 := Lib.hid (rC_one' (v := num (toU o.k)) (sl := .slice none 0 0) (by rfl))
 unfold oC at *
 clear hb hbx hOC hol hog
 generalize toU o.k = q at *
 obtain ⟨RC, hRC, hrl, hone, HMK2⟩ : ∃ RC : List Value, RC = rC (num q) (.slice none 0 0) ∧ RC.length = 260 ∧ (∀ u ∈ RC, u.oneCell' = true) ∧ Hid (∀ W, Calls Try.prog 90 #[.int .u64 (q : Int)] W fun e w' => e = .returned (.agg RC.toArray) ∧ Below W.heap.size W w') := ⟨_, rfl, rC_len rep256, HRC0.out, HMK⟩
 have HRCE := Lib.hid hRC
 clear hRC HMK HRC0
 go_enter Try.func27, Try.ntmps27
 go_wp2_with fail
 refine (HMK2.out _).mono ?_
 rintro e w2 ⟨rfl, hb2⟩
 clear e0
 have hr2 := HRO.out w2 (hb2.mono (by simp))
 have hr3 := rangeAt_below hr2 (by have := hb2.size; simp at this; omega) (balloc (Below.refl _ w2) (.cells RC.toArray 136))
 have HR3 := Lib.hid hr3
 have HB2 := Lib.hid (balloc (bthen HB0.out hb2) (.cells RC.toArray 136))
 have HLT : Hid (w.heap.size + 1 ≤ w2.heap.size) := Lib.hid (by have := hb2.size; simpa using this)
 have HOW : Hid (RVrow w (w.heap.size + 1) (w2.alloc (.cells RC.toArray 136)) (.slice (some ⟨w2.heap.size, 0, none⟩) 1 1) [(num q, .slice none 0 0)]) := Lib.hid ⟨by
  have h := own_new w2 (w.heap.size + 1) HLT.out 136 RC 260 hrl
  have e : ([((num q, Value.slice none 0 0) : V × Value)].map fun p => rC p.1 p.2).flatten = RC := by rw [HRCE.out]; simp
  rw [e]; exact h, fun p hp => by
  obtain rfl : p = (num q, Value.slice none 0 0) := by simpa using hp
  exact ⟨HOK0.out, HSLN.out⟩⟩
 have e0 := HE0.out _ hr3
 clear hb2 hr2 hr3
 go_wp2_with (refine wpList_build1 rfl _ 138 136 260 _ RC rfl rfl Try.underlying138 infoRV3 zsz2 hrl (by omega) (by omega) ?_)
 refine (CN _).mono ?_
 rintro e w3 ⟨rfl, rfl⟩
 obtain ⟨W3, hW3⟩ : ∃ W, w2.alloc (.cells RC.toArray 136) = W := ⟨_, rfl⟩
 have HGE : Hid (w.heap.size + 1 ≤ W3.heap.size) := Lib.hid (by rw [← hW3, World.size_alloc]; have := HLT.out; omega)
 rw [hW3] at HR3 HB2 HOW e0 ⊢
 clear hW3 e0
 generalize hs : strB (nm o.k) = s at *
 clear hs
 go_wp2_with fail
 go_loopw [5, 3] (fun i a wr => ∃ (p : Nat) (v' : Value) (cs : List (V × Value)), p ≤ s.size ∧ i = .int .i64 (p : Int) ∧ v' = a ∧ RVrow w (w.heap.size + 1) wr v' cs ∧ cs.map Prod.fst = num q :: vals o ((nm o.k).take p) ∧ wr.rangeAt w.heap.size 0 OC ∧ Below w.heap.size w wr ∧ w.heap.size + 1 ≤ wr.heap.size) (fun i _ _ => s.size - (intOf i).toNat)
 case atStart => exact ⟨0, _, _, by omega, rfl, rfl, HOW.out, rfl, HR3.out, HB2.out, HGE.out⟩
 case round =>
  obtain ⟨p, v', cs, hp, rfl, rfl, ho, hcs, hr, hb, hge⟩ := hrel
  have HO := Lib.hid ho
  have HCL := Lib.hid hcs
  have HBW := Lib.hid hb
  have HRW := Lib.hid hr
  have HGW := Lib.hid hge
  clear ho hcs hb hr hge
  by_cases hlt : p < s.size
  ·have hget := chs_get hlt
   rw [HCS.out] at hget
   have hmem := List.mem_of_getElem? hget
   have HT : Hid ((nm o.k).take (p + 1) = (nm o.k).take p ++ [s[p]'hlt]) := Lib.hid (by rw [List.take_add_one, hget]; rfl)
   have CVc := Lib.hid (CV.out _ hmem)
   have HCB : Hid ((cs.length + 1) * 304 ≤ 140737488355328) := Lib.hid (by
    have h1 : (cs.map Prod.fst).length = _ := congrArg List.length HCL.out
    rw [List.length_map, List.length_cons] at h1
    unfold vals at h1
    rw [List.length_map, List.length_take] at h1
    omega)
   clear hget hmem
   go_wp2_with fail
   refine wp_region_held_drew (S := fun X => X.rangeAt w.heap.size 0 OC) (by kernel_rfl) ?_ (fun hHeld => ?_)
   ·exact HRW.out
   refine wpAnyH_take (i := 0) (v := ?_) rfl (by kernel_rfl) (by kernel_rfl) (by kernel_rfl) (fun _ _ _ h => h) (Or.inl ⟨by rfl, ?_⟩) (by assumption) ?_
   rotate_left
   ·(intro w hSw; (try dsimp only at hSw); simp only [List.getElem_toArray, List.getElem_cons_zero, List.getElem_cons_succ]; go_simp; first | done | with_reducible rfl)
   simp only [List.getElem_toArray, List.getElem_cons_zero, List.getElem_cons_succ, Act.put, List.setIfInBounds_toArray, List.set_cons_zero, List.set_cons_succ]
   refine wpAnyH_take (i := 1) (v := _) rfl (by kernel_rfl) (by kernel_rfl) (by kernel_rfl) (fun _ _ _ h => h) (yieldsIf_load_mid (by rfl) 26 _ rfl (w.heap.size) (0) rfl (OC) _ (fun w hw => hw) (Try.underlying26) rfl (HI1.out)) (by assumption) ?_
   simp only [List.getElem_toArray, List.getElem_cons_zero, List.getElem_cons_succ, Act.put, List.setIfInBounds_toArray, List.set_cons_zero, List.set_cons_succ]
   refine wpAnyH_take (i := 2) (v := ?_) rfl (by kernel_rfl) (by kernel_rfl) (by kernel_rfl) (fun _ _ _ h => h) (Or.inl ⟨by rfl, ?_⟩) (by assumption) ?_
   rotate_left
   ·(intro w hSw; (try dsimp only at hSw); simp only [List.getElem_toArray, List.getElem_cons_zero, List.getElem_cons_succ]; go_simp; first | done | with_reducible rfl)
   simp only [List.getElem_toArray, List.getElem_cons_zero, List.getElem_cons_succ, Act.put, List.setIfInBounds_toArray, List.set_cons_zero, List.set_cons_succ]
   refine wpAnyH_take (i := 3) (v := ?_) rfl (by kernel_rfl) (by kernel_rfl) (by kernel_rfl) (fun _ _ _ h => h) (Or.inl ⟨by rfl, ?_⟩) (by assumption) ?_
   rotate_left
   ·(intro w hSw; (try dsimp only at hSw); simp only [List.getElem_toArray, List.getElem_cons_zero, List.getElem_cons_succ]; go_simp; first | done | with_reducible rfl)
   simp only [List.getElem_toArray, List.getElem_cons_zero, List.getElem_cons_succ, Act.put, List.setIfInBounds_toArray, List.set_cons_zero, List.set_cons_succ]
   refine wpAnyH_take (i := 4) (v := ?_) rfl (by kernel_rfl) (by kernel_rfl) (by kernel_rfl) (fun _ _ _ h => h) (Or.inl ⟨by rfl, ?_⟩) (by assumption) ?_
   rotate_left
   ·(intro w hSw; (try dsimp only at hSw); simp only [List.getElem_toArray, List.getElem_cons_zero, List.getElem_cons_succ]; go_simp; first | done | with_reducible rfl)
   simp only [List.getElem_toArray, List.getElem_cons_zero, List.getElem_cons_succ, Act.put, List.setIfInBounds_toArray, List.set_cons_zero, List.set_cons_succ]
   refine wpAnyH_ready (rs := [5]) (by kernel_rfl) (by simp) ?_
   refine AllReadyH.cons rfl (fun K hK => ?_) AllReadyH.nil
   simp only [List.getElem_toArray, List.getElem_cons_zero, List.getElem_cons_succ]
   go_simp
   refine (CVc.out _).mono ?_
   rintro e w5 ⟨RD, sl5, rfl, hRD, hdl, hdone, hrd5, hb5⟩
   dsimp only
   refine hK.out _ _ ?_ (fun hHeld => ?_)
   ·exact rangeAt_below HRW.out (by have := HGW.out; omega) (bthen ((Below.refl _ wr).drew) hb5)
   clear hK K
   try simp only [Act.put, List.setIfInBounds_toArray, List.set_cons_zero, List.set_cons_succ]
   have HB5 := Lib.hid (bthen ((Below.refl _ wr).drew) hb5)
   have HO5 := Lib.hid (HO.out.below HB5.out)
   have HR5 := Lib.hid (rangeAt_below HRW.out (by have := HGW.out; omega) HB5.out)
   have HL5 : Hid (w.heap.size + 1 ≤ w5.heap.size) := Lib.hid (Nat.le_trans HGW.out HB5.out.size)
   clear hb5
   refine wpAnyH_ready (rs := [6]) (by kernel_rfl) (by simp) ?_
   refine AllReadyH.cons rfl (fun K hK => ?_) AllReadyH.nil
   simp only [List.getElem_toArray, List.getElem_cons_zero, List.getElem_cons_succ]
   rw [if_pos (by rfl)]
   refine wp_build1 _ 138 136 260 _ RD rfl rfl Try.underlying138 infoRV3 zsz2 hdl (by omega) (by omega) ?_
   intro W6 hW6
   refine hK.out _ _ ?_ (fun hHeld => ?_)
   ·exact (by subst hW6; exact rangeAt_below HR5.out (by have := HL5.out; omega) (balloc (Below.refl _ _) _))
   clear hK K
   try simp only [Act.put, List.setIfInBounds_toArray, List.set_cons_zero, List.set_cons_succ]
   refine wpAnyH_ready (rs := [7]) (by kernel_rfl) (by simp) ?_
   refine AllReadyH.cons rfl (fun K hK => ?_) AllReadyH.nil
   simp only [List.getElem_toArray, List.getElem_cons_zero, List.getElem_cons_succ]
   rw [if_pos (by rfl)]
   refine wp_app1 _ _ 138 rfl (w.heap.size + 1) 136 _ 260 304 Try.underlying138 infoRV4 zagg (by decide) (by decide) v' cs.length _ rfl HO5.out.1 hW6 rfl (by rw [List.size_toArray]; exact hdl) (by simpa using hdone) HCB.out HL5.out ?_
   intro v7 w7 ho7 hb7
   refine hK.out _ _ ?_ (fun hHeld => ?_)
   ·exact rangeLow HR5.out (Nat.lt_succ_self _) hb7
   clear hK K
   try simp only [Act.put, List.setIfInBounds_toArray, List.set_cons_zero, List.set_cons_succ]
   refine wpAnyH_take (i := 8) (v := ?_) rfl (by kernel_rfl) (by kernel_rfl) (by kernel_rfl) (fun _ _ _ h => h) (Or.inl ⟨by rfl, ?_⟩) (by assumption) ?_
   rotate_left
   ·(intro w hSw; (try dsimp only at hSw); simp only [List.getElem_toArray, List.getElem_cons_zero, List.getElem_cons_succ]; go_simp; first | done | with_reducible rfl)
   simp only [List.getElem_toArray, List.getElem_cons_zero, List.getElem_cons_succ, Act.put, List.setIfInBounds_toArray, List.set_cons_zero, List.set_cons_succ]
   refine wpAnyH_done (by kernel_rfl) ?_ _
   have HO7 : Hid (RVrow w (w.heap.size + 1) w7 v7 (cs ++ [(vaL ((s[p]'hlt).toNat : Int) o, sl5)])) := Lib.hid ⟨by
    have e : ((cs ++ [(vaL ((s[p]'hlt).toNat : Int) o, sl5)]).map fun p => rC p.1 p.2).flatten = (cs.map fun p => rC p.1 p.2).flatten ++ RD := by rw [hRD]; simp
    rw [e, List.length_append]
    simpa using ho7, fun z hz => by
    rcases List.mem_append.1 hz with h | h
    ·exact HO5.out.2 z h
    ·obtain rfl : z = (vaL ((s[p]'hlt).toNat : Int) o, sl5) := by simpa using h
     exact ⟨HOKL.out _, hrd5⟩⟩
   have HR7 := Lib.hid (rangeLow HR5.out (Nat.lt_succ_self _) hb7)
   have HB7 : Hid (Below w.heap.size w w7) := Lib.hid ((bthen HBW.out HB5.out).trans (hb7.mono (Nat.le_succ _)))
   have HG7 : Hid (w.heap.size + 1 ≤ w7.heap.size) := Lib.hid (Nat.le_trans HL5.out hb7.size)
   have HC7 := Lib.hid (HVAL.out _ cs (s[p]'hlt) HCL.out sl5)
   clear ho7 hb7 hrd5 hRD hdl hdone
   go_wp2_with fail
   go_roundw
   case rel => exact ⟨p + 1, v7, _, by omega, by go_num, rfl, HO7.out, by rw [HT.out]; exact HC7.out, HR7.out, HB7.out, HG7.out⟩
   case measure => simp [intOf] <;> omega
  ·obtain rfl : p = s.size := by omega
   have hfin : cs.map Prod.fst = num q :: vals o (nm o.k) := by
    rw [HCL.out, List.take_of_length_le (by rw [← HCS.out, chs_len]; exact Nat.le_refl _)]
   have CP := Lib.hid (HPK.out wr v' cs HO.out HBW.out hfin)
   have e0 := HE0.out _ HRW.out
   clear hfin
   go_wp2_with fail
   refine (CSH _).mono ?_
   rintro e w4 ⟨rfl, rfl⟩
   go_wp2_with fail
   refine (CP.out).mono ?_
   rintro e w4 ⟨hb4, v4, rfl, ho4⟩
   go_wp2_with fail
   go_ret
   exact ⟨v4, rfl, ownsRow_base ho4 (by have := HGW.out; omega), bthen HBW.out hb4⟩
end Go.Proofs.Ytgkelbdgdhkeoaa
/- What an operation is answered: plain Lean (no program). -/
namespace Go.Proofs.Ytgkelbdgdhkeoaa
open Go.RowKit
set_option linter.unusedVariables false
open Wire Cmd
namespace Cmd
/-- An answer. -/
structure Ans0 where
 code : Int
 done : Int
 data : List UInt8
deriving DecidableEq
def ansEq (a b : Ans0) : Bool := decide (a = b)
structure Ans0.Ok (a : Ans0) : Prop where
 code : -9223372036854775808 ≤ a.code ∧ a.code ≤ 9223372036854775807
 done : -9223372036854775808 ≤ a.done ∧ a.done ≤ 9223372036854775807
/-- May an answer be? -/
def MayA (a : Ans0) : Prop := 0 ≤ a.code ∧ a.code ≤ 14 ∧ 0 ≤ a.done ∧ a.done ≤ 1024 ∧ (a.done = 0 ∨ a.code = 8) ∧ a.data.length % 64 = 0 ∧ a.data.length ≤ 65536 ∧ (a.code = 0 ∨ a.data.length = 0)
instance (a : Ans0) : Decidable (MayA a) := by unfold MayA; infer_instance
def mayA (a : Ans0) : Bool := decide (MayA a)
/-- An answer's bytes; none: it may not be. -/
def packA (a : Ans0) : Option (List UInt8) := if mayA a then pack [49, 52, 42] [num (toU a.code), num (toU a.done), blob a.data] else none
end Cmd
theorem lay_n1 {n : Nat} (h : n < 256) : lay 49 (num n) = some [UInt8.ofNat n] := by
 have h2 : isNum 49 = true ∧ n < 256 ^ wid 49 := ⟨rfl, by rw [show wid 49 = 1 from rfl]; omega⟩
 have h3 : lay 49 (num n) = some (low n (wid 49)) := if_pos h2
 rw [h3, show wid 49 = 1 from rfl]
 show some [UInt8.ofNat (n % 256)] = _
 rw [Nat.mod_eq_of_lt h]
theorem lay_b42 {l : List UInt8} (h : l.length ≤ 16777216) : lay 42 (blob l) = some (low l.length 4 ++ l) := by
 have h2 : (42 : UInt8) = 42 ∧ l.length ≤ 16777216 := ⟨rfl, h⟩
 exact if_pos h2
end Go.Proofs.Ytgkelbdgdhkeoaa
/- SameAnswer of both, the reference's MayAnswer, walked. -/
namespace Go.Proofs.Ytgkelbdgdhkeoaa
open Go.RowKit
set_option linter.unusedVariables false
set_option linter.unusedSimpArgs false
open Wire Cmd
/-- An answer's cells; by value. -/
def aC (a : Ans0) (sl : Value) : Array Value := #[.int .i64 a.code, .int .i64 a.done, sl]
end Go.Proofs.Ytgkelbdgdhkeoaa
/- MayAnswer, walked. -/
namespace Go.Proofs.Ytgkelbdgdhkeoaa
open Go.RowKit
set_option linter.unusedVariables false
set_option linter.unusedSimpArgs false
open Wire Cmd
end Go.Proofs.Ytgkelbdgdhkeoaa
/- CopyAnswer, AnswerBytes, the reference's PackAnswer, walked. -/
namespace Go.Proofs.Ytgkelbdgdhkeoaa
open Go.RowKit
set_option linter.unusedVariables false
set_option linter.unusedSimpArgs false
open Wire Cmd
end Go.Proofs.Ytgkelbdgdhkeoaa
/- The reference's PackAnswer, walked. -/
namespace Go.Proofs.Ytgkelbdgdhkeoaa
open Go.RowKit
set_option linter.unusedVariables false
set_option linter.unusedSimpArgs false
open Wire Cmd
end Go.Proofs.Ytgkelbdgdhkeoaa
/- What bytes are: an operation, an answer: plain Lean (no program). -/
namespace Go.Proofs.Ytgkelbdgdhkeoaa
set_option linter.unusedVariables false
open Wire Cmd
namespace Cmd
/-- An operation with what a letter stands for. -/
def getL (o : Op0) (c : UInt8) (v : V) : Op0 :=
 if c = 118 then { o with vol := v.n } else if c = 116 then ⟨o.k, o.vol, v.n, o.size, o.pl, o.count, o.data⟩ else if c = 115 then { o with size := (v.n : Int) }
 else if c = 97 then { o with pl := (v.n : Int) } else if c = 99 then { o with count := (v.n : Int) } else { o with data := v.b }
def getAll : Op0 → List UInt8 → List V → Op0
 | o, c :: cs, v :: vs => getAll (getL o c v) cs vs
 | o, _, _ => o
def kind0 (k : UInt8) : Op0 := ⟨(k.toNat : Int), 0, 0, 0, 0, 0, []⟩
/-- The operation of bytes; none: none's. -/
def ofO : List UInt8 → Option Op0
 | [] => none
 | k :: r => (unpack (shS (nm (k.toNat : Int))) r).bind fun p =>
  if p.2 = r.length then (if mayO (getAll (kind0 k) (nm (k.toNat : Int)) p.1) then some (getAll (kind0 k) (nm (k.toNat : Int)) p.1) else none) else none
/-- The answer of values. -/
def ansV : List V → Option Ans0
 | [x, y, z] => if mayA ⟨(x.n : Int), (y.n : Int), z.b⟩ then some ⟨(x.n : Int), (y.n : Int), z.b⟩ else none
 | _ => none
/-- The answer of bytes; none: none's. -/
def ofA (b : List UInt8) : Option Ans0 := (unpack [49, 52, 42] b).bind fun p => if p.2 = b.length then ansV p.1 else none
end Cmd
theorem getAll_k : ∀ (cs : List UInt8) (l : List V) (o : Op0), (getAll o cs l).k = o.k
 | [], _, _ => by unfold getAll; rfl
 | _ :: _, [], _ => by unfold getAll; rfl
 | c :: cs, v :: vs, o => by
  rw [getAll, getAll_k cs vs]
  unfold getL
  (repeat' split) <;> rfl
theorem same_num {v : V} {n : Nat} (h : SameV v (num n)) : v.n = n := by
 obtain ⟨h1, h2⟩ := h
 have e : v.letter = 56 := h1
 rcases h2 with h | h | h | h
 ·exact h.2
 ·exact absurd (e.symm.trans h.1) (by decide)
 ·exact absurd (e.symm.trans h.1) (by decide)
 ·exact absurd (e.symm.trans h.1) (by decide)
theorem same_blob {v : V} {l : List UInt8} (h : SameV v (blob l)) : v.b = l := by
 obtain ⟨h1, h2⟩ := h
 have e : v.letter = 42 := h1
 rcases h2 with h | h | h | h
 ·exact absurd (e.symm.trans h.1) (by decide)
 ·exact absurd (e.symm.trans h.1) (by decide)
 ·exact h.2
 ·exact absurd (e.symm.trans h.1) (by decide)
def six (c : UInt8) : Prop := c = 118 ∨ c = 116 ∨ c = 115 ∨ c = 97 ∨ c = 99 ∨ c = 100
theorem getL_setL (o b : Op0) (c : UInt8) (v : V) (hc : six c) (hw : wIn (c.toNat : Int) o = true) (hv : SameV v (vaL (c.toNat : Int) o)) : getL b c v = setL b (c.toNat : Int) o := by
 rcases hc with rfl | rfl | rfl | rfl | rfl | rfl
 ·have e := same_num (n := o.vol) hv
  show ({ b with vol := v.n } : Op0) = { b with vol := o.vol }
  rw [e]
 ·have e := same_num (n := o.to) hv
  show (⟨b.k, b.vol, v.n, b.size, b.pl, b.count, b.data⟩ : Op0) = ⟨b.k, b.vol, o.to, b.size, b.pl, b.count, b.data⟩
  rw [e]
 ·have e := same_num (n := toU o.size) hv
  have h : (decide (0 ≤ o.size) && decide (o.size ≤ 256)) = true := hw
  simp only [Bool.and_eq_true, decide_eq_true_eq] at h
  show ({ b with size := (v.n : Int) } : Op0) = { b with size := o.size }
  rw [e, toU_of h.1 (by omega)]
 ·have e := same_num (n := toU o.pl) hv
  have h : (decide (0 ≤ o.pl) && decide (o.pl ≤ 1048576)) = true := hw
  simp only [Bool.and_eq_true, decide_eq_true_eq] at h
  show ({ b with pl := (v.n : Int) } : Op0) = { b with pl := o.pl }
  rw [e, toU_of h.1 (by omega)]
 ·have e := same_num (n := toU o.count) hv
  have h : (decide (1 ≤ o.count) && decide (o.count ≤ 1024)) = true := hw
  simp only [Bool.and_eq_true, decide_eq_true_eq] at h
  show ({ b with count := (v.n : Int) } : Op0) = { b with count := o.count }
  rw [e, toU_of (by omega) (by omega)]
 ·have e := same_blob (l := o.data) hv
  show ({ b with data := v.b } : Op0) = { b with data := o.data }
  rw [e]
theorem getAll_bare (o : Op0) : ∀ (cs : List UInt8) (l : List V) (b : Op0), SameVs l (vals o cs) → (∀ c ∈ cs, six c ∧ wIn (c.toNat : Int) o = true) → getAll b cs l = cs.foldl (fun b c => setL b (c.toNat : Int) o) b
 | [], l, b, _, _ => by unfold getAll; rfl
 | c :: cs, l, b, hs, hc => by
  cases l with
  | nil => exact absurd hs.1 (by simp [vals])
  | cons v vs =>
   rw [getAll, List.foldl_cons, getL_setL o b c v (hc c (by simp)).1 (hc c (by simp)).2 (hs.2 0 v _ rfl rfl)]
   refine getAll_bare o cs vs _ ⟨?_, fun j x y h1 h2 => hs.2 (j + 1) x y (by simpa using h1) (by simpa [vals] using h2)⟩ fun d hd => hc d (by simp [hd])
   have := hs.1
   simp [vals] at this ⊢
   omega
theorem vals_x (o : Op0) (l : List UInt8) : ∀ v ∈ vals o l, v.x.length = 256 := by
 intro v hv
 obtain ⟨c, _, rfl⟩ := List.mem_map.1 hv
 unfold vaL
 (repeat' split) <;> exact List.length_replicate
theorem packO_parts {o : Op0} {bs : List UInt8} (h : packO o = some bs) : mayO o = true ∧ ∃ r, bs = UInt8.ofNat (toU o.k) :: r ∧ pack (shS (nm o.k)) (vals o (nm o.k)) = some r := by
 cases hm : mayO o with
 | false => rw [packO_none hm] at h; cases h
 | true =>
  obtain ⟨bs', h1, h2⟩ := packO_some hm
  rw [h] at h1
  obtain rfl := Option.some.inj h1
  obtain ⟨_, k1, k2⟩ := mayO_parts hm
  have hk := toU_of (n := o.k) (by omega) (by omega)
  refine ⟨rfl, ?_⟩
  rw [pack, lay_n1 (by omega), Option.bind_some] at h2
  cases hp : pack (shS (nm o.k)) (vals o (nm o.k)) with
  | none => rw [hp] at h2; cases h2
  | some r => rw [hp] at h2; exact ⟨r, (Option.some.inj h2).symm, rfl⟩
/-- What was packed is read as it was. -/
theorem ofO_packO {o : Op0} {bs : List UInt8} (h : packO o = some bs) : ofO bs = some o := by
 obtain ⟨hm, r, rfl, hp⟩ := packO_parts h
 obtain ⟨h1, k1, k2⟩ := mayO_parts hm
 have hk := toU_of (n := o.k) (by omega) (by omega)
 have hk2 : (UInt8.ofNat (toU o.k)).toNat = toU o.k := by rw [UInt8.toNat_ofNat']; omega
 obtain ⟨_, l', hu, hs⟩ := unpack_pack _ _ _ (vals_x o _) hp []
 rw [List.append_nil] at hu
 have hg := getAll_bare o (nm o.k) l' (bare0 o) hs (fun c hc => ⟨nm_six o.k c hc, h1 c hc⟩)
 have hb : bare o (nm o.k) = o := by
  unfold mayO at hm
  simp only [Bool.and_eq_true] at hm
  exact (opEq_iff.1 hm.2).symm
 have hk0 : kind0 (UInt8.ofNat (toU o.k)) = bare0 o := by unfold kind0 bare0; rw [hk2, hk]
 rw [ofO, hk2, hk, hu, Option.bind_some, if_pos rfl, hk0, hg]
 show (if mayO (bare o (nm o.k)) = true then some (bare o (nm o.k)) else none) = _
 rw [hb, if_pos hm]
/-- What a letter's value is. -/
def ValOf (c : UInt8) (v : V) : Prop := (shL (c.toNat : Int) = 52 ∧ v = num v.n ∧ v.n < 4294967296) ∨ (shL (c.toNat : Int) = 42 ∧ v = blob v.b)
theorem lift_52 {b : List UInt8} {v : V} {k : Nat} (h : lift 52 b = some (v, k)) : v = num v.n ∧ v.n < 4294967296 := by
 unfold lift at h
 split at h
 ·cases h
 ·rename_i hl
  rw [if_neg (by decide), if_neg (by decide), if_neg (by decide)] at h
  obtain ⟨rfl, rfl⟩ := Prod.mk.inj (Option.some.inj h)
  refine ⟨rfl, ?_⟩
  have := sum_take_pow b (wid 52) (by omega)
  exact this
theorem lift_42 {b : List UInt8} {v : V} {k : Nat} (h : lift 42 b = some (v, k)) : v = blob v.b := by
 unfold lift at h
 split at h
 ·cases h
 ·rw [if_neg (by decide), if_pos rfl] at h
  split at h
  ·cases h
  ·obtain ⟨rfl, rfl⟩ := Prod.mk.inj (Option.some.inj h)
   rfl
theorem shL_or (c : Int) : shL c = 52 ∨ shL c = 42 := by unfold shL; split <;> simp
theorem may_shS (cs : List UInt8) : may (shS cs) = true := by
 unfold may shS
 rw [List.all_eq_true]
 intro x hx
 obtain ⟨c, _, rfl⟩ := List.mem_map.1 hx
 rcases shL_or (c.toNat : Int) with h | h <;> rw [h] <;> decide
inductive VTs : List UInt8 → List V → Prop
 | nil : VTs [] []
 | cons {c : UInt8} {cs : List UInt8} {v : V} {vs : List V} : ValOf c v → VTs cs vs → VTs (c :: cs) (v :: vs)
theorem unpackT : ∀ (cs : List UInt8) (r : List UInt8) (l : List V) (n : Nat), unpack (shS cs) r = some (l, n) → VTs cs l
 | [], r, l, n, h => by
  obtain ⟨rfl, rfl⟩ := Prod.mk.inj (Option.some.inj h)
  exact .nil
 | c :: cs, r, l, n, h => by
  have e : shS (c :: cs) = shL (c.toNat : Int) :: shS cs := rfl
  rw [e, unpack] at h
  cases hl : lift (shL (c.toNat : Int)) r with
  | none => rw [hl] at h; cases h
  | some p =>
   obtain ⟨v, k⟩ := p
   rw [hl, Option.bind_some] at h
   dsimp only at h
   cases hu : unpack (shS cs) (r.drop k) with
   | none => rw [hu] at h; cases h
   | some q =>
    obtain ⟨vs, m⟩ := q
    rw [hu] at h
    obtain ⟨rfl, rfl⟩ := Prod.mk.inj (Option.some.inj h)
    refine .cons ?_ (unpackT cs _ _ _ hu)
    rcases shL_or (c.toNat : Int) with h1 | h1
    ·rw [h1] at hl; exact .inl ⟨h1, lift_52 hl⟩
    ·rw [h1] at hl; exact .inr ⟨h1, lift_42 hl⟩
theorem toU_nat {n : Nat} (h : n < 4294967296) : toU (n : Int) = n := by unfold toU; omega
theorem valN {c : UInt8} {v : V} (h : ValOf c v) (hc : shL (c.toNat : Int) = 52) : v = num v.n ∧ toU (v.n : Int) = v.n := by
 rcases h with h | h
 ·exact ⟨h.2.1, toU_nat h.2.2⟩
 ·rw [hc] at h; exact absurd h.1 (by decide)
theorem valB {c : UInt8} {v : V} (h : ValOf c v) (hc : shL (c.toNat : Int) = 42) : v = blob v.b := by
 rcases h with h | h
 ·rw [hc] at h; exact absurd h.1 (by decide)
 ·exact h.2
theorem nm_cases (k : Int) : nm k = [118, 115] ∨ nm k = [118] ∨ nm k = [118, 116] ∨ nm k = [118, 97, 100] ∨ nm k = [118, 97, 99] ∨ nm k = [] := by
 unfold nm; (repeat' split) <;> simp
theorem vals_getAll (b : Op0) (k : Int) (l : List V) (h : VTs (nm k) l) : vals (getAll b (nm k) l) (nm k) = l := by
 rcases nm_cases k with e | e | e | e | e | e
 ·rw [e] at h ⊢
  obtain _ | ⟨h1, _ | ⟨h2, _ | _⟩⟩ := h
  obtain ⟨e1, t1⟩ := valN h1 rfl
  obtain ⟨e2, t2⟩ := valN h2 rfl
  rename_i v1 v2
  show [num v1.n, num (toU (v2.n : Int))] = _
  rw [t2, ← e1, ← e2]
 ·rw [e] at h ⊢
  obtain _ | ⟨h1, _ | _⟩ := h
  obtain ⟨e1, t1⟩ := valN h1 rfl
  rename_i v1
  show [num v1.n] = _
  rw [← e1]
 ·rw [e] at h ⊢
  obtain _ | ⟨h1, _ | ⟨h2, _ | _⟩⟩ := h
  obtain ⟨e1, t1⟩ := valN h1 rfl
  obtain ⟨e2, t2⟩ := valN h2 rfl
  rename_i v1 v2
  show [num v1.n, num v2.n] = _
  rw [← e1, ← e2]
 ·rw [e] at h ⊢
  obtain _ | ⟨h1, _ | ⟨h2, _ | ⟨h3, _ | _⟩⟩⟩ := h
  obtain ⟨e1, t1⟩ := valN h1 rfl
  obtain ⟨e2, t2⟩ := valN h2 rfl
  have e3 := valB h3 rfl
  rename_i v1 v2 v3
  show [num v1.n, num (toU (v2.n : Int)), blob v3.b] = _
  rw [t2, ← e1, ← e2, ← e3]
 ·rw [e] at h ⊢
  obtain _ | ⟨h1, _ | ⟨h2, _ | ⟨h3, _ | _⟩⟩⟩ := h
  obtain ⟨e1, t1⟩ := valN h1 rfl
  obtain ⟨e2, t2⟩ := valN h2 rfl
  obtain ⟨e3, t3⟩ := valN h3 rfl
  rename_i v1 v2 v3
  show [num v1.n, num (toU (v2.n : Int)), num (toU (v3.n : Int))] = _
  rw [t2, t3, ← e1, ← e2, ← e3]
 ·rw [e] at h ⊢
  obtain _ | _ := h
  rfl
/-- Bytes that are read are just those of what comes. -/
theorem packO_ofO {b : List UInt8} {d : Op0} (h : ofO b = some d) : packO d = some b := by
 cases b with
 | nil => cases h
 | cons k r =>
  rw [ofO] at h
  cases hu : unpack (shS (nm (k.toNat : Int))) r with
  | none => rw [hu] at h; cases h
  | some p =>
   obtain ⟨l, n⟩ := p
   rw [hu, Option.bind_some] at h
   by_cases hn : n = r.length
   ·rw [if_pos hn] at h
    cases hm : mayO (getAll (kind0 k) (nm (k.toNat : Int)) l) with
    | false => rw [hm] at h; cases h
    | true =>
     rw [hm, if_pos rfl] at h
     obtain rfl := Option.some.inj h
     have hv := vals_getAll (kind0 k) (k.toNat : Int) l (unpackT _ _ _ _ hu)
     have hp := pack_unpack _ _ _ _ (may_shS _) hu
     have hk : (getAll (kind0 k) (nm (k.toNat : Int)) l).k = (k.toNat : Int) := getAll_k _ _ _
     rw [hn, List.take_length] at hp
     have hkl := k.toNat_lt
     unfold packO
     rw [if_pos hm, hk, hv, toU_nat (by omega), pack, lay_n1 (by omega), Option.bind_some, hp, UInt8.ofNat_toNat]
     rfl
   ·rw [if_neg hn] at h; cases h
/-- The letters of an answer's shape, as they were those of a kind. -/
theorem lift_49 {b : List UInt8} {v : V} {k : Nat} (h : lift 49 b = some (v, k)) : v = num v.n ∧ v.n < 256 := by
 unfold lift at h
 split at h
 ·cases h
 ·rename_i hl
  rw [if_neg (by decide), if_neg (by decide), if_neg (by decide)] at h
  obtain ⟨rfl, rfl⟩ := Prod.mk.inj (Option.some.inj h)
  refine ⟨rfl, ?_⟩
  have := sum_take_pow b (wid 49) (by omega)
  exact this
theorem unpack_cons {c : UInt8} {s b : List UInt8} {l : List V} {n : Nat} (h : unpack (c :: s) b = some (l, n)) : ∃ v k vs m, lift c b = some (v, k) ∧ unpack s (b.drop k) = some (vs, m) ∧ l = v :: vs ∧ n = k + m := by
 rw [unpack] at h
 cases hl : lift c b with
 | none => rw [hl] at h; cases h
 | some p =>
  obtain ⟨v, k⟩ := p
  rw [hl, Option.bind_some] at h
  dsimp only at h
  cases hu : unpack s (b.drop k) with
  | none => rw [hu] at h; cases h
  | some q =>
   obtain ⟨vs, m⟩ := q
   rw [hu] at h
   obtain ⟨rfl, rfl⟩ := Prod.mk.inj (Option.some.inj h)
   exact ⟨v, k, vs, m, rfl, hu, rfl, rfl⟩
end Go.Proofs.Ytgkelbdgdhkeoaa
