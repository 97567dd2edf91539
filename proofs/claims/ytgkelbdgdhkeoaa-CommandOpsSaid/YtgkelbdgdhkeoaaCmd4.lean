/- What clients ask: shape, walked. -/
import Derived.Test.YtgkelbdgdhkeoaaCmd3
import Derived.Test.YtgkelbdgdhkeoaaPack
import Derived.Test.YtgkelbdgdhkeoaaUnpack
namespace Go.Proofs.Ytgkelbdgdhkeoaa
open Go.RowKit
set_option linter.unusedVariables false
set_option linter.unusedSimpArgs false
open Wire Cmd

/-- Values in a row that is new, their bytes in the world w. -/
def RowA (B : Nat) (w W : World) (v : Value) (l : List V) : Prop :=
  ∃ xs, W.ownsRow B 20 1 v l.length xs ∧ ∀ (j : Nat) (x : V), l[j]? = some x → ∃ u, xs[j]? = some u ∧ AnyV w u x
theorem RowA.below {B : Nat} {w W W' : World} {v : Value} {l : List V} (h : RowA B w W v l) (hb : Below W.heap.size W W') : RowA B w W' v l := by
  obtain ⟨xs, ho, hx⟩ := h
  exact ⟨xs, ownsRow_below ho hb, hx⟩
theorem RowA.at {B : Nat} {w W W' : World} {v : Value} {l : List V} (h : RowA B w W v l) (hs : ∀ k ∈ ob v, W'.heap[k]? = W.heap[k]?) : RowA B w W' v l := by
  obtain ⟨xs, ho, hx⟩ := h
  exact ⟨xs, ownsRow_at ho hs, hx⟩
theorem RowA.snoc {B : Nat} {w W' : World} {v' u : Value} {l : List V} {x : V} {xs : List Value} (hx : ∀ (j : Nat) (x : V), l[j]? = some x → ∃ u, xs[j]? = some u ∧ AnyV w u x) (hn : xs.length = l.length)
    (ho : W'.ownsRow B 20 1 v' (l.length + 1) (xs ++ [u])) (hu : AnyV w u x) : RowA B w W' v' (l ++ [x]) := by
  refine ⟨xs ++ [u], by rw [List.length_append]; exact ho, fun j y hj => ?_⟩
  rcases Nat.lt_trichotomy j l.length with h | h | h
  · rw [List.getElem?_append_left h] at hj
    obtain ⟨z, h1, h2⟩ := hx j y hj
    exact ⟨z, by rw [List.getElem?_append_left (by omega)]; exact h1, h2⟩
  · subst h
    have hy : x = y := by simpa using hj
    subst hy
    exact ⟨u, by rw [← hn]; simp, hu⟩
  · rw [List.getElem?_eq_none (by simp; omega)] at hj; cases hj

theorem u64_wrap (n : Int) : IntKind.u64.wrap n = ((toU n : Nat) : Int) := by
  rw [IntKind.wrap_u64]; unfold toU; omega
theorem u64_lt (n : Int) : toU n < 18446744073709551616 := by unfold toU; omega
theorem strB_snoc (l : List UInt8) (c : UInt8) : strB (l ++ [c]) = strB l ++ ⟨#[c]⟩ := by simp [strB, ByteArray.ext_iff]
theorem any_num (w : World) (n : Nat) (h : n < 18446744073709551616) : AnyV w (.iface 23 (.int .u64 (n : Int))) (num n) := .inl ⟨rfl, rfl, h⟩
theorem any_blob (w : World) (sl : Value) (l : List UInt8) (h : Rd w 1 sl l.length (bV l)) : AnyV w (.iface 24 sl) (blob l) := .inr (.inr (.inl ⟨rfl, sl, rfl, h⟩))

/-- What a round of shape knows of memory. -/
structure ShM (B K : Nat) (w : World) (o : Op0) (sl v : Value) (l : List V) (pos : Nat) (W : World) : Prop where
  it : W.heap[K]? = some (.stringIter (strB (nm o.k)) pos)
  bx : W.heap[B]? = some (.cells (oC o sl) 26 (0, 0))
  row : RowA (B + 1) w W v l
  ap : ∀ j ∈ ob v, j ≠ K
  below : Below B w W
  kb : B + 1 < K
theorem ShM.next {B K : Nat} {w : World} {o : Op0} {sl v : Value} {l : List V} {pos p' : Nat} {W : World} (h : ShM B K w o sl v l pos W) : ShM B K w o sl v l p' (W.iterAt K (strB (nm o.k)) p') :=
  ⟨Lib.iterAt_heap W K _ pos p' h.it, (Lib.iterAt_other _ _ _ _ _ (by have := h.kb; omega)).trans h.bx, h.row.at (fun k hk => Lib.iterAt_other _ _ _ _ _ (h.ap k hk)), h.ap, Lib.below_iterAt h.below (by have := h.kb; omega) _ _, h.kb⟩
theorem ShM.grown {B K : Nat} {w : World} {o : Op0} {sl v v' u : Value} {l : List V} {x : V} {xs : List Value} {pos : Nat} {W W' : World} (h : ShM B K w o sl v l pos W)
    (hx : ∀ (j : Nat) (x : V), l[j]? = some x → ∃ u, xs[j]? = some u ∧ AnyV w u x) (hn : xs.length = l.length) (ho1 : W.ownsRow (B + 1) 20 1 v l.length xs)
    (ho : W'.ownsRow (B + 1) 20 1 v' (l.length + 1) (xs ++ [u])) (hu : AnyV w u x) (hb : Below (B + 1) W W') (hg : W.grownBy W' v.ownBlock) (hs : SameOrNew W v v') : ShM B K w o sl v' (l ++ [x]) pos W' := by
  have hk := (Array.getElem?_eq_some_iff.1 h.it).1
  have hkb := h.kb
  refine ⟨(hg.block K hk (fun e => h.ap K (by unfold ob; rw [Option.mem_toList]; exact e.symm) rfl)).trans h.it, (hb.block B (by omega)).trans h.bx, RowA.snoc hx hn ho hu, fun j hj => ?_, h.below.trans (hb.mono (by omega)), hkb⟩
  rcases (Chg.of_grown hg hs).2 j hj with h1 | h1
  · exact h.ap j h1
  · omega

set_option maxRecDepth 100000 in
set_option maxHeartbeats 6400000 in
theorem shape_any (o : Op0) (ok : o.Ok) (sl : Value) (w : World) (hd : Rd w 1 sl o.data.length (bV o.data)) :
    Calls Try.prog 82 #[.agg (oC o sl)] w fun e w' => ∃ v', e = .returned (.tuple #[.string (strB (shS (nm o.k))), v']) ∧ Below w.heap.size w w' ∧ RowA w.heap.size w w' v' (vals o (nm o.k)) := by
  have HD := Lib.hid hd
  have HOK := Lib.hid ok
  have hk1 := ok.k.1
  have hk2 := ok.k.2
  have HQ1 := Lib.hid ok.vol
  have HQ2 := Lib.hid ok.to
  obtain ⟨B, hB⟩ : ∃ B, w.heap.size = B := ⟨_, rfl⟩
  clear ok
  obtain ⟨ao, cap, rfl, _⟩ := hd
  have hoC : oC o (.slice ao o.data.length cap) = #[.int .i64 o.k, .int .u64 (o.vol : Int), .int .u64 (o.to : Int), .int .i64 o.size, .int .i64 o.pl, .int .i64 o.count, .slice ao o.data.length cap] := rfl
  have HOC := Lib.hid hoC
  rw [hoC]
  clear hoC
  have HBS : Hid (Below w.heap.size w ((w.alloc (.cells #[.int .i64 o.k, .int .u64 (o.vol : Int), .int .u64 (o.to : Int), .int .i64 o.size, .int .i64 o.pl, .int .i64 o.count, .slice ao o.data.length cap] 26)).alloc (.cells #[] 20))) := Lib.hid (balloc (balloc (Below.refl _ _) _) _)
  have HB0 : Hid (((w.alloc (.cells #[.int .i64 o.k, .int .u64 (o.vol : Int), .int .u64 (o.to : Int), .int .i64 o.size, .int .i64 o.pl, .int .i64 o.count, .slice ao o.data.length cap] 26)).alloc (.cells #[] 20)).heap[B]? = some (.cells (oC o (.slice ao o.data.length cap)) 26 (0, 0)) ∧
      ((w.alloc (.cells #[.int .i64 o.k, .int .u64 (o.vol : Int), .int .u64 (o.to : Int), .int .i64 o.size, .int .i64 o.pl, .int .i64 o.count, .slice ao o.data.length cap] 26)).alloc (.cells #[] 20)).ownsRow (B + 1) 20 1 (.slice (some ⟨B + 1, 0, none⟩) 0 0) 0 []) := Lib.hid (by
    subst hB
    refine ⟨?_, ?_⟩
    · rw [Below.heap_alloc _ _ _ (by simp)]; exact heap_alloc_new w _
    · have := World.ownsRow_made (base := w.heap.size + 1) (e := 20) (size := 1) (w.alloc (.cells #[.int .i64 o.k, .int .u64 (o.vol : Int), .int .u64 (o.to : Int), .int .i64 o.size, .int .i64 o.pl, .int .i64 o.count, .slice ao o.data.length cap] 26)) #[] 0 (by simp) (by decide) rfl
      rw [World.size_alloc] at this
      exact this)
  go_enter Try.func82, Try.ntmps82
  go_wp2_with fail
  refine (names_any _ _).mono ?_
  rintro e w1 ⟨rfl, hb1⟩
  obtain ⟨K, hK⟩ : ∃ K, w1.heap.size = K := ⟨_, rfl⟩
  have HI : Hid (ShM B K w o (.slice ao o.data.length cap) (.slice (some ⟨B + 1, 0, none⟩) 0 0) [] 0 (w1.iter (strB (nm o.k)) 0)) := Lib.hid (by
    have hs1 := hb1.size
    rw [World.size_alloc, World.size_alloc, hB] at hs1
    have hbi : Below w1.heap.size w1 (w1.iter (strB (nm o.k)) 0) := balloc (Below.refl _ _) _
    refine ⟨hK ▸ World.iter_heap w1 _ 0, ?_, ⟨[], ?_, fun j x hj => by simp at hj⟩, ?_, ?_, by omega⟩
    · exact (hbi.block B (by omega)).trans ((hb1.block B (by rw [World.size_alloc, World.size_alloc, hB]; omega)).trans HB0.out.1)
    · exact ownsRow_below (ownsRow_below HB0.out.2 hb1) hbi
    · intro j hj; rw [ob_some] at hj; simp at hj; omega
    · have := bthen (bthen HBS.out hb1) hbi
      rwa [hB] at this)
  clear hb1
  go_wp2_with fail
  generalize w1.iter (strB (nm o.k)) 0 = w2 at HI ⊢
  have HB := Lib.hid hB
  clear hB hK
  have hsz3 : (strB (nm o.k)).size ≤ 3 := by rw [str_size]; exact nm_len _
  have HL := Lib.hid (nm_low o.k)
  have HCS := Lib.hid (chs_str (nm o.k))
  have HSS := Lib.hid (str_size (nm o.k))
  generalize hs : strB (nm o.k) = s at *
  have HS := Lib.hid hs
  clear hs
  go_loopg [4, 5] s.size (fun g a l wr => ∃ (pos : Nat) (v' : Value), pos ≤ s.size ∧ g = s.size - pos ∧ a = .string (strB (shS ((nm o.k).take pos))) ∧ v' = l ∧ ShM B K w o (.slice ao o.data.length cap) v' (vals o ((nm o.k).take pos)) pos wr)
  case atStart => exact ⟨0, _, by omega, by omega, rfl, rfl, HI.out⟩
  case round =>
    obtain ⟨pos, v', hp, hg, rfl, rfl, hm⟩ := hrel
    have HG := Lib.hid hg
    have HM := Lib.hid hm
    have hit : wr.heap[K]? = some (.stringIter s pos) := by rw [← HS.out]; exact hm.it
    clear hg hm
    by_cases hlt : pos < s.size
    · obtain ⟨c, hc⟩ : ∃ c, (s[pos]'hlt) = c := ⟨_, rfl⟩
      have hget : (nm o.k)[pos]? = some c := by
        have h1 := chs_get hlt
        rw [HCS.out, hc] at h1; exact h1
      have hlow : c.toNat < 128 := HL.out c (List.mem_of_getElem? hget)
      have hdec : Utf8.decode s pos = (c.toNat, 1) := by rw [← hc]; exact decode_ascii s pos hlt (by rw [hc]; exact hlow)
      have hnx := fun ty => Lib.run_next_any_at (P := Try.prog) wr K s pos ty hit hlt
      simp only [hdec] at hnx
      have HM2 : Hid (ShM B K w o (.slice ao o.data.length cap) v' (vals o ((nm o.k).take pos)) (pos + 1) (wr.iterAt K s (pos + 1))) := Lib.hid (by rw [← HS.out]; exact HM.out.next)
      obtain ⟨wr2, hwr2⟩ : ∃ W, wr.iterAt K s (pos + 1) = W := ⟨_, rfl⟩
      rw [hwr2] at hnx HM2
      have hbx2 := HM2.out.bx
      have c0 : wr2.cell? ⟨B, 0, none⟩ = some (.int .i64 o.k) := cellIs hbx2 rfl
      have c1 : wr2.cell? ⟨B, 1, none⟩ = some (.int .u64 (o.vol : Int)) := cellIs hbx2 rfl
      have c2 : wr2.cell? ⟨B, 2, none⟩ = some (.int .u64 (o.to : Int)) := cellIs hbx2 rfl
      have c3 : wr2.cell? ⟨B, 3, none⟩ = some (.int .i64 o.size) := cellIs hbx2 rfl
      have c4 : wr2.cell? ⟨B, 4, none⟩ = some (.int .i64 o.pl) := cellIs hbx2 rfl
      have c5 : wr2.cell? ⟨B, 5, none⟩ = some (.int .i64 o.count) := cellIs hbx2 rfl
      have c6 : wr2.cell? ⟨B, 6, none⟩ = some (.slice ao o.data.length cap) := cellIs hbx2 rfl
      have HGET := Lib.hid hget
      clear hwr2 hbx2 hit hdec hc
      by_cases h118 : (c.toNat : Int) = 118
      · have g118 : ((c.toNat : Int) == 118) = true := beqI h118
        have hva : vaL (c.toNat : Int) o = num o.vol := by unfold vaL; simp [h118]
        have hsa : shL (c.toNat : Int) = 52 := by unfold shL; simp [h118]
        have hua := any_num w o.vol HQ1.out
        have hwz := u64_wrap o.size
        have hwp := u64_wrap o.pl
        have hwc := u64_wrap o.count
        have HU := Lib.hid hua
        obtain ⟨xs, ho, hx⟩ := HM2.out.row
        have hn1 : xs.length = (vals o ((nm o.k).take pos)).length := by have := ho.1; omega
        have HX := Lib.hid (And.intro hx (And.intro hn1 ho))
        have hbs2 : B + 1 ≤ wr2.heap.size := by have h1 := (Array.getElem?_eq_some_iff.1 HM2.out.it).1; have := HM2.out.kb; omega
        have hvl : ((vals o ((nm o.k).take pos)).length + 1) * 16 ≤ 140737488355328 := by
          have : (vals o ((nm o.k).take pos)).length ≤ 3 := by unfold vals; rw [List.length_map, List.length_take]; have := HSS.out; omega
          omega
        have HVS : Hid (vals o ((nm o.k).take (pos + 1)) = vals o ((nm o.k).take pos) ++ [vaL (c.toNat : Int) o]) := Lib.hid (by rw [List.take_add_one, HGET.out]; exact vals_snoc _ _ _)
        have HSH : Hid (strB (shS ((nm o.k).take (pos + 1))) = strB (shS ((nm o.k).take pos)) ++ ⟨#[shL (c.toNat : Int)]⟩) := Lib.hid (by rw [List.take_add_one, HGET.out, ← strB_snoc]; exact congrArg strB (shS_snoc _ _))
        rw [hva] at HVS
        rw [hsa] at HSH
        have hssz : (strB (shS ((nm o.k).take pos))).size ≤ 3 := by rw [str_size]; unfold shS; rw [List.length_map, List.length_take]; have := HSS.out; omega
        clear hx hn1 hget hua hva hsa
        generalize strB (shS ((nm o.k).take pos)) = sa at *
        generalize vals o ((nm o.k).take pos) = vs at *
        go_wp2_with (at_builtin; go_must (refine wpList_app rfl _ _ 126 rfl (B + 1) 20 _ 1 16 Try.underlying126 infoAny rfl (by decide) (by decide) v' vs.length xs rfl ho rfl rfl (by simp [Value.oneCell']) hvl hbs2 ?_); intro v5 w5 ho5 hb5 hg5 hs5 hn5)
        have HM5 := Lib.hid (HM2.out.grown HX.out.1 HX.out.2.1 HX.out.2.2 ho5 HU.out hb5 hg5 hs5)
        clear ho5 hb5 hg5 hs5 hn5 ho
        go_wp2_with fail
        go_roundg (s.size - (pos + 1))
        case rel => exact ⟨pos + 1, v5, by omega, rfl, by rw [HSH.out], rfl, by rw [HVS.out]; exact HM5.out⟩
        case measure => have := HG.out; omega
      by_cases h116 : (c.toNat : Int) = 116
      · have g116 : ((c.toNat : Int) == 116) = true := beqI h116
        have g118 : ((c.toNat : Int) == 118) = false := bneI h118
        have hva : vaL (c.toNat : Int) o = num o.to := by unfold vaL; simp [h116]
        have hsa : shL (c.toNat : Int) = 52 := by unfold shL; simp [h116]
        have hua := any_num w o.to HQ2.out
        have hwz := u64_wrap o.size
        have hwp := u64_wrap o.pl
        have hwc := u64_wrap o.count
        have HU := Lib.hid hua
        obtain ⟨xs, ho, hx⟩ := HM2.out.row
        have hn1 : xs.length = (vals o ((nm o.k).take pos)).length := by have := ho.1; omega
        have HX := Lib.hid (And.intro hx (And.intro hn1 ho))
        have hbs2 : B + 1 ≤ wr2.heap.size := by have h1 := (Array.getElem?_eq_some_iff.1 HM2.out.it).1; have := HM2.out.kb; omega
        have hvl : ((vals o ((nm o.k).take pos)).length + 1) * 16 ≤ 140737488355328 := by
          have : (vals o ((nm o.k).take pos)).length ≤ 3 := by unfold vals; rw [List.length_map, List.length_take]; have := HSS.out; omega
          omega
        have HVS : Hid (vals o ((nm o.k).take (pos + 1)) = vals o ((nm o.k).take pos) ++ [vaL (c.toNat : Int) o]) := Lib.hid (by rw [List.take_add_one, HGET.out]; exact vals_snoc _ _ _)
        have HSH : Hid (strB (shS ((nm o.k).take (pos + 1))) = strB (shS ((nm o.k).take pos)) ++ ⟨#[shL (c.toNat : Int)]⟩) := Lib.hid (by rw [List.take_add_one, HGET.out, ← strB_snoc]; exact congrArg strB (shS_snoc _ _))
        rw [hva] at HVS
        rw [hsa] at HSH
        have hssz : (strB (shS ((nm o.k).take pos))).size ≤ 3 := by rw [str_size]; unfold shS; rw [List.length_map, List.length_take]; have := HSS.out; omega
        clear hx hn1 hget hua hva hsa
        generalize strB (shS ((nm o.k).take pos)) = sa at *
        generalize vals o ((nm o.k).take pos) = vs at *
        go_wp2_with (at_builtin; go_must (refine wpList_app rfl _ _ 126 rfl (B + 1) 20 _ 1 16 Try.underlying126 infoAny rfl (by decide) (by decide) v' vs.length xs rfl ho rfl rfl (by simp [Value.oneCell']) hvl hbs2 ?_); intro v5 w5 ho5 hb5 hg5 hs5 hn5)
        have HM5 := Lib.hid (HM2.out.grown HX.out.1 HX.out.2.1 HX.out.2.2 ho5 HU.out hb5 hg5 hs5)
        clear ho5 hb5 hg5 hs5 hn5 ho
        go_wp2_with fail
        go_roundg (s.size - (pos + 1))
        case rel => exact ⟨pos + 1, v5, by omega, rfl, by rw [HSH.out], rfl, by rw [HVS.out]; exact HM5.out⟩
        case measure => have := HG.out; omega
      by_cases h115 : (c.toNat : Int) = 115
      · have g115 : ((c.toNat : Int) == 115) = true := beqI h115
        have g118 : ((c.toNat : Int) == 118) = false := bneI h118
        have g116 : ((c.toNat : Int) == 116) = false := bneI h116
        have hva : vaL (c.toNat : Int) o = num (toU o.size) := by unfold vaL; simp [h115]
        have hsa : shL (c.toNat : Int) = 52 := by unfold shL; simp [h115]
        have hua := any_num w _ (u64_lt o.size)
        have hwz := u64_wrap o.size
        have hwp := u64_wrap o.pl
        have hwc := u64_wrap o.count
        have HU := Lib.hid hua
        obtain ⟨xs, ho, hx⟩ := HM2.out.row
        have hn1 : xs.length = (vals o ((nm o.k).take pos)).length := by have := ho.1; omega
        have HX := Lib.hid (And.intro hx (And.intro hn1 ho))
        have hbs2 : B + 1 ≤ wr2.heap.size := by have h1 := (Array.getElem?_eq_some_iff.1 HM2.out.it).1; have := HM2.out.kb; omega
        have hvl : ((vals o ((nm o.k).take pos)).length + 1) * 16 ≤ 140737488355328 := by
          have : (vals o ((nm o.k).take pos)).length ≤ 3 := by unfold vals; rw [List.length_map, List.length_take]; have := HSS.out; omega
          omega
        have HVS : Hid (vals o ((nm o.k).take (pos + 1)) = vals o ((nm o.k).take pos) ++ [vaL (c.toNat : Int) o]) := Lib.hid (by rw [List.take_add_one, HGET.out]; exact vals_snoc _ _ _)
        have HSH : Hid (strB (shS ((nm o.k).take (pos + 1))) = strB (shS ((nm o.k).take pos)) ++ ⟨#[shL (c.toNat : Int)]⟩) := Lib.hid (by rw [List.take_add_one, HGET.out, ← strB_snoc]; exact congrArg strB (shS_snoc _ _))
        rw [hva] at HVS
        rw [hsa] at HSH
        have hssz : (strB (shS ((nm o.k).take pos))).size ≤ 3 := by rw [str_size]; unfold shS; rw [List.length_map, List.length_take]; have := HSS.out; omega
        clear hx hn1 hget hua hva hsa
        generalize strB (shS ((nm o.k).take pos)) = sa at *
        generalize vals o ((nm o.k).take pos) = vs at *
        go_wp2_with (at_builtin; go_must (refine wpList_app rfl _ _ 126 rfl (B + 1) 20 _ 1 16 Try.underlying126 infoAny rfl (by decide) (by decide) v' vs.length xs rfl ho rfl rfl (by simp [Value.oneCell']) hvl hbs2 ?_); intro v5 w5 ho5 hb5 hg5 hs5 hn5)
        have HM5 := Lib.hid (HM2.out.grown HX.out.1 HX.out.2.1 HX.out.2.2 ho5 HU.out hb5 hg5 hs5)
        clear ho5 hb5 hg5 hs5 hn5 ho
        go_wp2_with fail
        go_roundg (s.size - (pos + 1))
        case rel => exact ⟨pos + 1, v5, by omega, rfl, by rw [HSH.out], rfl, by rw [HVS.out]; exact HM5.out⟩
        case measure => have := HG.out; omega
      by_cases h97 : (c.toNat : Int) = 97
      · have g97 : ((c.toNat : Int) == 97) = true := beqI h97
        have g118 : ((c.toNat : Int) == 118) = false := bneI h118
        have g116 : ((c.toNat : Int) == 116) = false := bneI h116
        have g115 : ((c.toNat : Int) == 115) = false := bneI h115
        have hva : vaL (c.toNat : Int) o = num (toU o.pl) := by unfold vaL; simp [h97]
        have hsa : shL (c.toNat : Int) = 52 := by unfold shL; simp [h97]
        have hua := any_num w _ (u64_lt o.pl)
        have hwz := u64_wrap o.size
        have hwp := u64_wrap o.pl
        have hwc := u64_wrap o.count
        have HU := Lib.hid hua
        obtain ⟨xs, ho, hx⟩ := HM2.out.row
        have hn1 : xs.length = (vals o ((nm o.k).take pos)).length := by have := ho.1; omega
        have HX := Lib.hid (And.intro hx (And.intro hn1 ho))
        have hbs2 : B + 1 ≤ wr2.heap.size := by have h1 := (Array.getElem?_eq_some_iff.1 HM2.out.it).1; have := HM2.out.kb; omega
        have hvl : ((vals o ((nm o.k).take pos)).length + 1) * 16 ≤ 140737488355328 := by
          have : (vals o ((nm o.k).take pos)).length ≤ 3 := by unfold vals; rw [List.length_map, List.length_take]; have := HSS.out; omega
          omega
        have HVS : Hid (vals o ((nm o.k).take (pos + 1)) = vals o ((nm o.k).take pos) ++ [vaL (c.toNat : Int) o]) := Lib.hid (by rw [List.take_add_one, HGET.out]; exact vals_snoc _ _ _)
        have HSH : Hid (strB (shS ((nm o.k).take (pos + 1))) = strB (shS ((nm o.k).take pos)) ++ ⟨#[shL (c.toNat : Int)]⟩) := Lib.hid (by rw [List.take_add_one, HGET.out, ← strB_snoc]; exact congrArg strB (shS_snoc _ _))
        rw [hva] at HVS
        rw [hsa] at HSH
        have hssz : (strB (shS ((nm o.k).take pos))).size ≤ 3 := by rw [str_size]; unfold shS; rw [List.length_map, List.length_take]; have := HSS.out; omega
        clear hx hn1 hget hua hva hsa
        generalize strB (shS ((nm o.k).take pos)) = sa at *
        generalize vals o ((nm o.k).take pos) = vs at *
        go_wp2_with (at_builtin; go_must (refine wpList_app rfl _ _ 126 rfl (B + 1) 20 _ 1 16 Try.underlying126 infoAny rfl (by decide) (by decide) v' vs.length xs rfl ho rfl rfl (by simp [Value.oneCell']) hvl hbs2 ?_); intro v5 w5 ho5 hb5 hg5 hs5 hn5)
        have HM5 := Lib.hid (HM2.out.grown HX.out.1 HX.out.2.1 HX.out.2.2 ho5 HU.out hb5 hg5 hs5)
        clear ho5 hb5 hg5 hs5 hn5 ho
        go_wp2_with fail
        go_roundg (s.size - (pos + 1))
        case rel => exact ⟨pos + 1, v5, by omega, rfl, by rw [HSH.out], rfl, by rw [HVS.out]; exact HM5.out⟩
        case measure => have := HG.out; omega
      by_cases h99 : (c.toNat : Int) = 99
      · have g99 : ((c.toNat : Int) == 99) = true := beqI h99
        have g118 : ((c.toNat : Int) == 118) = false := bneI h118
        have g116 : ((c.toNat : Int) == 116) = false := bneI h116
        have g115 : ((c.toNat : Int) == 115) = false := bneI h115
        have g97 : ((c.toNat : Int) == 97) = false := bneI h97
        have hva : vaL (c.toNat : Int) o = num (toU o.count) := by unfold vaL; simp [h99]
        have hsa : shL (c.toNat : Int) = 52 := by unfold shL; simp [h99]
        have hua := any_num w _ (u64_lt o.count)
        have hwz := u64_wrap o.size
        have hwp := u64_wrap o.pl
        have hwc := u64_wrap o.count
        have HU := Lib.hid hua
        obtain ⟨xs, ho, hx⟩ := HM2.out.row
        have hn1 : xs.length = (vals o ((nm o.k).take pos)).length := by have := ho.1; omega
        have HX := Lib.hid (And.intro hx (And.intro hn1 ho))
        have hbs2 : B + 1 ≤ wr2.heap.size := by have h1 := (Array.getElem?_eq_some_iff.1 HM2.out.it).1; have := HM2.out.kb; omega
        have hvl : ((vals o ((nm o.k).take pos)).length + 1) * 16 ≤ 140737488355328 := by
          have : (vals o ((nm o.k).take pos)).length ≤ 3 := by unfold vals; rw [List.length_map, List.length_take]; have := HSS.out; omega
          omega
        have HVS : Hid (vals o ((nm o.k).take (pos + 1)) = vals o ((nm o.k).take pos) ++ [vaL (c.toNat : Int) o]) := Lib.hid (by rw [List.take_add_one, HGET.out]; exact vals_snoc _ _ _)
        have HSH : Hid (strB (shS ((nm o.k).take (pos + 1))) = strB (shS ((nm o.k).take pos)) ++ ⟨#[shL (c.toNat : Int)]⟩) := Lib.hid (by rw [List.take_add_one, HGET.out, ← strB_snoc]; exact congrArg strB (shS_snoc _ _))
        rw [hva] at HVS
        rw [hsa] at HSH
        have hssz : (strB (shS ((nm o.k).take pos))).size ≤ 3 := by rw [str_size]; unfold shS; rw [List.length_map, List.length_take]; have := HSS.out; omega
        clear hx hn1 hget hua hva hsa
        generalize strB (shS ((nm o.k).take pos)) = sa at *
        generalize vals o ((nm o.k).take pos) = vs at *
        go_wp2_with (at_builtin; go_must (refine wpList_app rfl _ _ 126 rfl (B + 1) 20 _ 1 16 Try.underlying126 infoAny rfl (by decide) (by decide) v' vs.length xs rfl ho rfl rfl (by simp [Value.oneCell']) hvl hbs2 ?_); intro v5 w5 ho5 hb5 hg5 hs5 hn5)
        have HM5 := Lib.hid (HM2.out.grown HX.out.1 HX.out.2.1 HX.out.2.2 ho5 HU.out hb5 hg5 hs5)
        clear ho5 hb5 hg5 hs5 hn5 ho
        go_wp2_with fail
        go_roundg (s.size - (pos + 1))
        case rel => exact ⟨pos + 1, v5, by omega, rfl, by rw [HSH.out], rfl, by rw [HVS.out]; exact HM5.out⟩
        case measure => have := HG.out; omega
      have g118 : ((c.toNat : Int) == 118) = false := bneI h118
      have g116 : ((c.toNat : Int) == 116) = false := bneI h116
      have g115 : ((c.toNat : Int) == 115) = false := bneI h115
      have g97 : ((c.toNat : Int) == 97) = false := bneI h97
      have g99 : ((c.toNat : Int) == 99) = false := bneI h99
      have hva : vaL (c.toNat : Int) o = blob o.data := by unfold vaL; simp [h118, h116, h115, h97, h99]
      have hsa : shL (c.toNat : Int) = 42 := by unfold shL; simp [h118, h116, h115, h97, h99]
      have hua := any_blob w _ o.data HD.out
      have HU := Lib.hid hua
      obtain ⟨xs, ho, hx⟩ := HM2.out.row
      have hn1 : xs.length = (vals o ((nm o.k).take pos)).length := by have := ho.1; omega
      have HX := Lib.hid (And.intro hx (And.intro hn1 ho))
      have hbs2 : B + 1 ≤ wr2.heap.size := by have h1 := (Array.getElem?_eq_some_iff.1 HM2.out.it).1; have := HM2.out.kb; omega
      have hvl : ((vals o ((nm o.k).take pos)).length + 1) * 16 ≤ 140737488355328 := by
        have : (vals o ((nm o.k).take pos)).length ≤ 3 := by unfold vals; rw [List.length_map, List.length_take]; have := HSS.out; omega
        omega
      have HVS : Hid (vals o ((nm o.k).take (pos + 1)) = vals o ((nm o.k).take pos) ++ [vaL (c.toNat : Int) o]) := Lib.hid (by rw [List.take_add_one, HGET.out]; exact vals_snoc _ _ _)
      have HSH : Hid (strB (shS ((nm o.k).take (pos + 1))) = strB (shS ((nm o.k).take pos)) ++ ⟨#[shL (c.toNat : Int)]⟩) := Lib.hid (by rw [List.take_add_one, HGET.out, ← strB_snoc]; exact congrArg strB (shS_snoc _ _))
      rw [hva] at HVS
      rw [hsa] at HSH
      have hssz : (strB (shS ((nm o.k).take pos))).size ≤ 3 := by rw [str_size]; unfold shS; rw [List.length_map, List.length_take]; have := HSS.out; omega
      clear hx hn1 hget hua hva hsa
      generalize strB (shS ((nm o.k).take pos)) = sa at *
      generalize vals o ((nm o.k).take pos) = vs at *
      go_wp2_with (at_builtin; go_must (refine wpList_app rfl _ _ 126 rfl (B + 1) 20 _ 1 16 Try.underlying126 infoAny rfl (by decide) (by decide) v' vs.length xs rfl ho rfl rfl (by simp [Value.oneCell']) hvl hbs2 ?_); intro v5 w5 ho5 hb5 hg5 hs5 hn5)
      have HM5 := Lib.hid (HM2.out.grown HX.out.1 HX.out.2.1 HX.out.2.2 ho5 HU.out hb5 hg5 hs5)
      clear ho5 hb5 hg5 hs5 hn5 ho
      go_wp2_with fail
      go_roundg (s.size - (pos + 1))
      case rel => exact ⟨pos + 1, v5, by omega, rfl, by rw [HSH.out], rfl, by rw [HVS.out]; exact HM5.out⟩
      case measure => have := HG.out; omega
    · obtain rfl : pos = s.size := by omega
      have hnx := fun ty => Lib.run_next_end_at (P := Try.prog) wr K s s.size ty hit (by omega)
      have htk : (nm o.k).take s.size = nm o.k := List.take_of_length_le (by rw [HSS.out]; exact Nat.le_refl _)
      have HR : Hid (RowA w.heap.size w wr v' (vals o (nm o.k))) := Lib.hid (by
        obtain ⟨xs, ho, hx⟩ := HM.out.row
        rw [htk] at ho hx
        exact ⟨xs, ownsRow_base ho (by rw [HB.out]; omega), hx⟩)
      rw [htk]
      clear htk hit
      obtain ⟨sa, hsa⟩ : ∃ sa, strB (shS (nm o.k)) = sa := ⟨_, rfl⟩
      rw [hsa]
      have HSA := Lib.hid hsa
      clear hsa
      go_wp2_with fail
      go_ret2
      exact ⟨_, by rw [HSA.out]; rfl, by rw [HB.out]; exact HM.out.below, HR.out⟩
end Go.Proofs.Ytgkelbdgdhkeoaa
