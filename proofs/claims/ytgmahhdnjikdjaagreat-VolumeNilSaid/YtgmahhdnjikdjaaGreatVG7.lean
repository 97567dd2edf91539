import Derived.Test.YtgmahhdnjikdjaaGreatVG6
import Derived.Lib.AppendZeros
set_option linter.unusedVariables false
set_option linter.unusedSimpArgs false
/- page: Part, walked. -/
namespace Go.Proofs.YtgmahhdnjikdjaaGreat
open Go.RowKit Wire
set_option linter.unusedVariables false
set_option linter.unusedSimpArgs false
/-- A page of counts. -/
def partC (cs : List Nat) (idx : Nat) : List Nat := splice (List.replicate 120 0) 0 ((cs.drop (idx * 120)).take 120)
theorem partC_len (cs : List Nat) (idx : Nat) : (partC cs idx).length = 120 := by
 have h : ((cs.drop (idx * 120)).take 120).length ≤ 120 := by rw [List.length_take]; omega
 unfold partC
 rw [length_splice _ _ _ (by rw [List.length_replicate]; omega), List.length_replicate]
theorem partC_lt {cs : List Nat} (h : ∀ c ∈ cs, c < 65536) (idx : Nat) : ∀ c ∈ partC cs idx, c < 65536 := fun c hc => by
 unfold partC splice at hc
 rw [List.take_zero, List.nil_append] at hc
 rcases List.mem_append.1 hc with hc | hc
 ·exact h c (List.mem_of_mem_drop (List.mem_of_mem_take hc))
 ·have := List.mem_of_mem_drop hc
  rw [List.eq_of_mem_replicate this]
  omega
theorem cV_splice (a b : List Nat) (o : Nat) : splice (cV a) o (cV b) = cV (splice a o b) := by
 unfold splice
 simp only [cV, List.map_append, List.map_take, List.map_drop, List.length_map]
theorem cV_one (cs : List Nat) : ∀ u ∈ cV cs, u.oneCell' = true := fun u hu => by
 obtain ⟨c, _, rfl⟩ := List.mem_map.1 hu
 rfl
theorem undU16 : Tryz.prog.underlying 188 = some (.slice (Tryz.prog.elem 188)) := by kernel_rfl
theorem szU16 (w : World) : (sizeOf (Tryz.prog.elem 188)).run Tryz.prog w = .ok 1 w := by kernel_rfl
set_option maxRecDepth 100000 in
set_option maxHeartbeats 6400000 in
theorem ppart_at (w : World) (idx : Nat) (v : Value) (n : Nat) (cs : List Nat) (hrd : Rd w 1 v n (cV cs)) (hn : n ≤ 1000) (hi : idx * 120 < n) :
  Calls Tryz.prog 136 #[v, .int .i64 (idx : Int)] w fun e w' => ∃ g, e = .returned (.slice (some ⟨g, 0, none⟩) 120 120) ∧ BoxC w' g (partC cs idx) ∧ w.heap.size ≤ g ∧ Below w.heap.size w w' := by
 have HLN : Hid (cs.length = n) := Lib.hid (by obtain ⟨_, _, _, hl, _⟩ := hrd; simpa [cV_len] using hl)
 have HRD := Lib.hid hrd
 obtain ⟨ao, cap, rfl, hl, hm, hcap, hcell⟩ := id hrd
 obtain ⟨u, hu⟩ : ∃ u, min n (idx * 120 + 120) = u := ⟨_, rfl⟩
 have hu1 : idx * 120 < u ∧ u ≤ n ∧ u ≤ idx * 120 + 120 := by omega
 have hmin : min (n : Int) ((idx : Int) * 120 + 120) = (u : Int) := by omega
 obtain ⟨w2, hw2⟩ : ∃ W, w.alloc (.cells (cV (List.replicate 120 0)).toArray 172) = W := ⟨_, rfl⟩
 have hb2 : Below w.heap.size w w2 := by rw [← hw2]; exact balloc (Below.refl _ _) _
 obtain ⟨g, hg⟩ : ∃ g, w.heap.size = g := ⟨_, rfl⟩
 have hx2 : BoxC w2 g (List.replicate 120 0) := by unfold BoxC; rw [← hw2, ← hg]; exact heap_alloc_new _ _
 have hmk : (Instr.makeSlice 188 (.int .i64 120) (.int .i64 120)).run Tryz.prog w = .ok (.slice (some ⟨g, 0, none⟩) 120 120) w2 := by
  rw [← hw2, ← hg]; kernel_rfl
 have hsp : ∃ b0 off, ao = some ⟨b0, off, none⟩ ∧ ∀ (j : Nat) (x : Value), (cV cs)[j]? = some x → b0 < w.heap.size ∧ w.cell? ⟨b0, off + j, none⟩ = some x := by
  have h0 : 0 < cs.length := by rw [HLN.out]; omega
  obtain ⟨b0, off, ha, _, _⟩ := hcell 0 _ (cV_get (List.getElem?_eq_getElem h0))
  refine ⟨b0, off, ha, fun j x hx => ?_⟩
  obtain ⟨b1, o1, ha1, h1, h2⟩ := hcell j x hx
  rw [ha] at ha1
  obtain ⟨rfl, rfl, _⟩ := Addr.mk.inj (Option.some.inj ha1)
  exact ⟨h1, h2⟩
 obtain ⟨b0, off, rfl, hsrc⟩ := hsp
 have hcut : ∀ W, (Instr.slice 188 (.slice (some ⟨b0, off, none⟩) n cap) (some (.int .i64 ((idx : Int) * 120))) (some (.int .i64 (u : Int))) (some (.int .i64 (u : Int)))).run Tryz.prog W = .ok (.slice (some ⟨b0, off + idx * 120, none⟩) (u - idx * 120) (u - idx * 120)) W := fun W => by
  rw [run_slice_lhm (P := Tryz.prog) W 188 _ n cap undU16 .i64 .i64 .i64 ((idx : Int) * 120) (u : Int) (u : Int) (by omega) (by omega) (by omega) (by have := hcap.2.1; omega), szU16]
  simp only [Result.andThen_ok, sliced, show ((idx : Int) * 120).toNat = idx * 120 by omega, Int.toNat_natCast]
  rw [if_neg (by omega)]
  simp [Addr.add_lit]
 obtain ⟨S, hS⟩ : ∃ S, (cs.drop (idx * 120)).take 120 = S := ⟨_, rfl⟩
 have hSL : S.length = u - idx * 120 := by rw [← hS, List.length_take, List.length_drop, HLN.out]; omega
 have hSg : ∀ (j : Nat) (x : Value), (cV S)[j]? = some x → (cV cs)[idx * 120 + j]? = some x := fun j x hx => by
  unfold cV at hx ⊢
  rw [List.getElem?_map] at hx ⊢
  rw [← hS, List.getElem?_take] at hx
  split at hx
  ·rwa [List.getElem?_drop] at hx
  ·cases hx
 obtain ⟨w4, hcp, hg4, hm4⟩ := run_copy_mid (P := Tryz.prog) w2 188 188 3 172 Tryz.underlying188 (by kernel_rfl) (some ⟨g, 0, none⟩) (some ⟨b0, off + idx * 120, none⟩) 120 120 (u - idx * 120) (u - idx * 120) g 0 (cV (List.replicate 120 0)) 172 hx2 (cV S) (by rw [cV_len, hSL]; exact (Nat.min_eq_left (by omega)).symm) (fun _ => ⟨rfl, _, rfl, fun j x hx => by
  obtain ⟨h1, h2⟩ := hsrc _ _ (hSg j x hx)
  rw [Addr.add_lit, Nat.add_assoc]
  exact (World.cell?_of_block (hb2.block _ h1)).trans h2⟩) (by rw [cV_len, cV_len, hSL, List.length_replicate]; omega) (cV_one S)
 rw [cV_splice, ← hS] at hg4
 have HX4 : Hid (BoxC w4 g (partC cs idx)) := Lib.hid hg4
 have HB4 : Hid (Below w.heap.size w w4) := Lib.hid (hb2.trans (hm4.below (fun k hk => by rw [List.mem_singleton.1 hk, hg]; exact Nat.le_refl _) hb2.size))
 have HGE : Hid (w.heap.size ≤ g) := Lib.hid (by rw [hg]; exact Nat.le_refl _)
 clear hrd hl hcap hcell hw2 hb2 hx2 hsrc hS hSg hg4 hm4 hu
 go_enter Tryz.func136, Tryz.ntmps136
 go_wp2_with fail
 go_ret
 exact ⟨g, rfl, HX4.out, HGE.out, HB4.out⟩
end Go.Proofs.YtgmahhdnjikdjaaGreat
/- page: Join, walked, with what it calls of slices. -/
namespace Go.Proofs.YtgmahhdnjikdjaaGreat
open Go.RowKit Wire
set_option linter.unusedVariables false
set_option linter.unusedSimpArgs false
theorem infoU16 : (Tryz.prog.info? 172).map (fun i => (i.zero, i.size, i.bytes)) = some (some (.int .u16 0), 1, 2) := by kernel_rfl
set_option maxRecDepth 100000 in
set_option maxHeartbeats 3200000 in
theorem growC_at (w : World) (n : Nat) (h0 : 0 < n) (hn : n ≤ 1000000) : Calls Tryz.prog 192 #[.slice none 0 0, .int .i64 (n : Int)] w fun e w' => ∃ v, e = .returned v ∧ w'.ownsRow w.heap.size 172 1 v 0 [] ∧ Below w.heap.size w w' := by
 obtain ⟨i0, hi, hz0, hz1, hz2⟩ := info_parts infoU16
 have h := Lib.run_append_nil_zeros (P := Tryz.prog) w 188 3 188 172 i0 (.int .u16 0) .i64 .i64 Tryz.underlying188 Tryz.underlying3 hi hz0 n h0 (by rw [hz1]; omega) (by omega) (by rw [hz2]; omega)
 obtain ⟨cap, hcap⟩ : ∃ c, grownCap w n 0 172 = c := ⟨_, rfl⟩
 rw [hcap] at h
 have hge : n ≤ cap := by rw [← hcap]; exact grownCap_ge w n 0 _
 have hle : cap ≤ maxLen := by rw [← hcap]; exact grownCap_le_maxLen w n 0 _ (by unfold maxLen; omega)
 have hle2 : cap ≤ 9223372036854775807 := by unfold maxLen at hle; omega
 obtain ⟨w2, hw2⟩ : ∃ W, w.drew.alloc (.cells (Builtin.zeroCells (Value.int .u16 0).cells n ++ Builtin.zeroCells (Value.int .u16 0).cells (cap - n)) 172) = W := ⟨_, rfl⟩
 have HO : Hid (w2.ownsRow w.heap.size 172 1 (.slice (some ⟨w.heap.size, 0, none⟩) 0 cap) 0 []) := Lib.hid (by
  rw [← hw2]
  exact World.ownsRow_made w.drew _ cap (Nat.le_refl _) hle (by rw [Array.size_append, size_zeroCells, size_zeroCells]; show n * 1 + (cap - n) * 1 = cap * 1; omega))
 have HB : Hid (Below w.heap.size w w2) := Lib.hid (by rw [← hw2]; exact balloc (Below.refl _ _).drew _)
 have hcut : ∀ W, (Instr.slice 188 (.slice (some ⟨w.heap.size, 0, none⟩) n cap) none (some (.int .i64 0)) none).run Tryz.prog W = .ok (.slice (some ⟨w.heap.size, 0, none⟩) 0 cap) W := fun W => by
  rw [run_slice_h W 188 _ n cap undU16 .i64 0 (by omega) (by omega), szU16]
  simp [Result.andThen_ok, sliced, Addr.add_lit]
 have hcut0 : ∀ W, (Instr.slice 188 (.slice none 0 0) none (some (.int .i64 0)) none).run Tryz.prog W = .ok (.slice none 0 0) W := fun W => by kernel_rfl
 rw [hw2] at h
 clear hcap hw2 hi hz0 hz1 hz2
 go_enter Tryz.func192, Tryz.ntmps192
 go_wp2_with (at_builtin; refine Lib.wpList_append_run _ rfl _ _ _ _ rfl _ _ rfl rfl _ _ h ?_)
 go_ret
 exact ⟨_, rfl, HO.out, HB.out⟩
set_option maxRecDepth 100000 in
set_option maxHeartbeats 1600000 in
theorem join1_any (w : World) (a : Option Addr) (n c : Nat) : Calls Tryz.prog 166 #[.slice a n c] w fun e w' => e = .returned (.bool ((n : Int) != 120)) ∧ w = w' := by
 go_enter Tryz.func166, Tryz.ntmps166
 go_wp2_with fail
 go_ret
 exact ⟨rfl, rfl⟩
set_option maxRecDepth 100000 in
set_option maxHeartbeats 1600000 in
theorem join2_any (w : World) (c : Int) : Calls Tryz.prog 169 #[.int .u16 c] w fun e w' => e = .returned (.bool (c != 0)) ∧ w = w' := by
 go_enter Tryz.func169, Tryz.ntmps169
 go_wp2_with fail
 go_ret
 exact ⟨rfl, rfl⟩
set_option maxRecDepth 100000 in
set_option maxHeartbeats 3200000 in
theorem idxA_at (w : World) (v : Value) (n : Nat) (L : List Value) (hrd : Rd w 1 v n L) (hn : n ≤ 1000) (hL : ∀ x ∈ L, ∃ a c, x = .slice a 120 c) : Calls Tryz.prog 191 #[v, .func (.func 166) #[] #[]] w fun e w' => e = .returned (.int .i64 (-1)) ∧ w = w' := by
 have HLN : Hid (L.length = n) := Lib.hid (by obtain ⟨_, _, _, hl, _⟩ := hrd; simpa using hl)
 have HRD := Lib.hid hrd
 obtain ⟨ao, cap, rfl, _, _, _, _⟩ := id hrd
 clear hrd
 go_enter Tryz.func191, Tryz.ntmps191
 go_wp2_with fail
 go_loopw [8] (fun v wr => ∃ k : Nat, k ≤ n ∧ v = .int .i64 (k : Int) ∧ w = wr) (fun v _ => n - (Go.RowKit.intOf v).toNat)
 case atStart => exact ⟨0, by omega, rfl, rfl⟩
 case round =>
  obtain ⟨k, hk, rfl, rfl⟩ := hrel
  by_cases hlt : k < n
  ·obtain ⟨x, hx⟩ : ∃ x, L[k]? = some x := ⟨_, List.getElem?_eq_getElem (by rw [HLN.out]; exact hlt)⟩
   obtain ⟨a1, c1, rfl⟩ := hL x (List.mem_of_getElem? hx)
   obtain ⟨ao', cap', e1, _, _, _, hcell⟩ := HRD.out
   obtain ⟨rfl, _, rfl⟩ := Value.slice.inj e1
   obtain ⟨b0, off, rfl, hb0, hc0⟩ := hcell k _ hx
   have CJ := join1_any w a1 120 c1
   clear e1 hcell hb0 hx
   go_wp2_with fail
   refine CJ.mono ?_
   rintro e w2 ⟨rfl, rfl⟩
   dsimp only
   clear CJ
   go_wp2_with fail
   go_roundw
   case rel => exact ⟨k + 1, by omega, by go_num, trivial⟩
   case measure => simp [Go.RowKit.intOf]; omega
  ·obtain rfl : k = n := by omega
   go_wp2_with fail
   go_ret
   exact ⟨rfl, rfl⟩
set_option maxRecDepth 100000 in
set_option maxHeartbeats 1600000 in
theorem contA_at (w : World) (v : Value) (n : Nat) (L : List Value) (hrd : Rd w 1 v n L) (hn : n ≤ 1000) (hL : ∀ x ∈ L, ∃ a c, x = .slice a 120 c) : Calls Tryz.prog 165 #[v, .func (.func 166) #[] #[]] w fun e w' => e = .returned (.bool false) ∧ w = w' := by
 have CI := idxA_at w v n L hrd hn hL
 clear hrd hL
 go_enter Tryz.func165, Tryz.ntmps165
 go_wp2_with fail
 refine CI.mono ?_
 rintro e w2 ⟨rfl, rfl⟩
 clear CI
 go_wp2_with fail
 go_ret
 exact ⟨rfl, rfl⟩
set_option maxRecDepth 100000 in
set_option maxHeartbeats 3200000 in
theorem idxB_at (w : World) (v : Value) (n : Nat) (cs : List Nat) (hrd : Rd w 1 v n (cV cs)) (hn : n ≤ 100000) (hL : ∀ x ∈ cs, x = 0) : Calls Tryz.prog 193 #[v, .func (.func 169) #[] #[]] w fun e w' => e = .returned (.int .i64 (-1)) ∧ w = w' := by
 have HLN : Hid (cs.length = n) := Lib.hid (by obtain ⟨_, _, _, hl, _⟩ := hrd; simpa [cV_len] using hl)
 have HRD := Lib.hid hrd
 obtain ⟨ao, cap, rfl, _, _, _, _⟩ := id hrd
 clear hrd
 go_enter Tryz.func193, Tryz.ntmps193
 go_wp2_with fail
 go_loopw [8] (fun v wr => ∃ k : Nat, k ≤ n ∧ v = .int .i64 (k : Int) ∧ w = wr) (fun v _ => n - (Go.RowKit.intOf v).toNat)
 case atStart => exact ⟨0, by omega, rfl, rfl⟩
 case round =>
  obtain ⟨k, hk, rfl, rfl⟩ := hrel
  by_cases hlt : k < n
  ·obtain ⟨x, hx⟩ : ∃ x, cs[k]? = some x := ⟨_, List.getElem?_eq_getElem (by rw [HLN.out]; exact hlt)⟩
   obtain rfl := hL x (List.mem_of_getElem? hx)
   obtain ⟨ao', cap', e1, _, _, _, hcell⟩ := HRD.out
   obtain ⟨rfl, _, rfl⟩ := Value.slice.inj e1
   obtain ⟨b0, off, rfl, hb0, hc0⟩ := hcell k _ (cV_get hx)
   have CJ := join2_any w ((0 : Nat) : Int)
   clear e1 hcell hb0 hx
   go_wp2_with fail
   refine CJ.mono ?_
   rintro e w2 ⟨rfl, rfl⟩
   dsimp only
   clear CJ
   go_wp2_with fail
   go_roundw
   case rel => exact ⟨k + 1, by omega, by go_num, trivial⟩
   case measure => simp [Go.RowKit.intOf]; omega
  ·obtain rfl : k = n := by omega
   go_wp2_with fail
   go_ret
   exact ⟨rfl, rfl⟩
set_option maxRecDepth 100000 in
set_option maxHeartbeats 1600000 in
theorem contB_at (w : World) (v : Value) (n : Nat) (cs : List Nat) (hrd : Rd w 1 v n (cV cs)) (hn : n ≤ 100000) (hL : ∀ x ∈ cs, x = 0) : Calls Tryz.prog 168 #[v, .func (.func 169) #[] #[]] w fun e w' => e = .returned (.bool false) ∧ w = w' := by
 have CI := idxB_at w v n cs hrd hn hL
 clear hrd hL
 go_enter Tryz.func168, Tryz.ntmps168
 go_wp2_with fail
 refine CI.mono ?_
 rintro e w2 ⟨rfl, rfl⟩
 clear CI
 go_wp2_with fail
 go_ret
 exact ⟨rfl, rfl⟩
/-- Pages in memory: a slice of slices of 120 counts. -/
def PgsAt (w : World) (v : Value) (n : Nat) (ps : List (List Nat)) : Prop := ∃ L, Rd w 1 v n L ∧ L.length = n ∧ ps.length = n ∧ ∀ (k : Nat) (x : Value) (p : List Nat), L[k]? = some x → ps[k]? = some p → p.length = 120 ∧ (∃ a c, x = .slice a 120 c) ∧ Rd w 1 x 120 (cV p)
theorem PgsAt.below {w w' : World} {v : Value} {n : Nat} {ps : List (List Nat)} (h : PgsAt w v n ps) (hb : Below w.heap.size w w') : PgsAt w' v n ps := by
 obtain ⟨L, h1, h2, h3, h4⟩ := h
 exact ⟨L, h1.below hb, h2, h3, fun k x p hx hp => ⟨(h4 k x p hx hp).1, (h4 k x p hx hp).2.1, (h4 k x p hx hp).2.2.below hb⟩⟩
theorem cV_app (a b : List Nat) : cV (a ++ b) = cV a ++ cV b := by unfold cV; rw [List.map_append]
theorem flat_take {ps : List (List Nat)} {k : Nat} {p : List Nat} (h : ps[k]? = some p) : (ps.take (k + 1)).flatten = (ps.take k).flatten ++ p := by
 rw [List.take_add_one, h, List.flatten_append]
 simp
theorem flat_len : ∀ {ps : List (List Nat)}, (∀ p ∈ ps, p.length = 120) → ps.flatten.length = ps.length * 120
 | [], _ => rfl
 | p :: ps, h => by
  rw [List.flatten_cons, List.length_append, h p (List.mem_cons_self ..), flat_len (fun q hq => h q (List.mem_cons_of_mem _ hq)), List.length_cons]
  omega
set_option maxRecDepth 100000 in
set_option maxHeartbeats 6400000 in
theorem concatC_at (w : World) (v : Value) (n : Nat) (ps : List (List Nat)) (h : PgsAt w v n ps) (h0 : 0 < n) (hn : n ≤ 1000) : Calls Tryz.prog 167 #[v] w fun e w' => ∃ v', e = .returned v' ∧ w'.ownsRow w.heap.size 172 1 v' (n * 120) (cV ps.flatten) ∧ Below w.heap.size w w' := by
 have HP := Lib.hid h
 obtain ⟨L, hrd, hLn, hpn, hall⟩ := id h
 obtain ⟨ao, cap, rfl, _, _, _, _⟩ := id hrd
 have HLN := Lib.hid hLn
 have HPN := Lib.hid hpn
 have HALL : Hid (∀ X, Below w.heap.size w X → ∀ k, k < n → ∃ b0 off a c p, ao = some ⟨b0, off, none⟩ ∧ X.cell? ⟨b0, off + k, none⟩ = some (.slice a 120 c) ∧ ps[k]? = some p ∧ p.length = 120 ∧ Rd X 1 (.slice a 120 c) 120 (cV p)) := Lib.hid (fun X hX k hk => by
  obtain ⟨x, hx⟩ : ∃ x, L[k]? = some x := ⟨_, List.getElem?_eq_getElem (by omega)⟩
  obtain ⟨p, hp⟩ : ∃ p, ps[k]? = some p := ⟨_, List.getElem?_eq_getElem (by omega)⟩
  obtain ⟨h1, ⟨a, c, rfl⟩, h3⟩ := hall k x p hx hp
  obtain ⟨ao', cap', e1, _, _, _, hcell⟩ := hrd.below hX
  obtain ⟨rfl, _, _⟩ := Value.slice.inj e1
  obtain ⟨b0, off, e2, _, hc⟩ := hcell k _ hx
  exact ⟨b0, off, a, c, p, e2, hc, hp, h1, h3.below hX⟩)
 clear h hrd hLn hpn hall
 go_enter Tryz.func167, Tryz.ntmps167
 go_wp2_with fail
 go_loopw [3, 11] (fun s v wr => ∃ k : Nat, k ≤ n ∧ v = .int .i64 (k : Int) ∧ s = .int .i64 ((k * 120 : Nat) : Int) ∧ w = wr) (fun _ v _ => n - (Go.RowKit.intOf v).toNat)
 case atStart => exact ⟨0, by omega, rfl, rfl, rfl⟩
 case round =>
  obtain ⟨k, hk, rfl, rfl, rfl⟩ := hrel
  by_cases hlt : k < n
  ·obtain ⟨b0, off, a, c, p, rfl, hc0, _, _, _⟩ := HALL.out w (Below.refl _ _) k hlt
   go_wp2_with fail
   go_roundw
   case rel => exact ⟨k + 1, by omega, by go_num, by go_num, trivial⟩
   case measure => simp [Go.RowKit.intOf]; omega
  ·obtain rfl : k = n := by omega
   have CG := growC_at w (k * 120) (by omega) (by omega)
   go_wp2_with fail
   refine CG.mono ?_
   rintro e w2 ⟨v2, rfl, ho2, hb2⟩
   have HO2 := Lib.hid ho2
   have HB2 := Lib.hid hb2
   clear CG ho2 hb2
   go_wp2_with fail
   go_loopw [6, 27] (fun s v wr => ∃ j : Nat, j ≤ k ∧ v = .int .i64 (j : Int) ∧ wr.ownsRow w.heap.size 172 1 s (j * 120) (cV (ps.take j).flatten) ∧ Below w.heap.size w wr) (fun _ v _ => k - (Go.RowKit.intOf v).toNat)
   case atStart => exact ⟨0, by omega, rfl, by simpa [cV] using HO2.out, HB2.out⟩
   case round =>
    obtain ⟨j, hj, rfl, ho, hb⟩ := hrel
    have HO := Lib.hid ho
    have HB := Lib.hid hb
    clear ho hb
    by_cases hlt : j < k
    ·obtain ⟨b0, off, a, c, p, rfl, hc0, hp, hpl, hrp⟩ := HALL.out wr HB.out j hlt
     have HFT := Lib.hid (flat_take hp)
     have HRP := Lib.hid hrp
     clear hp hrp
     go_wp2_with (at_builtin; go_must (refine wpList_apps rfl _ _ 188 rfl w.heap.size 172 _ 1 2 Tryz.underlying188 infoU16 rfl (by decide) (by decide) _ (j * 120) _ (by rfl) HO.out _ 120 _ (by rfl) HRP.out (cV_one p) (by omega) HB.out.size ?_); intro v7 w7 ho7 hb7 hg7 hs7 hn7)
     have HO7 : Hid (w7.ownsRow w.heap.size 172 1 v7 ((j + 1) * 120) (cV (ps.take (j + 1)).flatten)) := Lib.hid (by rw [HFT.out, cV_app, show (j + 1) * 120 = j * 120 + 120 by omega]; exact ho7)
     have HB7 := Lib.hid (HB.out.trans hb7)
     clear ho7 hb7 hg7 hs7 hn7
     go_wp2_with fail
     go_roundw
     case rel => exact ⟨j + 1, by omega, by go_num, HO7.out, HB7.out⟩
     case measure => simp [Go.RowKit.intOf]; omega
    ·obtain rfl : j = k := by omega
     have HOE := HO.out
     rw [List.take_of_length_le (by rw [HPN.out]; exact Nat.le_refl _)] at HOE
     go_wp2_with fail
     go_ret
     exact ⟨_, rfl, HOE, HB.out⟩
end Go.Proofs.YtgmahhdnjikdjaaGreat
/- page: Join, walked. -/
namespace Go.Proofs.YtgmahhdnjikdjaaGreat
open Go.RowKit Wire
set_option linter.unusedVariables false
set_option linter.unusedSimpArgs false
set_option maxRecDepth 100000 in
set_option maxHeartbeats 6400000 in
theorem join_at (w : World) (bl : Nat) (v : Value) (ps : List (List Nat)) (h1 : 1 ≤ bl) (h2 : bl ≤ 1000) (h : PgsAt w v (pagesN bl) ps) (hz : ∀ x ∈ ps.flatten.drop bl, x = 0) :
  Calls Tryz.prog 138 #[.int .i64 (bl : Int), v] w fun e w' => ∃ v', e = .returned (.tuple #[v', .int .i64 0]) ∧ Rd w' 1 v' bl (cV (ps.flatten.take bl)) ∧ Below w.heap.size w w' := by
 obtain ⟨n, hn⟩ : ∃ n, pagesN bl = n := ⟨_, rfl⟩
 have hnb : 1 ≤ n ∧ n ≤ 9 ∧ bl ≤ n * 120 := by
  rw [← hn]; unfold pagesN; rw [if_neg (by omega)]; omega
 have CP := pages_any w bl (by omega)
 rw [hn] at h CP
 have CC := concatC_at w v n ps h (by omega) (by omega)
 obtain ⟨L, hrd, hLn, hpn, hall⟩ := id h
 obtain ⟨ao, cap, rfl, _, _, _, _⟩ := id hrd
 have CA := contA_at w _ n L hrd (by omega) (fun x hx => by
  obtain ⟨k, hk, rfl⟩ := List.getElem_of_mem hx
  exact (hall k L[k] ps[k] (List.getElem?_eq_getElem hk) (List.getElem?_eq_getElem (by omega))).2.1)
 have HFL : Hid (ps.flatten.length = n * 120) := Lib.hid (by
  rw [flat_len (fun p hp => ?_), hpn]
  obtain ⟨k, hk, rfl⟩ := List.getElem_of_mem hp
  exact (hall k L[k] ps[k] (List.getElem?_eq_getElem (by omega)) (List.getElem?_eq_getElem hk)).1)
 have HZ := Lib.hid hz
 clear h hrd hLn hpn hall hn hz
 have hne : ((n : Int) != (n : Int)) = false := by simp
 go_enter Tryz.func138, Tryz.ntmps138
 go_wp2_with fail
 refine CP.mono ?_
 rintro e w2 ⟨rfl, rfl⟩
 clear CP
 go_wp2_with fail
 refine CA.mono ?_
 rintro e w2 ⟨rfl, rfl⟩
 clear CA
 go_wp2_with fail
 refine CC.mono ?_
 rintro e w2 ⟨v2, rfl, ho2, hb2⟩
 obtain ⟨g, c2, cur, rfl, hgb, hgl, hc1, hc2, hgh, hcs, hct⟩ := rowSome ho2 (by omega)
 have HB2 := Lib.hid hb2
 obtain ⟨al, hal⟩ : ∃ x, ps.flatten = x := ⟨_, rfl⟩
 rw [hal] at HFL HZ hct
 have HAL := Lib.hid hal
 have hc2' : c2 ≤ 9223372036854775807 := by unfold maxLen at hc2; omega
 have hcell : ∀ (j : Nat) (x : Value), (cV al)[j]? = some x → w2.cell? ⟨g, j, none⟩ = some x := fun j x hx => by
  rw [← hct, List.getElem?_take] at hx
  split at hx
  ·exact cellOf hgh j (by simpa using hx)
  ·cases hx
 have hcut1 : ∀ W, (Instr.slice 188 (.slice (some ⟨g, 0, none⟩) (n * 120) c2) (some (.int .i64 (bl : Int))) none none).run Tryz.prog W = .ok (.slice (cutA (some ⟨g, 0, none⟩) c2 bl 1) (n * 120 - bl) (c2 - bl)) W := fun W => by
  rw [run_slice_l W 188 _ (n * 120) c2 undU16 .i64 (bl : Int) (by omega) (by omega), szU16]
  rfl
 have hcut2 : ∀ W, (Instr.slice 188 (.slice (some ⟨g, 0, none⟩) (n * 120) c2) none (some (.int .i64 (bl : Int))) (some (.int .i64 (bl : Int)))).run Tryz.prog W = .ok (.slice (some ⟨g, 0, none⟩) bl bl) W := fun W => by
  rw [run_slice_hm W 188 _ (n * 120) c2 undU16 .i64 .i64 (bl : Int) (bl : Int) (by omega) (by omega) (by omega), szU16]
  simp only [Result.andThen_ok, sliced, Int.toNat_natCast]
  rw [if_neg (by omega)]
  simp [Addr.add_lit]
 have HRES : Hid (Rd w2 1 (.slice (some ⟨g, 0, none⟩) bl bl) bl (cV (al.take bl))) := Lib.hid (by
  refine ⟨_, bl, rfl, by rw [cV_len, List.length_take, HFL.out]; omega, by unfold maxLen; omega, ⟨by simp, Nat.le_refl _, by unfold maxLen; omega⟩, fun j x hx => ⟨g, 0, rfl, hgl, ?_⟩⟩
  rw [Nat.zero_add]
  refine hcell j x ?_
  unfold cV at hx ⊢
  rw [List.map_take, List.getElem?_take] at hx
  split at hx
  ·exact hx
  ·cases hx)
 have HRT : Hid (Rd w2 1 (.slice (cutA (some ⟨g, 0, none⟩) c2 bl 1) (n * 120 - bl) (c2 - bl)) (n * 120 - bl) (cV (al.drop bl))) := Lib.hid (by
  have hrd2 : Rd w2 1 (.slice (some ⟨g, 0, none⟩) (n * 120) c2) (n * 120) (cV al) := by
   have h1 := Rd.of_own ho2
   rw [hal] at h1
   exact h1
  have h1 := hrd2.cut (l := bl) (k := n * 120) (by omega) (Nat.le_refl _)
  have e : ((cV al).drop (bl * 1)).take ((n * 120 - bl) * 1) = cV (al.drop bl) := by
   unfold cV
   rw [← List.map_drop, ← List.map_take, Nat.mul_one, Nat.mul_one, List.take_of_length_le (by rw [List.length_drop, HFL.out]; exact Nat.le_refl _)]
  rw [e] at h1
  exact h1)
 have CZ := contB_at w2 _ (n * 120 - bl) (al.drop bl) HRT.out (by omega) HZ.out
 clear CC ho2 hgb hgl hgh hcs hct hcell hal hb2
 go_wp2_with fail
 refine CZ.mono ?_
 rintro e w3 ⟨rfl, rfl⟩
 clear CZ
 go_wp2_with fail
 go_ret2
 refine ⟨_, rfl, ?_, HB2.out⟩
 rw [HAL.out]
 exact HRES.out
end Go.Proofs.YtgmahhdnjikdjaaGreat
/- store: pages, walked. -/
namespace Go.Proofs.YtgmahhdnjikdjaaGreat
open Go.RowKit Wire
set_option linter.unusedVariables false
set_option linter.unusedSimpArgs false
theorem pagesN_le (n : Nat) (h : n ≤ 1000000) : pagesN n ≤ 1000000 := by
 unfold pagesN
 split <;> omega
set_option maxRecDepth 100000 in
set_option maxHeartbeats 3200000 in
theorem stpages_any (w : World) (a b : Nat) (ha : a ≤ 1000000) (hb : b ≤ 1000000) : Calls Tryz.prog 90 #[.int .i64 (a : Int), .int .i64 (b : Int)] w fun e w' => e = .returned (.int .i64 ((pagesN a + pagesN b : Nat) : Int)) ∧ w = w' := by
 have C1 := pages_any w a ha
 have C2 := pages_any w b hb
 have h1 := pagesN_le a ha
 have h2 := pagesN_le b hb
 obtain ⟨x, hx⟩ : ∃ x, pagesN a = x := ⟨_, rfl⟩
 obtain ⟨y, hy⟩ : ∃ y, pagesN b = y := ⟨_, rfl⟩
 rw [hx] at C1 h1 ⊢
 rw [hy] at C2 h2 ⊢
 clear hx hy
 go_enter Tryz.func90, Tryz.ntmps90
 go_wp2_with fail
 refine C1.mono ?_
 rintro e w2 ⟨rfl, rfl⟩
 clear C1
 go_wp2_with fail
 refine C2.mono ?_
 rintro e w2 ⟨rfl, rfl⟩
 clear C2
 go_wp2_with fail
 go_ret
 refine ⟨?_, rfl⟩
 rw [show ((x + y : Nat) : Int) = (x : Int) + (y : Int) by omega]
 rfl
end Go.Proofs.YtgmahhdnjikdjaaGreat
/- super: numbers, walked. -/
namespace Go.Proofs.YtgmahhdnjikdjaaGreat
open Go.RowKit Wire
set_option linter.unusedVariables false
set_option linter.unusedSimpArgs false
/-- A superblock's cells. -/
def suC (tx : Nat) (mt dt : Int) (p0 p1 p2 p3 p4 p5 tp bs sg : Nat) (cu : Int) (ep la sq bl bq : Nat) (mk : Bool) : Array Value :=
 #[.int .u64 (tx : Int), .int .i64 mt, .int .i64 dt, .int .u32 (p0 : Int), .int .u32 (p1 : Int), .int .u32 (p2 : Int), .int .u32 (p3 : Int), .int .u32 (p4 : Int), .int .u32 (p5 : Int), .int .u32 (tp : Int), .int .u32 (bs : Int), .int .u32 (sg : Int), .int .i64 cu, .int .u64 (ep : Int), .int .u64 (la : Int), .int .u64 (sq : Int), .int .u64 (bl : Int), .int .u64 (bq : Int), .bool mk]
def suV (s : Su) : Value := .agg (suC s.tx s.mt s.data (s.pages.getD 0 0) (s.pages.getD 1 0) (s.pages.getD 2 0) (s.pages.getD 3 0) (s.pages.getD 4 0) (s.pages.getD 5 0) s.top s.base s.stage s.cursor s.epoch s.last s.seq s.blast s.bseq s.marked)
/-- Pairs of numbers as cells. -/
def nC (l : List (Nat × Nat)) : List Value := l.flatMap fun p => [.int .u64 (p.1 : Int), .int .u64 (p.2 : Int)]
theorem nC_app (a b : List (Nat × Nat)) : nC (a ++ b) = nC a ++ nC b := by unfold nC; rw [List.flatMap_append]
theorem infoN2 : (Tryz.prog.info? 226).map (fun i => (i.zero, i.size, i.bytes)) = some (some (.agg #[.int .u64 0, .int .u64 0]), 2, 16) := by kernel_rfl
set_option maxRecDepth 100000 in
set_option maxHeartbeats 12800000 in
theorem snums_at (w : World) (s : Su) (hw : s.Wf) (hm : s.May) : Calls Tryz.prog 119 #[suV s] w fun e w' => ∃ v, e = .returned v ∧ w'.ownsRow w.heap.size 226 2 v 19 (nC s.nums) ∧ Below w.heap.size w w' := by
 obtain ⟨tx, mt, dt, pg, tp, bs, sg, cu, ep, la, sq, bl, bq, mk⟩ := s
 obtain ⟨w1, w2, w3, w4, w5, w6, w7, w8, w9, w10, w11⟩ := hw
 obtain ⟨m1, m2, m3, m4, m5, m6, m7, m8, m9⟩ := hm
 dsimp only at w1 w2 w3 w4 w5 w6 w7 w8 w9 w10 w11 m1 m2 m3 m4 m5 m6 m7 m8 m9
 obtain ⟨p0, p1, p2, p3, p4, p5, hp⟩ : ∃ a b c d e f, pg = [a, b, c, d, e, f] := by
  match hs : pg, w2 with
  | [a, b, c, d, e, f], _ => exact ⟨a, b, c, d, e, f, rfl⟩
 subst hp
 obtain ⟨mn, rfl⟩ : ∃ n : Nat, mt = (n : Int) := ⟨mt.toNat, by omega⟩
 obtain ⟨dn, rfl⟩ : ∃ n : Nat, dt = (n : Int) := ⟨dt.toNat, by omega⟩
 obtain ⟨cn, rfl⟩ : ∃ n : Nat, cu = (n : Int) := ⟨cu.toNat, by omega⟩
 have q0 := w3 p0 (by simp)
 have q1 := w3 p1 (by simp)
 have q2 := w3 p2 (by simp)
 have q3 := w3 p3 (by simp)
 have q4 := w3 p4 (by simp)
 have q5 := w3 p5 (by simp)
 clear w2 w3 m9
 show Calls _ _ #[.agg #[.int .u64 (tx : Int), .int .i64 (mn : Int), .int .i64 (dn : Int), .int .u32 (p0 : Int), .int .u32 (p1 : Int), .int .u32 (p2 : Int), .int .u32 (p3 : Int), .int .u32 (p4 : Int), .int .u32 (p5 : Int), .int .u32 (tp : Int), .int .u32 (bs : Int), .int .u32 (sg : Int), .int .i64 (cn : Int), .int .u64 (ep : Int), .int .u64 (la : Int), .int .u64 (sq : Int), .int .u64 (bl : Int), .int .u64 (bq : Int), .bool mk]] w _
 obtain ⟨wa, hwa⟩ : ∃ W, w.alloc (.cells #[.int .u64 (tx : Int), .int .i64 (mn : Int), .int .i64 (dn : Int), .int .u32 (p0 : Int), .int .u32 (p1 : Int), .int .u32 (p2 : Int), .int .u32 (p3 : Int), .int .u32 (p4 : Int), .int .u32 (p5 : Int), .int .u32 (tp : Int), .int .u32 (bs : Int), .int .u32 (sg : Int), .int .i64 (cn : Int), .int .u64 (ep : Int), .int .u64 (la : Int), .int .u64 (sq : Int), .int .u64 (bl : Int), .int .u64 (bq : Int), .bool mk] 72) = W := ⟨_, rfl⟩
 have hba : Below w.heap.size w wa := by rw [← hwa]; exact balloc (Below.refl _ _) _
 have hxa : wa.heap[w.heap.size]? = some (.cells #[.int .u64 (tx : Int), .int .i64 (mn : Int), .int .i64 (dn : Int), .int .u32 (p0 : Int), .int .u32 (p1 : Int), .int .u32 (p2 : Int), .int .u32 (p3 : Int), .int .u32 (p4 : Int), .int .u32 (p5 : Int), .int .u32 (tp : Int), .int .u32 (bs : Int), .int .u32 (sg : Int), .int .i64 (cn : Int), .int .u64 (ep : Int), .int .u64 (la : Int), .int .u64 (sq : Int), .int .u64 (bl : Int), .int .u64 (bq : Int), .bool mk] 72 (0, 0)) := by rw [← hwa]; exact heap_alloc_new _ _
 have HCS : Hid (∀ X, Below wa.heap.size wa X → X.heap[w.heap.size]? = some (.cells #[.int .u64 (tx : Int), .int .i64 (mn : Int), .int .i64 (dn : Int), .int .u32 (p0 : Int), .int .u32 (p1 : Int), .int .u32 (p2 : Int), .int .u32 (p3 : Int), .int .u32 (p4 : Int), .int .u32 (p5 : Int), .int .u32 (tp : Int), .int .u32 (bs : Int), .int .u32 (sg : Int), .int .i64 (cn : Int), .int .u64 (ep : Int), .int .u64 (la : Int), .int .u64 (sq : Int), .int .u64 (bl : Int), .int .u64 (bq : Int), .bool mk] 72 (0, 0))) := Lib.hid (fun X hX => (hX.block _ (Array.getElem?_eq_some_iff.1 hxa).1).trans hxa)
 have HBA := Lib.hid hba
 clear hba
 have c0 := cellOf hxa 0 (v := .int .u64 (tx : Int)) rfl
 have c1 := cellOf hxa 1 (v := .int .i64 (mn : Int)) rfl
 have c2 := cellOf hxa 2 (v := .int .i64 (dn : Int)) rfl
 clear hxa
 go_enter Tryz.func119, Tryz.ntmps119
 go_upto_region 1 with fail
 (try rw [hwa])
 clear hwa
 go_wp2_with (at_builtin; go_must (refine wpList_apps rfl _ _ 224 rfl wa.heap.size 226 _ 2 16 Tryz.underlying224 infoN2 rfl (by decide) (by decide) (.slice none 0 0) 0 [] (by rfl) (World.ownsRow_nil _ _ _ _) _ 3 _ (by rfl) (rdCells (heap_alloc_new _ _) rfl (by omega)) (by simp [Value.oneCell']) (by omega) (by simp) ?_); intro v7 w7 ho7 hb7 hg7 hs7 hn7; refine Hid.out ?_)
 obtain ⟨l3, hl3⟩ : ∃ l : List (Nat × Nat), l = [(tx, 8), (mn, 4), (dn, 4)] := ⟨_, rfl⟩
 have HL3 := Lib.hid hl3
 have HO7 : Hid (w7.ownsRow wa.heap.size 226 2 v7 (3 + 0) (nC (l3 ++ (([p0, p1, p2, p3, p4, p5].take 0).map fun n => (n, 4))))) := Lib.hid (by rw [hl3]; simpa [nC] using ho7)
 have HB7 : Hid (Below wa.heap.size wa w7) := Lib.hid ((balloc (Below.refl _ _) _).trans hb7)
 have hx7 := HCS.out w7 HB7.out
 have c3 := cellOf hx7 3 (v := .int .u32 (p0 : Int)) rfl
 have c4 := cellOf hx7 4 (v := .int .u32 (p1 : Int)) rfl
 have c5 := cellOf hx7 5 (v := .int .u32 (p2 : Int)) rfl
 have c6 := cellOf hx7 6 (v := .int .u32 (p3 : Int)) rfl
 have c7 := cellOf hx7 7 (v := .int .u32 (p4 : Int)) rfl
 have c8 := cellOf hx7 8 (v := .int .u32 (p5 : Int)) rfl
 clear ho7 hb7 hg7 hs7 hn7 hx7 hl3 c0 c1 c2
 refine Lib.hid ?_
 go_wp2_with fail
 go_loopw [2, 23] (fun s v wr => ∃ k : Nat, k ≤ 6 ∧ v = .int .i64 (k : Int) ∧ wr.ownsRow wa.heap.size 226 2 s (3 + k) (nC (l3 ++ (([p0, p1, p2, p3, p4, p5].take k).map fun n => (n, 4)))) ∧ Below wa.heap.size wa wr) (fun _ v _ => 6 - (Go.RowKit.intOf v).toNat)
 case atStart => exact ⟨0, by omega, rfl, HO7.out, HB7.out⟩
 case round =>
  obtain ⟨k, hk, rfl, ho, hb⟩ := hrel
  have HO := Lib.hid ho
  have HB := Lib.hid hb
  clear ho hb
  by_cases hlt : k < 6
  ·obtain ⟨pk, hpk⟩ : ∃ x, [p0, p1, p2, p3, p4, p5][k]? = some x := ⟨_, List.getElem?_eq_getElem (by simpa using hlt)⟩
   have hpb : pk < 4294967296 := by
    rcases (show k = 0 ∨ k = 1 ∨ k = 2 ∨ k = 3 ∨ k = 4 ∨ k = 5 by omega) with rfl | rfl | rfl | rfl | rfl | rfl <;> (obtain rfl := Option.some.inj hpk; assumption)
   have hix : ∀ W, (Instr.index 68 (.agg #[.int .u32 (p0 : Int), .int .u32 (p1 : Int), .int .u32 (p2 : Int), .int .u32 (p3 : Int), .int .u32 (p4 : Int), .int .u32 (p5 : Int)]) (.int .i64 (k : Int))).run Tryz.prog W = .ok (.int .u32 (pk : Int)) W := fun W => by
    rcases (show k = 0 ∨ k = 1 ∨ k = 2 ∨ k = 3 ∨ k = 4 ∨ k = 5 by omega) with rfl | rfl | rfl | rfl | rfl | rfl <;> (obtain rfl := Option.some.inj hpk; kernel_rfl)
   have HLT : Hid (l3 ++ (([p0, p1, p2, p3, p4, p5].take (k + 1)).map fun n => (n, 4)) = (l3 ++ (([p0, p1, p2, p3, p4, p5].take k).map fun n => (n, 4))) ++ [(pk, 4)]) := Lib.hid (by
    rw [List.take_add_one, hpk, List.map_append, List.append_assoc]
    rfl)
   clear hpk
   go_wp2_with (at_builtin; go_must (refine wpList_apps rfl _ _ 224 rfl wa.heap.size 226 _ 2 16 Tryz.underlying224 infoN2 rfl (by decide) (by decide) _ (3 + k) _ (by rfl) (ownsRow_below HO.out (balloc (Below.refl _ _) _)) _ 1 _ (by rfl) (rdCells (heap_alloc_new _ _) rfl (by omega)) (by simp [Value.oneCell']) (by omega) (Nat.le_trans HB.out.size (balloc (Below.refl _ _) _).size) ?_); intro v8 w8 ho8 hb8 hg8 hs8 hn8; refine Hid.out ?_)
   have HO8 : Hid (w8.ownsRow wa.heap.size 226 2 v8 (3 + (k + 1)) (nC (l3 ++ (([p0, p1, p2, p3, p4, p5].take (k + 1)).map fun n => (n, 4))))) := Lib.hid (by rw [HLT.out, nC_app, ← Nat.add_assoc]; exact ho8)
   have HB8 : Hid (Below wa.heap.size wa w8) := Lib.hid ((HB.out.trans ((balloc (Below.refl _ _) _).mono HB.out.size)).trans hb8)
   clear ho8 hb8 hg8 hs8 hn8
   refine Lib.hid ?_
   go_wp2_with fail
   go_roundw
   case rel => exact ⟨k + 1, by omega, by go_num, HO8.out, HB8.out⟩
   case measure => simp [Go.RowKit.intOf]; omega
  ·obtain rfl : k = 6 := by omega
   have hx9 := HCS.out wr HB.out
   have c9 := cellOf hx9 9 (v := .int .u32 (tp : Int)) rfl
   have c10 := cellOf hx9 10 (v := .int .u32 (bs : Int)) rfl
   have c11 := cellOf hx9 11 (v := .int .u32 (sg : Int)) rfl
   have c12 := cellOf hx9 12 (v := .int .i64 (cn : Int)) rfl
   have c13 := cellOf hx9 13 (v := .int .u64 (ep : Int)) rfl
   have c14 := cellOf hx9 14 (v := .int .u64 (la : Int)) rfl
   have c15 := cellOf hx9 15 (v := .int .u64 (sq : Int)) rfl
   have c16 := cellOf hx9 16 (v := .int .u64 (bl : Int)) rfl
   have c17 := cellOf hx9 17 (v := .int .u64 (bq : Int)) rfl
   have c18 := cellOf hx9 18 (v := .bool mk) rfl
   have HLE : Hid (Su.nums ⟨tx, (mn : Int), (dn : Int), [p0, p1, p2, p3, p4, p5], tp, bs, sg, (cn : Int), ep, la, sq, bl, bq, mk⟩ = (l3 ++ (([p0, p1, p2, p3, p4, p5].take 6).map fun n => (n, 4))) ++ [(tp, 4), (bs, 4), (sg, 4), (cn, 4), (ep, 8), (la, 8), (sq, 8), (bl, 8), (bq, 8), (if mk then 1 else 0, 1)]) := Lib.hid (by rw [HL3.out]; rfl)
   clear hx9
   cases mk with
   | true =>
    go_upto_region 11 with fail
    obtain ⟨wz, hwz⟩ : ∃ W, wr.alloc (.cells #[.int .u64 (ep : Int), .int .u64 (la : Int), .int .u64 (sq : Int), .int .u64 (bl : Int), .int .u64 (bq : Int), .bool true] 70) = W := ⟨_, rfl⟩
    have hbz : Below wr.heap.size wr wz := by rw [← hwz]; exact balloc (Below.refl _ _) _
    obtain ⟨zq, hzq⟩ : ∃ x, wr.heap.size = x := ⟨_, rfl⟩
    have hxz : wz.heap[zq]? = some (.cells #[.int .u64 (ep : Int), .int .u64 (la : Int), .int .u64 (sq : Int), .int .u64 (bl : Int), .int .u64 (bq : Int), .bool true] 70 (0, 0)) := by rw [← hwz, ← hzq]; exact heap_alloc_new _ _
    have z0 := cellOf hxz 0 (v := .int .u64 (ep : Int)) rfl
    have z1 := cellOf hxz 1 (v := .int .u64 (la : Int)) rfl
    have z2 := cellOf hxz 2 (v := .int .u64 (sq : Int)) rfl
    have z3 := cellOf hxz 3 (v := .int .u64 (bl : Int)) rfl
    have z4 := cellOf hxz 4 (v := .int .u64 (bq : Int)) rfl
    have HBZ : Hid (Below wa.heap.size wa wz) := Lib.hid (HB.out.trans (hbz.mono HB.out.size))
    have hx9 := HCS.out wz HBZ.out
    have d9 := cellOf hx9 9 (v := .int .u32 (tp : Int)) rfl
    have d10 := cellOf hx9 10 (v := .int .u32 (bs : Int)) rfl
    have d11 := cellOf hx9 11 (v := .int .u32 (sg : Int)) rfl
    have d12 := cellOf hx9 12 (v := .int .i64 (cn : Int)) rfl
    have HOZ := Lib.hid (ownsRow_below HO.out hbz)
    rw [hwz, hzq]
    clear hwz hzq hxz hbz hx9 c9 c10 c11 c12 c13 c14 c15 c16 c17 c18
    go_wp2_with (at_builtin; go_must (refine wpList_apps rfl _ _ 224 rfl wa.heap.size 226 _ 2 16 Tryz.underlying224 infoN2 rfl (by decide) (by decide) _ (3 + 6) _ (by rfl) (ownsRow_below HOZ.out (balloc (Below.refl _ _) _)) _ 10 _ (by rfl) (rdCells (heap_alloc_new _ _) rfl (by omega)) (by simp [Value.oneCell']) (by omega) (Nat.le_trans HBZ.out.size (balloc (Below.refl _ _) _).size) ?_); intro v8 w8 ho8 hb8 hg8 hs8 hn8; refine Hid.out ?_)
    have HO8 : Hid (w8.ownsRow wa.heap.size 226 2 v8 19 (nC (Su.nums ⟨tx, (mn : Int), (dn : Int), [p0, p1, p2, p3, p4, p5], tp, bs, sg, (cn : Int), ep, la, sq, bl, bq, true⟩))) := Lib.hid (by rw [HLE.out, nC_app]; exact ho8)
    have HB8 : Hid (Below wa.heap.size wa w8) := Lib.hid ((HBZ.out.trans ((balloc (Below.refl _ _) _).mono HBZ.out.size)).trans hb8)
    clear ho8 hb8 hg8 hs8 hn8
    refine Lib.hid ?_
    go_wp2_with fail
    go_ret
    exact ⟨_, rfl, ownsRow_base HO8.out HBA.out.size, bthn HBA.out HB8.out⟩
   | false =>
    go_upto_region 11 with fail
    obtain ⟨wz, hwz⟩ : ∃ W, wr.alloc (.cells #[.int .u64 (ep : Int), .int .u64 (la : Int), .int .u64 (sq : Int), .int .u64 (bl : Int), .int .u64 (bq : Int), .bool false] 70) = W := ⟨_, rfl⟩
    have hbz : Below wr.heap.size wr wz := by rw [← hwz]; exact balloc (Below.refl _ _) _
    obtain ⟨zq, hzq⟩ : ∃ x, wr.heap.size = x := ⟨_, rfl⟩
    have hxz : wz.heap[zq]? = some (.cells #[.int .u64 (ep : Int), .int .u64 (la : Int), .int .u64 (sq : Int), .int .u64 (bl : Int), .int .u64 (bq : Int), .bool false] 70 (0, 0)) := by rw [← hwz, ← hzq]; exact heap_alloc_new _ _
    have z0 := cellOf hxz 0 (v := .int .u64 (ep : Int)) rfl
    have z1 := cellOf hxz 1 (v := .int .u64 (la : Int)) rfl
    have z2 := cellOf hxz 2 (v := .int .u64 (sq : Int)) rfl
    have z3 := cellOf hxz 3 (v := .int .u64 (bl : Int)) rfl
    have z4 := cellOf hxz 4 (v := .int .u64 (bq : Int)) rfl
    have HBZ : Hid (Below wa.heap.size wa wz) := Lib.hid (HB.out.trans (hbz.mono HB.out.size))
    have hx9 := HCS.out wz HBZ.out
    have d9 := cellOf hx9 9 (v := .int .u32 (tp : Int)) rfl
    have d10 := cellOf hx9 10 (v := .int .u32 (bs : Int)) rfl
    have d11 := cellOf hx9 11 (v := .int .u32 (sg : Int)) rfl
    have d12 := cellOf hx9 12 (v := .int .i64 (cn : Int)) rfl
    have HOZ := Lib.hid (ownsRow_below HO.out hbz)
    rw [hwz, hzq]
    clear hwz hzq hxz hbz hx9 c9 c10 c11 c12 c13 c14 c15 c16 c17 c18
    go_wp2_with (at_builtin; go_must (refine wpList_apps rfl _ _ 224 rfl wa.heap.size 226 _ 2 16 Tryz.underlying224 infoN2 rfl (by decide) (by decide) _ (3 + 6) _ (by rfl) (ownsRow_below HOZ.out (balloc (Below.refl _ _) _)) _ 10 _ (by rfl) (rdCells (heap_alloc_new _ _) rfl (by omega)) (by simp [Value.oneCell']) (by omega) (Nat.le_trans HBZ.out.size (balloc (Below.refl _ _) _).size) ?_); intro v8 w8 ho8 hb8 hg8 hs8 hn8; refine Hid.out ?_)
    have HO8 : Hid (w8.ownsRow wa.heap.size 226 2 v8 19 (nC (Su.nums ⟨tx, (mn : Int), (dn : Int), [p0, p1, p2, p3, p4, p5], tp, bs, sg, (cn : Int), ep, la, sq, bl, bq, false⟩))) := Lib.hid (by rw [HLE.out, nC_app]; exact ho8)
    have HB8 : Hid (Below wa.heap.size wa w8) := Lib.hid ((HBZ.out.trans ((balloc (Below.refl _ _) _).mono HBZ.out.size)).trans hb8)
    clear ho8 hb8 hg8 hs8 hn8
    refine Lib.hid ?_
    go_wp2_with fail
    go_ret
    exact ⟨_, rfl, ownsRow_base HO8.out HBA.out.size, bthn HBA.out HB8.out⟩
end Go.Proofs.YtgmahhdnjikdjaaGreat
