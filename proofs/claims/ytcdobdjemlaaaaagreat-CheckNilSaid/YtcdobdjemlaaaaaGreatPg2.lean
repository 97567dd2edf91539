/- page: Part, walked. -/
import Derived.Test.YtcdobdjemlaaaaaGreatPg1
namespace Go.Proofs.YtcdobdjemlaaaaaGreat
open Go.RowKit Wire
set_option linter.unusedVariables false
set_option linter.unusedSimpArgs false

/-- A page of counts. -/
def partC (cs : List Nat) (idx : Nat) : List Nat := splice (List.replicate 120 0) 0 ((cs.drop (idx * 120)).take 120)
theorem partC_len (cs : List Nat) (idx : Nat) : (partC cs idx).length = 120 := by
  have h : ((cs.drop (idx * 120)).take 120).length ≤ 120 := by rw [List.length_take]; omega
  unfold partC
  rw [length_splice _ _ _ (by rw [List.length_replicate]; omega), List.length_replicate]
theorem partC_lt {cs : List Nat} (h : ∀ c ∈ cs, c < 65536) (idx : Nat) : ∀ c ∈ partC cs idx, c < 65536 := fun c hc => by
  unfold partC splice at hc
  rw [List.take_zero, List.nil_append] at hc
  rcases List.mem_append.1 hc with hc | hc
  · exact h c (List.mem_of_mem_drop (List.mem_of_mem_take hc))
  · have := List.mem_of_mem_drop hc
    rw [List.eq_of_mem_replicate this]
    omega
theorem cV_splice (a b : List Nat) (o : Nat) : splice (cV a) o (cV b) = cV (splice a o b) := by
  unfold splice
  simp only [cV, List.map_append, List.map_take, List.map_drop, List.length_map]
theorem cV_one (cs : List Nat) : ∀ u ∈ cV cs, u.oneCell' = true := fun u hu => by
  obtain ⟨c, _, rfl⟩ := List.mem_map.1 hu
  rfl
theorem undU16 : Tryz.prog.underlying 119 = some (.slice (Tryz.prog.elem 119)) := by kernel_rfl
theorem szU16 (w : World) : (sizeOf (Tryz.prog.elem 119)).run Tryz.prog w = .ok 1 w := by kernel_rfl
set_option maxRecDepth 100000 in
set_option maxHeartbeats 6400000 in
theorem ppart_at (w : World) (idx : Nat) (v : Value) (n : Nat) (cs : List Nat) (hrd : Rd w 1 v n (cV cs)) (hn : n ≤ 1000) (hi : idx * 120 < n) :
    Calls Tryz.prog 126 #[v, .int .i64 (idx : Int)] w fun e w' => ∃ g, e = .returned (.slice (some ⟨g, 0, none⟩) 120 120) ∧ BoxC w' g (partC cs idx) ∧ w.heap.size ≤ g ∧ Below w.heap.size w w' := by
  have HLN : Hid (cs.length = n) := Lib.hid (by obtain ⟨_, _, _, hl, _⟩ := hrd; simpa [cV_len] using hl)
  have HRD := Lib.hid hrd
  obtain ⟨ao, cap, rfl, hl, hm, hcap, hcell⟩ := id hrd
  obtain ⟨u, hu⟩ : ∃ u, min n (idx * 120 + 120) = u := ⟨_, rfl⟩
  have hu1 : idx * 120 < u ∧ u ≤ n ∧ u ≤ idx * 120 + 120 := by omega
  have hmin : min (n : Int) ((idx : Int) * 120 + 120) = (u : Int) := by omega
  obtain ⟨w2, hw2⟩ : ∃ W, w.alloc (.cells (cV (List.replicate 120 0)).toArray 60) = W := ⟨_, rfl⟩
  have hb2 : Below w.heap.size w w2 := by rw [← hw2]; exact balloc (Below.refl _ _) _
  obtain ⟨g, hg⟩ : ∃ g, w.heap.size = g := ⟨_, rfl⟩
  have hx2 : BoxC w2 g (List.replicate 120 0) := by unfold BoxC; rw [← hw2, ← hg]; exact heap_alloc_new _ _
  have hmk : (Instr.makeSlice 119 (.int .i64 120) (.int .i64 120)).run Tryz.prog w = .ok (.slice (some ⟨g, 0, none⟩) 120 120) w2 := by
    rw [← hw2, ← hg]; kernel_rfl
  have hsp : ∃ b0 off, ao = some ⟨b0, off, none⟩ ∧ ∀ (j : Nat) (x : Value), (cV cs)[j]? = some x → b0 < w.heap.size ∧ w.cell? ⟨b0, off + j, none⟩ = some x := by
    have h0 : 0 < cs.length := by rw [HLN.out]; omega
    obtain ⟨b0, off, ha, _, _⟩ := hcell 0 _ (cV_get (List.getElem?_eq_getElem h0))
    refine ⟨b0, off, ha, fun j x hx => ?_⟩
    obtain ⟨b1, o1, ha1, h1, h2⟩ := hcell j x hx
    rw [ha] at ha1
    obtain ⟨rfl, rfl, _⟩ := Addr.mk.inj (Option.some.inj ha1)
    exact ⟨h1, h2⟩
  obtain ⟨b0, off, rfl, hsrc⟩ := hsp
  have hcut : ∀ W, (Instr.slice 119 (.slice (some ⟨b0, off, none⟩) n cap) (some (.int .i64 ((idx : Int) * 120))) (some (.int .i64 (u : Int))) (some (.int .i64 (u : Int)))).run Tryz.prog W = .ok (.slice (some ⟨b0, off + idx * 120, none⟩) (u - idx * 120) (u - idx * 120)) W := fun W => by
    rw [run_slice_lhm (P := Tryz.prog) W 119 _ n cap undU16 .i64 .i64 .i64 ((idx : Int) * 120) (u : Int) (u : Int) (by omega) (by omega) (by omega) (by have := hcap.2.1; omega), szU16]
    simp only [Result.andThen_ok, sliced, show ((idx : Int) * 120).toNat = idx * 120 by omega, Int.toNat_natCast]
    rw [if_neg (by omega)]
    simp [Addr.add_lit]
  obtain ⟨S, hS⟩ : ∃ S, (cs.drop (idx * 120)).take 120 = S := ⟨_, rfl⟩
  have hSL : S.length = u - idx * 120 := by rw [← hS, List.length_take, List.length_drop, HLN.out]; omega
  have hSg : ∀ (j : Nat) (x : Value), (cV S)[j]? = some x → (cV cs)[idx * 120 + j]? = some x := fun j x hx => by
    unfold cV at hx ⊢
    rw [List.getElem?_map] at hx ⊢
    rw [← hS, List.getElem?_take] at hx
    split at hx
    · rwa [List.getElem?_drop] at hx
    · cases hx
  obtain ⟨w4, hcp, hg4, hm4⟩ := run_copy_mid (P := Tryz.prog) w2 119 119 3 60 Tryz.underlying119 (by kernel_rfl) (some ⟨g, 0, none⟩) (some ⟨b0, off + idx * 120, none⟩) 120 120 (u - idx * 120) (u - idx * 120) g 0 (cV (List.replicate 120 0)) 60 hx2 (cV S) (by rw [cV_len, hSL]; exact (Nat.min_eq_left (by omega)).symm) (fun _ => ⟨rfl, _, rfl, fun j x hx => by
    obtain ⟨h1, h2⟩ := hsrc _ _ (hSg j x hx)
    rw [Addr.add_lit, Nat.add_assoc]
    exact (World.cell?_of_block (hb2.block _ h1)).trans h2⟩) (by rw [cV_len, cV_len, hSL, List.length_replicate]; omega) (cV_one S)
  rw [cV_splice, ← hS] at hg4
  have HX4 : Hid (BoxC w4 g (partC cs idx)) := Lib.hid hg4
  have HB4 : Hid (Below w.heap.size w w4) := Lib.hid (hb2.trans (hm4.below (fun k hk => by rw [List.mem_singleton.1 hk, hg]; exact Nat.le_refl _) hb2.size))
  have HGE : Hid (w.heap.size ≤ g) := Lib.hid (by rw [hg]; exact Nat.le_refl _)
  clear hrd hl hcap hcell hw2 hb2 hx2 hsrc hS hSg hg4 hm4 hu
  go_enter Tryz.func126, Tryz.ntmps126
  go_wp2_with fail
  go_ret
  exact ⟨g, rfl, HX4.out, HGE.out, HB4.out⟩
end Go.Proofs.YtcdobdjemlaaaaaGreat
