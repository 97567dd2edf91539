/- strings.IndexRune at the digits' letters, walked, whatever the rune. -/
import Derived.Test.YtgkelbdgdhkeoaaContR
import Derived.Test.YtgkelbdgdhkeoaaHex0
namespace Go.Proofs.Ytgkelbdgdhkeoaa
open Go.RowKit
set_option linter.unusedVariables false
set_option linter.unusedSimpArgs false
open Hex

set_option maxRecDepth 100000 in
set_option maxHeartbeats 3200000 in
theorem idxH_ascii (c : Nat) (w : World) (h : c < 128) : Calls Try.prog 98 #[.string hexs, .int .i32 (c : Int)] w fun e w' => e = .returned (.int .i64 (Lib.indexByte [48, 49, 50, 51, 52, 53, 54, 55, 56, 57, 97, 98, 99, 100, 101, 102] c.toUInt8)) ∧ w = w' := by
  have C := fun w => sIndexByte_any hexs (c : Int) w
  go_enter Try.func98, Try.ntmps98
  go_wp2_with fail
  refine (C _).mono ?_
  rintro e w' ⟨rfl, rfl⟩
  go_wp2_with fail
  go_ret
  exact ⟨rfl, rfl⟩
theorem hexs_low : ∀ (i : Nat) (h : i < 16), (hexs[i]'(by show i < 16; exact h)).toNat < 128 := by decide
theorem hexs_at2 {i : Nat} (h : i < hexs.size) : (hexs[i]'h).toNat < 128 := hexs_low i h

set_option maxRecDepth 100000 in
set_option maxHeartbeats 3200000 in
theorem idxH_err (w : World) : Calls Try.prog 98 #[.string hexs, .int .i32 65533] w fun e w' => e = .returned (.int .i64 (-1)) ∧ Below w.heap.size w w' := by
  obtain ⟨k, hk⟩ : ∃ k, w.heap.size = k := ⟨_, rfl⟩
  have HI : Hid ((w.iter hexs 0).heap[k]? = some (.stringIter hexs 0) ∧ Below k w (w.iter hexs 0)) := Lib.hid ⟨hk ▸ World.iter_heap w hexs 0, hk ▸ (Below.refl _ _).alloc (Nat.le_refl _) _⟩
  go_enter Try.func98, Try.ntmps98
  go_wp2_with fail
  generalize w.iter hexs 0 = w0 at HI ⊢
  have HK := Lib.hid hk
  clear hk
  go_loopg [176] 16 (fun g u wr => ∃ pos : Nat, pos ≤ 16 ∧ g = 16 - pos ∧ wr.heap[k]? = some (.stringIter hexs pos) ∧ Below k w wr)
  case atStart => exact ⟨0, by omega, by omega, HI.out.1, HI.out.2⟩
  case round =>
    obtain ⟨pos, hp, hg, hh, hb⟩ := hrel
    have HG := Lib.hid hg
    have HB := Lib.hid hb
    by_cases hlt : pos < hexs.size
    · have hnx := fun ty => Lib.run_next_ascii_at (P := Try.prog) wr k hexs pos ty hh hlt (hexs_at2 hlt)
      have hne : (((((hexs[pos]'hlt).toNat : Nat) : Int)) == 65533) = false := by have := hexs_at2 hlt; simp; omega
      have HB2 := Lib.hid (Lib.below_iterAt hb (Nat.le_refl k) hexs (pos + 1))
      have HH2 := Lib.hid (Lib.iterAt_heap wr k hexs pos (pos + 1) hh)
      have h4 : pos < 16 := hlt
      clear hg hb hh
      go_wp2_with fail
      go_roundg (16 - (pos + 1))
      case rel => exact ⟨pos + 1, by omega, rfl, HH2.out, HB2.out⟩
      case measure => have := HG.out; omega
    · have hnx := fun ty => Lib.run_next_end_at (P := Try.prog) wr k hexs pos ty hh hlt
      clear hg hb
      go_wp2_with fail
      go_ret
      exact ⟨rfl, by rw [HK.out]; exact HB.out⟩

set_option maxRecDepth 100000 in
set_option maxHeartbeats 3200000 in
theorem idxH_no (r : Int) (w : World) (h1 : 128 ≤ r) (h2 : r ≤ 2147483647) (h3 : r ≠ 65533) (h4 : (decide (r < 55296) || (decide (57343 < r) && decide (r ≤ 1114111))) = false) : Calls Try.prog 98 #[.string hexs, .int .i32 r] w fun e w' => e = .returned (.int .i64 (-1)) ∧ w = w' := by
  have C := vrune_any r w (by omega) h2
  rw [h4] at C
  have he : (r == 65533) = false := by simpa using h3
  clear h3 h4
  go_enter Try.func98, Try.ntmps98
  go_wp2_with fail
  refine C.mono ?_
  rintro e w' ⟨rfl, rfl⟩
  go_wp2_with fail
  go_ret
  exact ⟨rfl, rfl⟩

set_option maxRecDepth 100000 in
set_option maxHeartbeats 3200000 in
theorem idxH_far (r : Int) (w : World) (h1 : 128 ≤ r) (h2 : r ≤ 1114111) (h3 : r ≠ 65533) (h4 : (decide (r < 55296) || (decide (57343 < r) && decide (r ≤ 1114111))) = true) : Calls Try.prog 98 #[.string hexs, .int .i32 r] w fun e w' => e = .returned (.int .i64 (-1)) ∧ Below w.heap.size w w' := by
  have C := vrune_any r w (by omega) (by omega)
  rw [h4] at C
  have he : (r == 65533) = false := by simpa using h3
  have hv : Utf8.valid r = true := by
    rw [validRune_eq]
    simp only [validRune]
    simp at h4 ⊢
    omega
  obtain ⟨z1, z2, zl⟩ := encode_facts r hv h1
  clear h3 h4 hv
  have hsz : (Utf8.encode r).size = 2 ∨ (Utf8.encode r).size = 3 ∨ (Utf8.encode r).size = 4 := by omega
  rcases hsz with hz | hz | hz
  · have hb : ∀ h : 1 < (Utf8.encode r).size, 128 ≤ ((Utf8.encode r)[1]'h).toNat := fun h => by
      have := zl (by omega)
      simpa [hz] using this
    clear zl z1 z2
    go_enter Try.func98, Try.ntmps98
    go_wp2_with fail
    refine C.mono ?_
    rintro e w' ⟨rfl, rfl⟩
    go_wp2_with fail
    go_step3
    go_wp2_with fail
    go_loopg [9] 0 (fun g i wr => i = .int .i64 1 ∧ w = wr)
    case atStart => exact ⟨rfl, rfl⟩
    case round =>
      obtain ⟨rfl, rfl⟩ := hrel
      have hb1 := hb (by omega)
      have hne : ((((hexs[1]'(by decide)).toNat : Int)) != (((Utf8.encode r)[1]'(by omega)).toNat : Int)) = true := by
        have : (hexs[1]'(by decide)).toNat = 49 := rfl
        rw [bne_iff_ne]; omega
      have hw2 : IntKind.i64.wrap 2 = 2 := by decide
      clear hb
      go_wp2_with fail
      go_step3
      go_wp2_with fail
      go_quiet (fail)
      go_wp2_with fail
      go_quiet ((go_at_call 136; exact quiet_add_any (far_index _ _ _ hb1)))
      go_wp2_with fail
      rw [Exit.noGoto_ret]
      simp only [Exit.inBlock, Exit.then]
      rw [Exit.noGoto_ret]
      simp only [Exit.inBlock, Exit.then]
      go_ret
      exact ⟨rfl, below_drewN (Below.refl _ _) _⟩
  · have hb : ∀ h : 2 < (Utf8.encode r).size, 128 ≤ ((Utf8.encode r)[2]'h).toNat := fun h => by
      have := zl (by omega)
      simpa [hz] using this
    clear zl z1 z2
    go_enter Try.func98, Try.ntmps98
    go_wp2_with fail
    refine C.mono ?_
    rintro e w' ⟨rfl, rfl⟩
    go_wp2_with fail
    go_step3
    go_wp2_with fail
    go_loopg [9] 0 (fun g i wr => i = .int .i64 2 ∧ w = wr)
    case atStart => exact ⟨rfl, rfl⟩
    case round =>
      obtain ⟨rfl, rfl⟩ := hrel
      have hb1 := hb (by omega)
      have hne : ((((hexs[2]'(by decide)).toNat : Int)) != (((Utf8.encode r)[2]'(by omega)).toNat : Int)) = true := by
        have : (hexs[2]'(by decide)).toNat = 50 := rfl
        rw [bne_iff_ne]; omega
      have hw2 : IntKind.i64.wrap 3 = 3 := by decide
      clear hb
      go_wp2_with fail
      go_step3
      go_wp2_with fail
      go_quiet (fail)
      go_wp2_with fail
      go_quiet ((go_at_call 136; exact quiet_add_any (far_index _ _ _ hb1)))
      go_wp2_with fail
      rw [Exit.noGoto_ret]
      simp only [Exit.inBlock, Exit.then]
      rw [Exit.noGoto_ret]
      simp only [Exit.inBlock, Exit.then]
      go_ret
      exact ⟨rfl, below_drewN (Below.refl _ _) _⟩
  · have hb : ∀ h : 3 < (Utf8.encode r).size, 128 ≤ ((Utf8.encode r)[3]'h).toNat := fun h => by
      have := zl (by omega)
      simpa [hz] using this
    clear zl z1 z2
    go_enter Try.func98, Try.ntmps98
    go_wp2_with fail
    refine C.mono ?_
    rintro e w' ⟨rfl, rfl⟩
    go_wp2_with fail
    go_step3
    go_wp2_with fail
    go_loopg [9] 0 (fun g i wr => i = .int .i64 3 ∧ w = wr)
    case atStart => exact ⟨rfl, rfl⟩
    case round =>
      obtain ⟨rfl, rfl⟩ := hrel
      have hb1 := hb (by omega)
      have hne : ((((hexs[3]'(by decide)).toNat : Int)) != (((Utf8.encode r)[3]'(by omega)).toNat : Int)) = true := by
        have : (hexs[3]'(by decide)).toNat = 51 := rfl
        rw [bne_iff_ne]; omega
      have hw2 : IntKind.i64.wrap 4 = 4 := by decide
      clear hb
      go_wp2_with fail
      go_step3
      go_wp2_with fail
      go_quiet (fail)
      go_wp2_with fail
      go_quiet ((go_at_call 136; exact quiet_add_any (far_index _ _ _ hb1)))
      go_wp2_with fail
      rw [Exit.noGoto_ret]
      simp only [Exit.inBlock, Exit.then]
      rw [Exit.noGoto_ret]
      simp only [Exit.inBlock, Exit.then]
      go_ret
      exact ⟨rfl, below_drewN (Below.refl _ _) _⟩

set_option maxRecDepth 100000 in
set_option maxHeartbeats 800000 in
theorem indexByte_hexs : ∀ (c : Nat), c < 128 → Lib.indexByte [48, 49, 50, 51, 52, 53, 54, 55, 56, 57, 97, 98, 99, 100, 101, 102] c.toUInt8 = dgI (c : Int) := by decide

/-- Whatever the rune: its digit. -/
theorem idxH_any (r : Int) (w : World) (h1 : 0 ≤ r) (h2 : r ≤ 2147483647) : Calls Try.prog 98 #[.string hexs, .int .i32 r] w fun e w' => e = .returned (.int .i64 (dgI r)) ∧ Below w.heap.size w w' := by
  by_cases ha : r < 128
  · obtain ⟨c, rfl⟩ := Int.eq_ofNat_of_zero_le h1
    have C := idxH_ascii c w (by omega)
    rw [indexByte_hexs c (by omega)] at C
    exact C.mono fun e w' ⟨he, hw⟩ => ⟨he, by rw [← hw]; exact Below.refl _ _⟩
  · rw [dgI_far (by omega)]
    by_cases h3 : r = 65533
    · subst h3; exact idxH_err w
    · cases h4 : (decide (r < 55296) || (decide (57343 < r) && decide (r ≤ 1114111))) with
      | true => exact idxH_far r w (by omega) (by simp at h4; omega) h3 h4
      | false => exact (idxH_no r w (by omega) h2 h3 h4).mono fun e w' ⟨he, hw⟩ => ⟨he, by rw [← hw]; exact Below.refl _ _⟩
end Go.Proofs.Ytgkelbdgdhkeoaa
