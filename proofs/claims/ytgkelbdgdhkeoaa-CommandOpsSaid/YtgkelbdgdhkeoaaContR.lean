/- strings.ContainsRune at the letters of numbers, walked, whatever the rune. -/
import Derived.Lib.Strings
import Derived.Lib.Slices
import Derived.Lib.Walk
import Derived.Lib.Bytealg
import Derived.Lib.OthersKept
import Derived.Deep.LoopGhost
import Derived.BigQuiet
import Derived.Test.YtgkelbdgdhkeoaaBytes
import Derived.Test.YtgkelbdgdhkeoaaMods
import Derived.Test.YtgkelbdgdhkeoaaWire0
namespace Go.Proofs.Ytgkelbdgdhkeoaa
open Go.RowKit
set_option linter.unusedVariables false
set_option linter.unusedSimpArgs false
open Wire

set_option maxRecDepth 100000 in
set_option maxHeartbeats 1000000 in
theorem slIndexByte_any (s : ByteArray) (c : Int) (w : World) :
    Calls Try.prog 159 #[.string s, .int .u8 c] w fun e w' => e = .returned (.int .i64 (Lib.indexByte s.data.toList c.toNat.toUInt8)) ∧ w' = w := by
  go_enter Try.func159, Try.ntmps159
  go_wp2
  rw [run_callFunc_extern Try.func163 (by kernel_rfl) (by kernel_rfl) (by kernel_rfl) (e := Extern.BytealgIndexByte.indexByte) (by kernel_rfl), Lib.run_indexByteString]
  simp only [Result.andThen]
  rw [Oper.upon_value]
  go_wp2
  go_ret
  exact ⟨rfl, rfl⟩

set_option maxRecDepth 100000 in
set_option maxHeartbeats 1000000 in
theorem sIndexByte_any (s : ByteArray) (c : Int) (w : World) :
    Calls Try.prog 136 #[.string s, .int .u8 c] w fun e w' => e = .returned (.int .i64 (Lib.indexByte s.data.toList c.toNat.toUInt8)) ∧ w' = w := by
  go_enter Try.func136, Try.ntmps136
  go_wp2_with (go_at_call 159; refine (slIndexByte_any _ _ _).mono ?_; rintro e w' ⟨rfl, rfl⟩)
  go_ret
  exact ⟨rfl, rfl⟩

/-- The letters of numbers. -/
abbrev nums : ByteArray := ⟨#[49, 50, 52, 56]⟩
/-- Is a rune one of them? -/
def isNumI (r : Int) : Bool := r == 49 || r == 50 || r == 52 || r == 56

set_option maxRecDepth 100000 in
set_option maxHeartbeats 800000 in
theorem vrune_any (r : Int) (w : World) (h1 : 0 ≤ r) (h2 : r ≤ 2147483647) : Calls Try.prog 137 #[.int .i32 r] w fun e w' => e = .returned (.bool (decide (r < 55296) || (decide (57343 < r) && decide (r ≤ 1114111)))) ∧ w = w' := by
  by_cases a : r < 55296
  · go_enter Try.func137, Try.ntmps137
    go_wp2
    go_ret
    exact ⟨by simp [a], rfl⟩
  · by_cases b : 57343 < r
    · by_cases c : r ≤ 1114111
      · go_enter Try.func137, Try.ntmps137
        go_wp2
        go_ret
        exact ⟨by simp [a, b, c], rfl⟩
      · go_enter Try.func137, Try.ntmps137
        go_wp2
        go_ret
        exact ⟨by simp [a, b, c], rfl⟩
    · go_enter Try.func137, Try.ntmps137
      go_wp2
      go_ret
      exact ⟨by simp [a, b]; omega, rfl⟩

set_option maxRecDepth 100000 in
set_option maxHeartbeats 3200000 in
theorem idxR_ascii (c : Nat) (w : World) (h : c < 128) : Calls Try.prog 98 #[.string nums, .int .i32 (c : Int)] w fun e w' => e = .returned (.int .i64 (Lib.indexByte [49, 50, 52, 56] c.toUInt8)) ∧ w = w' := by
  have C := fun w => sIndexByte_any nums (c : Int) w
  go_enter Try.func98, Try.ntmps98
  go_wp2_with fail
  refine (C _).mono ?_
  rintro e w' ⟨rfl, rfl⟩
  go_wp2_with fail
  go_ret
  exact ⟨rfl, rfl⟩
theorem nums_at {i : Nat} (h : i < nums.size) : (nums[i]'h).toNat < 128 := by
  have h4 : i < 4 := h
  have hc : i = 0 ∨ i = 1 ∨ i = 2 ∨ i = 3 := by omega
  rcases hc with rfl | rfl | rfl | rfl
  · show (49 : UInt8).toNat < 128; decide
  · show (50 : UInt8).toNat < 128; decide
  · show (52 : UInt8).toNat < 128; decide
  · show (56 : UInt8).toNat < 128; decide

set_option maxRecDepth 100000 in
set_option maxHeartbeats 3200000 in
theorem idxR_err (w : World) : Calls Try.prog 98 #[.string nums, .int .i32 65533] w fun e w' => e = .returned (.int .i64 (-1)) ∧ Below w.heap.size w w' := by
  obtain ⟨k, hk⟩ : ∃ k, w.heap.size = k := ⟨_, rfl⟩
  have HI : Hid ((w.iter nums 0).heap[k]? = some (.stringIter nums 0) ∧ Below k w (w.iter nums 0)) := Lib.hid ⟨hk ▸ World.iter_heap w nums 0, hk ▸ (Below.refl _ _).alloc (Nat.le_refl _) _⟩
  go_enter Try.func98, Try.ntmps98
  go_wp2_with fail
  generalize w.iter nums 0 = w0 at HI ⊢
  have HK := Lib.hid hk
  clear hk
  go_loopg [176] 4 (fun g u wr => ∃ pos : Nat, pos ≤ 4 ∧ g = 4 - pos ∧ wr.heap[k]? = some (.stringIter nums pos) ∧ Below k w wr)
  case atStart => exact ⟨0, by omega, by omega, HI.out.1, HI.out.2⟩
  case round =>
    obtain ⟨pos, hp, hg, hh, hb⟩ := hrel
    have HG := Lib.hid hg
    have HB := Lib.hid hb
    by_cases hlt : pos < nums.size
    · have hnx := fun ty => Lib.run_next_ascii_at (P := Try.prog) wr k nums pos ty hh hlt (nums_at hlt)
      have hne : (((((nums[pos]'hlt).toNat : Nat) : Int)) == 65533) = false := by have := nums_at hlt; simp; omega
      have HB2 := Lib.hid (Lib.below_iterAt hb (Nat.le_refl k) nums (pos + 1))
      have HH2 := Lib.hid (Lib.iterAt_heap wr k nums pos (pos + 1) hh)
      have h4 : pos < 4 := hlt
      clear hg hb hh
      go_wp2_with fail
      go_roundg (4 - (pos + 1))
      case rel => exact ⟨pos + 1, by omega, rfl, HH2.out, HB2.out⟩
      case measure => have := HG.out; omega
    · have hnx := fun ty => Lib.run_next_end_at (P := Try.prog) wr k nums pos ty hh hlt
      clear hg hb
      go_wp2_with fail
      go_ret
      exact ⟨rfl, by rw [HK.out]; exact HB.out⟩

set_option maxRecDepth 100000 in
set_option maxHeartbeats 3200000 in
theorem idxR_no (r : Int) (w : World) (h1 : 128 ≤ r) (h2 : r ≤ 2147483647) (h3 : r ≠ 65533) (h4 : (decide (r < 55296) || (decide (57343 < r) && decide (r ≤ 1114111))) = false) : Calls Try.prog 98 #[.string nums, .int .i32 r] w fun e w' => e = .returned (.int .i64 (-1)) ∧ w = w' := by
  have C := vrune_any r w (by omega) h2
  rw [h4] at C
  have he : (r == 65533) = false := by simpa using h3
  clear h3 h4
  go_enter Try.func98, Try.ntmps98
  go_wp2_with fail
  refine C.mono ?_
  rintro e w' ⟨rfl, rfl⟩
  go_wp2_with fail
  go_ret
  exact ⟨rfl, rfl⟩

theorem indexByte_far (c : UInt8) (hc : 128 ≤ c.toNat) : ∀ (l : List UInt8), (∀ b ∈ l, b.toNat < 128) → Lib.indexByte l c = -1 := by
  intro l
  induction l with
  | nil => intro _; rfl
  | cons b l ih =>
    intro h
    have hb := h b (by simp)
    have hne : (b == c) = false := by
      rw [beq_eq_false_iff_ne]
      rintro rfl
      omega
    rw [Lib.indexByte, hne, ih fun x hx => h x (by simp [hx])]
    simp
theorem far_index (s : ByteArray) (c : UInt8) (w : World) (hc : 128 ≤ c.toNat) (hs : ∀ b ∈ s.data.toList, b.toNat < 128 := by decide) :
    Calls Try.prog 136 #[.string s, .int .u8 (c.toNat : Int)] w fun e w' => e = .returned (.int .i64 (-1)) ∧ w' = w := by
  have h := sIndexByte_any s (c.toNat : Int) w
  have hi : Lib.indexByte s.data.toList (c.toNat : Int).toNat.toUInt8 = -1 := by
    have e : (c.toNat : Int).toNat.toUInt8 = c := by simp
    rw [e]
    exact indexByte_far c hc _ hs
  rw [hi] at h
  exact h
theorem quiet_add_any {P : Program} {f : FuncId} {args : Array Value} {w : World} {a n : Nat} {v : Value}
    (h : Calls P f args (w.drewN (a + n)) fun e w' => e = .returned v ∧ w' = w.drewN (a + n)) :
    Calls P f args (w.drewN (a + n)) fun e w'' => e = .returned v ∧ ∃ m, w'' = w.drewN (a + m) :=
  h.mono fun _ _ ⟨he, hm⟩ => ⟨he, n, hm⟩

set_option maxRecDepth 100000 in
set_option maxHeartbeats 3200000 in
theorem idxR_far (r : Int) (w : World) (h1 : 128 ≤ r) (h2 : r ≤ 1114111) (h3 : r ≠ 65533) (h4 : (decide (r < 55296) || (decide (57343 < r) && decide (r ≤ 1114111))) = true) : Calls Try.prog 98 #[.string nums, .int .i32 r] w fun e w' => e = .returned (.int .i64 (-1)) ∧ Below w.heap.size w w' := by
  have C := vrune_any r w (by omega) (by omega)
  rw [h4] at C
  have he : (r == 65533) = false := by simpa using h3
  have hv : Utf8.valid r = true := by
    rw [validRune_eq]
    simp only [validRune]
    simp at h4 ⊢
    omega
  obtain ⟨z1, z2, zl⟩ := encode_facts r hv h1
  clear h3 h4 hv
  have hsz : (Utf8.encode r).size = 2 ∨ (Utf8.encode r).size = 3 ∨ (Utf8.encode r).size = 4 := by omega
  rcases hsz with hz | hz | hz
  · have hb : ∀ h : 1 < (Utf8.encode r).size, 128 ≤ ((Utf8.encode r)[1]'h).toNat := fun h => by
      have := zl (by omega)
      simpa [hz] using this
    clear zl z1 z2
    go_enter Try.func98, Try.ntmps98
    go_wp2_with fail
    refine C.mono ?_
    rintro e w' ⟨rfl, rfl⟩
    go_wp2_with fail
    go_step3
    go_wp2_with fail
    go_loopg [9] 0 (fun g i wr => i = .int .i64 1 ∧ w = wr)
    case atStart => exact ⟨rfl, rfl⟩
    case round =>
      obtain ⟨rfl, rfl⟩ := hrel
      have hb1 := hb (by omega)
      have hne : ((((nums[1]'(by decide)).toNat : Int)) != (((Utf8.encode r)[1]'(by omega)).toNat : Int)) = true := by
        have : (nums[1]'(by decide)).toNat = 50 := rfl
        rw [bne_iff_ne]; omega
      have hw2 : IntKind.i64.wrap 2 = 2 := by decide
      clear hb
      go_wp2_with fail
      go_step3
      go_wp2_with fail
      go_quiet (fail)
      go_wp2_with fail
      go_quiet ((go_at_call 136; exact quiet_add_any (far_index _ _ _ hb1)))
      go_wp2_with fail
      rw [Exit.noGoto_ret]
      simp only [Exit.inBlock, Exit.then]
      rw [Exit.noGoto_ret]
      simp only [Exit.inBlock, Exit.then]
      go_ret
      exact ⟨rfl, below_drewN (Below.refl _ _) _⟩
  · have hb : ∀ h : 2 < (Utf8.encode r).size, 128 ≤ ((Utf8.encode r)[2]'h).toNat := fun h => by
      have := zl (by omega)
      simpa [hz] using this
    clear zl z1 z2
    go_enter Try.func98, Try.ntmps98
    go_wp2_with fail
    refine C.mono ?_
    rintro e w' ⟨rfl, rfl⟩
    go_wp2_with fail
    go_step3
    go_wp2_with fail
    go_loopg [9] 0 (fun g i wr => i = .int .i64 2 ∧ w = wr)
    case atStart => exact ⟨rfl, rfl⟩
    case round =>
      obtain ⟨rfl, rfl⟩ := hrel
      have hb1 := hb (by omega)
      have hne : ((((nums[2]'(by decide)).toNat : Int)) != (((Utf8.encode r)[2]'(by omega)).toNat : Int)) = true := by
        have : (nums[2]'(by decide)).toNat = 52 := rfl
        rw [bne_iff_ne]; omega
      have hw2 : IntKind.i64.wrap 3 = 3 := by decide
      clear hb
      go_wp2_with fail
      go_step3
      go_wp2_with fail
      go_quiet (fail)
      go_wp2_with fail
      go_quiet ((go_at_call 136; exact quiet_add_any (far_index _ _ _ hb1)))
      go_wp2_with fail
      rw [Exit.noGoto_ret]
      simp only [Exit.inBlock, Exit.then]
      rw [Exit.noGoto_ret]
      simp only [Exit.inBlock, Exit.then]
      go_ret
      exact ⟨rfl, below_drewN (Below.refl _ _) _⟩
  · have hb : ∀ h : 3 < (Utf8.encode r).size, 128 ≤ ((Utf8.encode r)[3]'h).toNat := fun h => by
      have := zl (by omega)
      simpa [hz] using this
    clear zl z1 z2
    go_enter Try.func98, Try.ntmps98
    go_wp2_with fail
    refine C.mono ?_
    rintro e w' ⟨rfl, rfl⟩
    go_wp2_with fail
    go_step3
    go_wp2_with fail
    go_loopg [9] 0 (fun g i wr => i = .int .i64 3 ∧ w = wr)
    case atStart => exact ⟨rfl, rfl⟩
    case round =>
      obtain ⟨rfl, rfl⟩ := hrel
      have hb1 := hb (by omega)
      have hne : ((((nums[3]'(by decide)).toNat : Int)) != (((Utf8.encode r)[3]'(by omega)).toNat : Int)) = true := by
        have : (nums[3]'(by decide)).toNat = 56 := rfl
        rw [bne_iff_ne]; omega
      have hw2 : IntKind.i64.wrap 4 = 4 := by decide
      clear hb
      go_wp2_with fail
      go_step3
      go_wp2_with fail
      go_quiet (fail)
      go_wp2_with fail
      go_quiet ((go_at_call 136; exact quiet_add_any (far_index _ _ _ hb1)))
      go_wp2_with fail
      rw [Exit.noGoto_ret]
      simp only [Exit.inBlock, Exit.then]
      rw [Exit.noGoto_ret]
      simp only [Exit.inBlock, Exit.then]
      go_ret
      exact ⟨rfl, below_drewN (Below.refl _ _) _⟩

theorem indexByte_nums (c : Nat) (h : c < 128) : (Lib.indexByte [49, 50, 52, 56] c.toUInt8 = -1 ∧ isNumI (c : Int) = false) ∨ (0 ≤ Lib.indexByte [49, 50, 52, 56] c.toUInt8 ∧ isNumI (c : Int) = true) := by
  have hb : ∀ k : Nat, k < 256 → ((k.toUInt8 == c.toUInt8) = true ↔ c = k) := by
    intro k hk
    rw [beq_iff_eq, ← UInt8.toNat_inj]
    simp
    omega
  by_cases h1 : c = 49
  · subst h1; right; decide
  by_cases h2 : c = 50
  · subst h2; right; decide
  by_cases h3 : c = 52
  · subst h3; right; decide
  by_cases h4 : c = 56
  · subst h4; right; decide
  left
  have e : ∀ k : Nat, k < 256 → c ≠ k → (k.toUInt8 == c.toUInt8) = false := fun k hk hn => by
    rw [Bool.eq_false_iff]
    intro hh
    exact hn ((hb k hk).1 hh)
  have e1 := e 49 (by omega) h1
  have e2 := e 50 (by omega) h2
  have e3 := e 52 (by omega) h3
  have e4 := e 56 (by omega) h4
  refine ⟨?_, by simp [isNumI]; omega⟩
  have q : ∀ (b : UInt8) (l : List UInt8), (b == c.toUInt8) = false → Lib.indexByte l c.toUInt8 = -1 → Lib.indexByte (b :: l) c.toUInt8 = -1 := fun b l h1 h2 => by rw [Lib.indexByte, h1, h2]; simp
  exact q _ _ e1 (q _ _ e2 (q _ _ e3 (q _ _ e4 rfl)))

set_option maxRecDepth 100000 in
set_option maxHeartbeats 1600000 in
/-- Whatever the rune: is it a number's letter? -/
theorem contR_any (r : Int) (w : World) (h1 : 0 ≤ r) (h2 : r ≤ 2147483647) : Calls Try.prog 153 #[.string nums, .int .i32 r] w fun e w' => e = .returned (.bool (isNumI r)) ∧ Below w.heap.size w w' := by
  by_cases ha : r < 128
  · obtain ⟨c, rfl⟩ := Int.eq_ofNat_of_zero_le h1
    have C := idxR_ascii c w (by omega)
    rcases indexByte_nums c (by omega) with ⟨e1, e2⟩ | ⟨e1, e2⟩
    · rw [e1] at C
      rw [e2]
      clear e1 e2
      go_enter Try.func153, Try.ntmps153
      go_wp2_with fail
      refine (C).mono ?_
      rintro e w' ⟨rfl, rfl⟩
      go_wp2_with fail
      go_ret
      exact ⟨rfl, Below.refl _ _⟩
    · rw [e2]
      generalize Lib.indexByte [49, 50, 52, 56] c.toUInt8 = n at C e1
      clear e2
      go_enter Try.func153, Try.ntmps153
      go_wp2_with fail
      refine (C).mono ?_
      rintro e w' ⟨rfl, rfl⟩
      go_wp2_with fail
      go_ret
      exact ⟨rfl, Below.refl _ _⟩
  · have e2 : isNumI r = false := by simp [isNumI]; omega
    rw [e2]
    have C : Calls Try.prog 98 #[.string nums, .int .i32 r] w fun e w' => e = .returned (.int .i64 (-1)) ∧ Below w.heap.size w w' := by
      by_cases h3 : r = 65533
      · subst h3; exact idxR_err w
      · cases h4 : (decide (r < 55296) || (decide (57343 < r) && decide (r ≤ 1114111))) with
        | true => exact idxR_far r w (by omega) (by simp at h4; omega) h3 h4
        | false => exact (idxR_no r w (by omega) h2 h3 h4).mono fun e w' ⟨he, hw⟩ => ⟨he, by rw [← hw]; exact Below.refl _ _⟩
    clear e2
    go_enter Try.func153, Try.ntmps153
    go_wp2_with fail
    refine (C).mono ?_
    rintro e w' ⟨rfl, hb⟩
    have HB := Lib.hid hb
    clear hb
    go_wp2_with fail
    go_ret
    exact ⟨rfl, HB.out⟩
end Go.Proofs.Ytgkelbdgdhkeoaa
