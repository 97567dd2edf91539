/- The law's known, much, num. -/
import Derived.Test.YtgkelbdgdhkeoaaUnpack
namespace Go.Proofs.Ytgkelbdgdhkeoaa
open Go.RowKit
set_option linter.unusedVariables false
set_option linter.unusedSimpArgs false
open Wire

theorem num1_any (n : Int) (w : World) : Calls Try.prog 97 #[.int .i64 n] w fun e w' => e = .returned (.int .i64 n) ∧ w = w' := by
  go_enter Try.func97, Try.ntmps97
  go_wp2_with fail
  go_ret
  exact ⟨rfl, rfl⟩

theorem pack_known : pack (chs ⟨#[52, 63, 42]⟩) [num 258, flag true, blob [7]] = some [2, 1, 0, 0, 1, 1, 0, 0, 0, 7] := by kernel_rfl
theorem unpack_known : unpack (chs ⟨#[50]⟩) [3, 1, 9] = some ([num 259], 2) := by kernel_rfl
theorem may_known : may (chs ⟨#[50]⟩) = true := by kernel_rfl

set_option maxRecDepth 100000 in
set_option maxHeartbeats 6400000 in
theorem known1_any (w : World) : Calls Try.prog 36 #[] w fun e w' => e = .returned (.bool true) ∧ Below w.heap.size w w' := by
  obtain ⟨B, hB⟩ : ∃ B, w.heap.size = B := ⟨_, rfl⟩
  have ta := fun y W => run_assert_hit (P := Try.prog) (xT := 20) Try.underlying23 rfl y W
  have CN := fun n W => num1_any n W
  go_enter Try.func36, Try.ntmps36
  go_wp2_with fail
  refine (pack_any ⟨#[52, 63, 42]⟩ (ao := some ⟨B + 1, 0, none⟩) (n := 3) (cap := 3) (vs := [num 258, flag true, blob [7]]) ⟨rfl, by omega, by decide, ?_⟩ 1 (by simp [num, flag, blob]) (by omega) (by decide) (fun h => by cases h)).mono ?_
  · have h1 : ((w.alloc (.cells #[.int .u8 7] 5)).alloc (.cells #[.iface 23 (.int .u64 258), .iface 4 (.bool true), .iface 24 (.slice (some ⟨B, 0, none⟩) 1 1)] 20)).heap[B + 1]? = some (.cells #[.iface 23 (.int .u64 258), .iface 4 (.bool true), .iface 24 (.slice (some ⟨B, 0, none⟩) 1 1)] 20 (0, 0)) := by
      have := heap_alloc_new (w.alloc (.cells #[.int .u8 7] 5)) (.cells #[.iface 23 (.int .u64 258), .iface 4 (.bool true), .iface 24 (.slice (some ⟨B, 0, none⟩) 1 1)] 20)
      rwa [World.size_alloc, hB] at this
    have h2 : Rd (w.alloc (.cells #[.int .u8 7] 5)) 1 (.slice (some ⟨B, 0, none⟩) 1 1) 1 (bV [7]) := by
      have := Rd.new w 5 [7] 1 rfl (by omega)
      rwa [hB] at this
    have h3 := h2.below (balloc (Below.refl _ _) (.cells #[.iface 23 (.int .u64 258), .iface 4 (.bool true), .iface 24 (.slice (some ⟨B, 0, none⟩) 1 1)] 20))
    intro j x hj
    match j, hj with
    | 0, hj =>
      obtain rfl := Option.some.inj hj
      exact ⟨B + 1, 0, _, rfl, by simp [hB], cellOf' h1 _ rfl, .inl ⟨rfl, rfl, by decide⟩⟩
    | 1, hj =>
      obtain rfl := Option.some.inj hj
      exact ⟨B + 1, 0, _, rfl, by simp [hB], cellOf' h1 _ rfl, .inr (.inl ⟨rfl, rfl⟩)⟩
    | 2, hj =>
      obtain rfl := Option.some.inj hj
      exact ⟨B + 1, 0, _, rfl, by simp [hB], cellOf' h1 _ rfl, .inr (.inr (.inl ⟨rfl, _, rfl, h3⟩))⟩
    | j + 3, hj => cases hj
  intro e w3 hP
  have hb3 := hP.1
  rw [pack_known] at hP
  obtain ⟨_, v3, rfl, ho3⟩ := hP
  have hB3 : Below B w w3 := by
    have := (balloc (balloc (Below.refl w.heap.size w) (.cells #[.int .u8 7] 5)) (.cells #[.iface 23 (.int .u64 258), .iface 4 (.bool true), .iface 24 (.slice (some ⟨B, 0, none⟩) 1 1)] 20))
    rw [← hB]
    exact this.trans (hb3.mono this.size)
  have hrd3 := Rd.of_own ho3
  have HR3 := Lib.hid hrd3
  have HB3 := Lib.hid hB3
  clear hb3 ho3 hrd3 hB3
  obtain ⟨k3, hk3⟩ : ∃ k, w3.heap.size = k := ⟨_, rfl⟩
  go_wp2_with fail
  have hr4 : Rd (w3.alloc (.cells #[.int .u8 3, .int .u8 1, .int .u8 9] 5)) 1 (.slice (some ⟨k3, 0, none⟩) 3 3) 3 (bV [3, 1, 9]) := by
    have := Rd.new w3 5 [3, 1, 9] 3 rfl (by omega)
    rwa [hk3] at this
  have hba : Below B w (w3.alloc (.cells #[.int .u8 3, .int .u8 1, .int .u8 9] 5)) := HB3.out.alloc (by rw [← hB]; exact HB3.out.size) _
  have hr3 := HR3.out.below (balloc (Below.refl _ w3) (.cells #[.int .u8 3, .int .u8 1, .int .u8 9] 5))
  have hbs : B ≤ (w3.alloc (.cells #[.int .u8 3, .int .u8 1, .int .u8 9] 5)).heap.size := by rw [← hB]; exact hba.size
  refine (unpack_any ⟨#[50]⟩ hr4 (by omega) (by decide)).mono ?_
  intro e w4 hP
  rw [may_known, unpack_known] at hP
  obtain ⟨hb4, v4, rfl, xs, hox, hxx⟩ := hP
  obtain ⟨u, hu, hau⟩ := hxx 0 (num 259) rfl
  have hue : u = .iface 23 (.int .u64 259) := by
    rcases hau with ⟨_, h, _⟩ | ⟨h, _⟩ | ⟨h, _⟩ | ⟨h, _⟩
    · exact h
    · exact absurd h (by decide)
    · exact absurd h (by decide)
    · exact absurd h (by decide)
  subst hue
  have hrx := Rd.of_own hox
  obtain ⟨ao, cap, rfl, _, _, _, hcx⟩ := hrx
  obtain ⟨b, off, rfl, hbl, hce⟩ := hcx 0 _ hu
  rw [Nat.add_zero] at hce
  have htx := run_text w4 v3 _ _ (hr3.below hb4)
  have HBB := Lib.hid (hba.trans (hb4.mono hbs))
  have HB := Lib.hid hB
  clear hr4 hba hr3 hbs hxx hox hcx hb4 hau hB hk3 hu
  have he1 := strB_toList [2, 1, 0, 0, 1, 1, 0, 0, 0, 7]
  generalize strB [2, 1, 0, 0, 1, 1, 0, 0, 0, 7] = S at htx he1
  go_wp2_with fail
  refine (CN 0 w4).mono ?_
  rintro e w5 ⟨rfl, rfl⟩
  go_wp2_with fail
  refine (CN 0 w4).mono ?_
  rintro e w5 ⟨rfl, rfl⟩
  go_wp2_with fail
  go_ret
  exact ⟨rfl, by rw [HB.out]; exact HBB.out⟩

end Go.Proofs.Ytgkelbdgdhkeoaa
