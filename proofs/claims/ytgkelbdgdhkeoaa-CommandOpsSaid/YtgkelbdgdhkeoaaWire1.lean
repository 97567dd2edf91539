/- wire's letters, walked: width, May, Least; the reference's size, May, Least. -/
import Derived.Lib.OthersKept
import Derived.Deep.LoopGhost
import Derived.Test.YtgkelbdgdhkeoaaBytes
import Derived.Test.YtgkelbdgdhkeoaaMods
import Derived.Test.YtgkelbdgdhkeoaaWire0
namespace Go.Proofs.Ytgkelbdgdhkeoaa
open Go.RowKit
set_option linter.unusedVariables false
open Wire

/-- A string's bytes. -/
abbrev chs (s : ByteArray) : List UInt8 := s.data.toList
theorem chs_len (s : ByteArray) : (chs s).length = s.size := by simp [chs]
theorem chs_get {s : ByteArray} {i : Nat} (h : i < s.size) : (chs s)[i]? = some (s[i]'h) := by
  have : i < (chs s).length := by rw [chs_len]; exact h
  rw [List.getElem?_eq_getElem this]
  rfl
theorem chs_drop {s : ByteArray} {i : Nat} (h : i < s.size) : (chs s).drop i = (s[i]'h) :: (chs s).drop (i + 1) := by
  have h1 : i < (chs s).length := by rw [chs_len]; exact h
  rw [List.drop_eq_getElem_cons h1]
  rfl
theorem chs_take {s : ByteArray} {i : Nat} (h : i < s.size) : (chs s).take (i + 1) = (chs s).take i ++ [s[i]'h] := by
  have h1 : i < (chs s).length := by rw [chs_len]; exact h
  rw [List.take_succ_eq_append_getElem h1]
  rfl

set_option maxRecDepth 100000 in
set_option maxHeartbeats 800000 in
theorem width_any (r : Int) (w : World) (h1 : -2147483648 ≤ r) (h2 : r ≤ 2147483647) : Calls Try.prog 155 #[.int .i32 r] w fun e w' => e = .returned (.int .i64 (widI r : Int)) ∧ w = w' := by
  have key : ∀ k : Nat, widI r = k → Calls Try.prog 155 #[.int .i32 r] w fun e w' => e = .returned (.int .i64 (k : Int)) ∧ w = w' := by
    intro k hk
    unfold widI at hk
    split at hk
    · subst hk; rename_i h; subst h
      go_enter Try.func155, Try.ntmps155
      go_wp2
      go_ret
      exact ⟨rfl, rfl⟩
    split at hk
    · subst hk; rename_i h; subst h
      go_enter Try.func155, Try.ntmps155
      go_wp2
      go_ret
      exact ⟨rfl, rfl⟩
    split at hk
    · subst hk; rename_i h; subst h
      go_enter Try.func155, Try.ntmps155
      go_wp2
      go_ret
      exact ⟨rfl, rfl⟩
    split at hk
    · subst hk; rename_i h; subst h
      go_enter Try.func155, Try.ntmps155
      go_wp2
      go_ret
      exact ⟨rfl, rfl⟩
    split at hk
    · subst hk; rename_i h; subst h
      go_enter Try.func155, Try.ntmps155
      go_wp2
      go_ret
      exact ⟨rfl, rfl⟩
    split at hk
    · subst hk; rename_i h; subst h
      go_enter Try.func155, Try.ntmps155
      go_wp2
      go_ret
      exact ⟨rfl, rfl⟩
    split at hk
    · subst hk; rename_i h; subst h
      go_enter Try.func155, Try.ntmps155
      go_wp2
      go_ret
      exact ⟨rfl, rfl⟩
    · subst hk
      rename_i a b c d e f g
      have a := beq_eq_false_iff_ne.2 a
      have b := beq_eq_false_iff_ne.2 b
      have c := beq_eq_false_iff_ne.2 c
      have d := beq_eq_false_iff_ne.2 d
      have e := beq_eq_false_iff_ne.2 e
      have f := beq_eq_false_iff_ne.2 f
      have g := beq_eq_false_iff_ne.2 g
      go_enter Try.func155, Try.ntmps155
      go_wp2
      go_ret
      exact ⟨rfl, rfl⟩
  exact key _ rfl

set_option maxRecDepth 100000 in
set_option maxHeartbeats 800000 in
theorem mayF_any (r : Int) (w : World) (h1 : -2147483648 ≤ r) (h2 : r ≤ 2147483647) : Calls Try.prog 157 #[.int .i32 r] w fun e w' => e = .returned (.bool (widI r == 0)) ∧ w = w' := by
  have C := width_any r w h1 h2
  generalize widI r = k at C ⊢
  cases k with
  | zero =>
    go_enter Try.func157, Try.ntmps157
    go_wp2_with fail
    refine (C).mono ?_
    rintro e w' ⟨rfl, rfl⟩
    go_wp2_with fail
    go_ret
    exact ⟨rfl, rfl⟩
  | succ k =>
    have hk : (((k + 1 : Nat) : Int) == 0) = false := by simp; omega
    go_enter Try.func157, Try.ntmps157
    go_wp2_with fail
    refine (C).mono ?_
    rintro e w' ⟨rfl, rfl⟩
    go_wp2_with fail
    go_ret
    exact ⟨by simp; omega, rfl⟩

/-- What the rune at a place is: that byte, where it is ASCII; else no letter. -/
theorem rune_wid {s : ByteArray} {i : Nat} (h : i < s.size) : widI ((Utf8.decode s i).1 : Int) = wid (s[i]'h) := by
  by_cases ha : (s[i]'h).toNat < 128
  · rw [decode_ascii s i h ha]; rfl
  · have h1 : 128 ≤ (Utf8.decode s i).1 := (decode_high s i h (by omega)).1
    rw [widI_big (by omega)]
    unfold wid
    rw [widI_big (by omega)]

theorem may_drop {s : ByteArray} {i : Nat} (h : i < s.size) : may ((chs s).drop i) = (wid (s[i]'h) != 0 && may ((chs s).drop (i + 1))) := by rw [chs_drop h, may_cons]
theorem may_end (s : ByteArray) : may ((chs s).drop s.size) = true := by rw [List.drop_eq_nil_of_le (by rw [chs_len]; exact Nat.le_refl _)]; rfl
/-- What indexFunc says of a text's letters. -/
def IdxP (s : ByteArray) (w : World) (e : Ending) (w' : World) : Prop := ∃ n : Int, e = .returned (.int .i64 n) ∧ Below w.heap.size w w' ∧ (may (chs s) = true → n = -1) ∧ (may (chs s) = false → 0 ≤ n)

set_option maxRecDepth 100000 in
set_option maxHeartbeats 1600000 in
theorem indexF_any (s : ByteArray) (w : World) (hs : s.size ≤ 1000000) : Calls Try.prog 164 #[.string s, .func (.func 157) #[] #[], .bool true] w (IdxP s w) := by
  have HC := Lib.hid mayF_any
  obtain ⟨k, hk⟩ : ∃ k, w.heap.size = k := ⟨_, rfl⟩
  have HI : Hid ((w.iter s 0).heap[k]? = some (.stringIter s 0) ∧ Below k w (w.iter s 0)) := Lib.hid ⟨hk ▸ World.iter_heap w s 0, hk ▸ (Below.refl _ _).alloc (Nat.le_refl _) _⟩
  go_enter Try.func164, Try.ntmps164
  go_wp2_with fail
  generalize w.iter s 0 = w0 at HI ⊢
  have HK := Lib.hid hk
  clear hk
  go_loopg [11] s.size (fun g u wr => ∃ pos : Nat, pos ≤ s.size ∧ g = s.size - pos ∧ wr.heap[k]? = some (.stringIter s pos) ∧ Below k w wr ∧ may (chs s) = may ((chs s).drop pos))
  case atStart => exact ⟨0, by omega, by omega, HI.out.1, HI.out.2, rfl⟩
  case round =>
    obtain ⟨pos, hp, hg, hh, hb, hm⟩ := hrel
    have HG := Lib.hid hg
    have HM := Lib.hid hm
    have HB := Lib.hid hb
    by_cases hlt : pos < s.size
    · have hd := may_drop hlt
      by_cases hw : wid (s[pos]'hlt) = 0
      · have hnx := fun ty => Lib.run_next_any_at (P := Try.prog) wr k s pos ty hh hlt
        have hle := decode_le s pos
        have C := HC.out ((Utf8.decode s pos).1 : Int) (wr.iterAt k s (pos + (Utf8.decode s pos).2)) (by omega) (by omega)
        rw [rune_wid hlt, hw] at C
        have hb2 := Lib.below_iterAt hb (Nat.le_refl k) s (pos + (Utf8.decode s pos).2)
        have HP : Hid (IdxP s w (.returned (.int .i64 (pos : Int))) (wr.iterAt k s (pos + (Utf8.decode s pos).2))) := Lib.hid ⟨_, rfl, by rw [HK.out]; exact hb2, fun h => (by rw [hm, hd, hw] at h; simp at h), fun _ => by omega⟩
        clear hg hm hb hd hh hb2
        go_wp2_with fail
        refine C.mono ?_
        rintro e w1 ⟨rfl, rfl⟩
        go_wp2_with fail
        go_ret
        exact HP.out
      · have ha := wid_small hw
        have hnx := fun ty => Lib.run_next_ascii_at (P := Try.prog) wr k s pos ty hh hlt ha
        have C := HC.out (((s[pos]'hlt).toNat : Nat) : Int) (wr.iterAt k s (pos + 1)) (by omega) (by omega)
        have hw2 : (widI (((s[pos]'hlt).toNat : Nat) : Int) == 0) = false := by simpa [wid] using hw
        rw [hw2] at C
        have HB2 := Lib.hid (Lib.below_iterAt hb (Nat.le_refl k) s (pos + 1))
        have HH2 := Lib.hid (Lib.iterAt_heap wr k s pos (pos + 1) hh)
        have hd2 : may ((chs s).drop pos) = may ((chs s).drop (pos + 1)) := by rw [hd]; simp [hw]
        have HD2 := Lib.hid hd2
        clear hg hm hb hd hh hd2
        go_wp2_with fail
        refine C.mono ?_
        rintro e w1 ⟨rfl, rfl⟩
        go_wp2_with fail
        go_roundg (s.size - (pos + 1))
        case rel => exact ⟨pos + 1, by omega, rfl, HH2.out, HB2.out, HM.out.trans HD2.out⟩
        case measure => have := HG.out; omega
    · obtain rfl : pos = s.size := by omega
      have hnx := fun ty => Lib.run_next_end_at (P := Try.prog) wr k s s.size ty hh (by omega)
      clear hg hm hb
      go_wp2_with fail
      go_ret
      exact ⟨-1, rfl, by rw [HK.out]; exact HB.out, fun _ => rfl, fun h => by rw [HM.out, may_end] at h; cases h⟩
end Go.Proofs.Ytgkelbdgdhkeoaa
