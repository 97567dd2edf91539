/- The law's known of layer 19, walked. -/
import Derived.Test.YtgkelbdgdhkeoaaSMsg29
import Derived.Test.YtgkelbdgdhkeoaaSMsg21
import Derived.Test.YtgkelbdgdhkeoaaSCK
namespace Go.Proofs.Ytgkelbdgdhkeoaa
open Go.RowKit
set_option linter.unusedVariables false
set_option linter.unusedSimpArgs false
open Wire Cmd
def m3s : Ms0 := { msK 3 0 with seq := 7 }
theorem someLen {o : Option (List UInt8)} {n : Nat} (h : o.map List.length = some n) : ∃ l, o = some l ∧ l.length = n := by
 cases o with
 | none => cases h
 | some l => exact ⟨l, rfl, by simpa using h⟩
theorem pk14 : ∃ l, packM (msK 14 0) = some l ∧ l.length = 9 := someLen (by kernel_rfl)
theorem pk3 : ∃ l, packM m3s = some l ∧ l.length = 17 := someLen (by kernel_rfl)
theorem pk1 : ∃ l, packM (msK 1 0) = some l ∧ l.length = 51 := someLen (by kernel_rfl)
theorem okK {k : Nat} (hk : k < 4294967296) : (msK (k : Int) 0).Ok := (msK_ok hk (by decide) 0).1
theorem ok3 : m3s.Ok :=
 have h := okK (k := 3) (by decide)
 ⟨h.k, h.epoch, h.st, (by decide : (7 : Nat) < 18446744073709551616), h.op, h.blocks, h.num, h.fro, h.ne, h.ns, h.item⟩
theorem arr14 : (msL (msK 14 0) (.slice none 0 0) (.slice none 0 0)).toArray = Try.zeroCells81.setIfInBounds 0 (.int .i64 14) := by kernel_rfl
theorem arr1 : (msL (msK 1 0) (.slice none 0 0) (.slice none 0 0)).toArray = Try.zeroCells81.setIfInBounds 0 (.int .i64 1) := by kernel_rfl
theorem arr3 : (msL m3s (.slice none 0 0) (.slice none 0 0)).toArray = (Try.zeroCells81.setIfInBounds 0 (.int .i64 3)).setIfInBounds 9 (.int .u64 7) := by kernel_rfl
set_option maxRecDepth 100000 in
set_option maxHeartbeats 3200000 in
theorem known19_any (w : World) : Calls Try.prog 48 #[] w fun e w' => e = .returned (.bool true) ∧ Below w.heap.size w w' := by
 have hnil : ∀ W : World, Rd W 1 (.slice none 0 0) 0 (bV []) := fun W => Rd.of_own (World.ownsRow_nil W 0 5 1)
 have C14 : Hid (∀ W, Calls Try.prog 49 #[.agg (Try.zeroCells81.setIfInBounds 0 (.int .i64 14))] W (PackP W (packM (msK 14 0)))) := Lib.hid (fun W => by
  have h := bytesM_any (msK 14 0) (okK (k := 14) (by decide)) (.slice none 0 0) (.slice none 0 0) W (hnil W) (hnil W)
  rw [arr14] at h
  exact h)
 have C1 : Hid (∀ W, Calls Try.prog 49 #[.agg (Try.zeroCells81.setIfInBounds 0 (.int .i64 1))] W (PackP W (packM (msK 1 0)))) := Lib.hid (fun W => by
  have h := bytesM_any (msK 1 0) (okK (k := 1) (by decide)) (.slice none 0 0) (.slice none 0 0) W (hnil W) (hnil W)
  rw [arr1] at h
  exact h)
 have C3 : Hid (∀ W, Calls Try.prog 49 #[.agg ((Try.zeroCells81.setIfInBounds 0 (.int .i64 3)).setIfInBounds 9 (.int .u64 7))] W (PackP W (packM m3s))) := Lib.hid (fun W => by
  have h := bytesM_any m3s ok3 (.slice none 0 0) (.slice none 0 0) W (hnil W) (hnil W)
  rw [arr3] at h
  exact h)
 clear hnil
 go_enter Try.func48, Try.ntmps48
 go_wp2_with fail
 refine (C14.out _).mono ?_
 intro e w1 hP
 obtain ⟨l1, hl1, hn1⟩ := pk14
 obtain ⟨a1, c1, rfl, hb1, _⟩ := hP.yes hl1
 rw [hn1]
 have HB1 := Lib.hid hb1
 clear hP hb1 hl1 hn1
 go_wp2_with fail
 refine (C3.out _).mono ?_
 intro e w2 hP
 obtain ⟨l2, hl2, hn2⟩ := pk3
 obtain ⟨a2, c2, rfl, hb2, _⟩ := hP.yes hl2
 rw [hn2]
 have HB2 := Lib.hid (bthen HB1.out hb2)
 clear hP hb2 hl2 hn2
 go_wp2_with fail
 refine (C1.out _).mono ?_
 intro e w3 hP
 obtain ⟨l3, hl3, hn3⟩ := pk1
 obtain ⟨a3, c3, rfl, hb3, _⟩ := hP.yes hl3
 rw [hn3]
 have HB3 := Lib.hid (bthen HB2.out hb3)
 clear hP hb3 hl3 hn3
 go_wp2_with (first
  | (go_at_call 54; refine (num19_any _ _).mono ?_; rintro e w' ⟨rfl, rfl⟩))
 go_ret
 exact ⟨rfl, HB3.out⟩
end Go.Proofs.Ytgkelbdgdhkeoaa
