/- The law's known, much, num of layer 13, walked. -/
import Derived.Test.YtgkelbdgdhkeoaaCmd5
namespace Go.Proofs.Ytgkelbdgdhkeoaa
open Go.RowKit
set_option linter.unusedVariables false
set_option linter.unusedSimpArgs false
open Wire Cmd

theorem num13_any (n : Int) (w : World) : Calls Try.prog 26 #[.int .i64 n] w fun e w' => e = .returned (.int .i64 n) ∧ w = w' := by
  go_enter Try.func26, Try.ntmps26
  go_wp2_with fail
  go_ret
  exact ⟨rfl, rfl⟩

def k8 : Op0 := ⟨8, 0, 0, 0, 0, 0, []⟩
def k2 : Op0 := ⟨2, 1, 0, 0, 0, 0, []⟩
def k5 : Op0 := ⟨5, 1, 0, 0, 0, 0, List.replicate 64 0⟩
theorem pk8 : packO k8 = some [8] := by kernel_rfl
theorem pk2 : packO k2 = some [2, 1, 0, 0, 0] := by kernel_rfl
theorem pk5' : (packO k5).map List.length = some 77 := by kernel_rfl
theorem pk5 : ∃ l, packO k5 = some l ∧ l.length = 77 := by
  have := pk5'
  cases h : packO k5 with
  | none => rw [h] at this; cases this
  | some l => rw [h] at this; exact ⟨l, rfl, by simpa using this⟩
theorem okOp {k : Int} {v : Nat} {d : List UInt8} (h : -9223372036854775808 ≤ k ∧ k ≤ 9223372036854775807) (hv : v < 10) : (⟨k, v, 0, 0, 0, 0, d⟩ : Op0).Ok := ⟨h, by show v < _; omega, by show 0 < _; omega, by show (-9223372036854775808 : Int) ≤ 0 ∧ (0 : Int) ≤ 9223372036854775807; omega, by show (-9223372036854775808 : Int) ≤ 0 ∧ (0 : Int) ≤ 9223372036854775807; omega, by show (-9223372036854775808 : Int) ≤ 0 ∧ (0 : Int) ≤ 9223372036854775807; omega⟩
theorem PackP.yes {w w' : World} {o : Option (List UInt8)} {bs : List UInt8} {e : Ending} (h : PackP w o e w') (ho : o = some bs) : ∃ ao cap, e = .returned (.tuple #[.slice ao bs.length cap, .int .i64 0]) ∧ Below w.heap.size w w' ∧ w'.ownsRow w.heap.size 5 1 (.slice ao bs.length cap) bs.length (bV bs) := by
  obtain ⟨hb, hP⟩ := h
  rw [ho] at hP
  obtain ⟨v', rfl, ho'⟩ := hP
  obtain ⟨ao, cap, rfl, _⟩ := Rd.of_own ho'
  exact ⟨ao, cap, rfl, hb, ho'⟩

set_option maxRecDepth 100000 in
set_option maxHeartbeats 3200000 in
theorem known13_any (w : World) : Calls Try.prog 18 #[] w fun e w' => e = .returned (.bool true) ∧ Below w.heap.size w w' := by
  have hnil : ∀ W : World, Rd W 1 (.slice none 0 0) 0 (bV []) := fun W => Rd.of_own (World.ownsRow_nil W 0 5 1)
  have C8 := fun W => bytes_any k8 (okOp (by omega) (by omega)) (.slice none 0 0) W (hnil W) (by show 0 ≤ _; omega)
  have C2 := fun W => bytes_any k2 (okOp (by omega) (by omega)) (.slice none 0 0) W (hnil W) (by show 0 ≤ _; omega)
  have C5 := fun W v hv => bytes_any k5 (okOp (by omega) (by omega)) v W hv (by show (List.replicate 64 (0 : UInt8)).length ≤ _; rw [List.length_replicate]; omega)
  have H8 := Lib.hid C8
  have H2 := Lib.hid C2
  have H5 := Lib.hid C5
  have CN := fun n W => num13_any n W
  obtain ⟨CZ, hCZ⟩ : ∃ C, C = (bV (List.replicate 64 (0 : UInt8))).toArray := ⟨_, rfl⟩
  have hmk : ∀ W : World, (Instr.makeSlice 24 (.int .i64 64) (.int .i64 64)).run Try.prog W = .ok (.slice (some ⟨W.heap.size, 0, none⟩) 64 64) (W.alloc (.cells CZ 5)) := fun W => by rw [hCZ]; kernel_rfl
  have HRZ : Hid (∀ W : World, Rd (W.alloc (.cells CZ 5)) 1 (.slice (some ⟨W.heap.size, 0, none⟩) 64 64) 64 (bV (List.replicate 64 (0 : UInt8)))) := Lib.hid (fun W => by rw [hCZ]; exact Rd.new W _ _ 64 (List.length_replicate) (by omega))
  clear C8 C2 C5 hnil hCZ
  go_enter Try.func18, Try.ntmps18
  go_wp2_with fail
  refine (H8.out _).mono ?_
  intro e w1 hP
  obtain ⟨a1, c1, rfl, hb1, _⟩ := hP.yes pk8
  have HB1 := Lib.hid hb1
  clear hP hb1
  go_wp2_with fail
  refine (H2.out _).mono ?_
  intro e w2 hP
  obtain ⟨a2, c2, rfl, hb2, _⟩ := hP.yes pk2
  have HB2 := Lib.hid (bthen HB1.out hb2)
  clear hP hb2
  go_wp2_with fail
  refine (H5.out _ _ (HRZ.out _)).mono ?_
  intro e w3 hP
  obtain ⟨l5, hl5, hl77⟩ := pk5
  obtain ⟨a3, c3, rfl, hb3, _⟩ := hP.yes hl5
  rw [hl77]
  have HB3 := Lib.hid (bthen (balloc HB2.out _) hb3)
  clear hP hb3 hl5 hl77 hmk
  go_wp2_with (first
    | (go_at_call 26; refine (CN _ _).mono ?_; rintro e w' ⟨rfl, rfl⟩))
  go_ret
  exact ⟨rfl, HB3.out⟩

set_option maxRecDepth 100000 in
set_option maxHeartbeats 1600000 in
theorem much13_any (o : Op0) (ao : Option Addr) (cap : Nat) (w : World) (hl : o.data.length ≤ 9223372036854775807) : Calls Try.prog 17 #[.agg (oC o (.slice ao o.data.length cap))] w fun e w' => e = .returned (.bool (decide (9000 < (o.data.length : Int)))) ∧ Below w.heap.size w w' := by
  have hb := balloc (Below.refl _ w) (.cells (oC o (.slice ao o.data.length cap)) 26)
  unfold oC at *
  have HB := Lib.hid hb
  clear hb
  generalize o.data.length = n at *
  go_enter Try.func17, Try.ntmps17
  go_wp2_with fail
  go_ret
  exact ⟨rfl, HB.out⟩
end Go.Proofs.Ytgkelbdgdhkeoaa
