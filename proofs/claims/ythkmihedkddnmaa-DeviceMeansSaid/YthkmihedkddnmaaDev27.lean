/- Devices: maps.Keys, slices.Sorted, slices.Sort at ints, laid by the kit's tool (lay-plain, turned to names by unname.py); Mapped, walked. -/
import Derived.Shelf.SlIterI.Nil
import Derived.Shelf.SortM.Plain
import Derived.Shelf.SortM.SortNone
import Derived.Test.YthkmihedkddnmaaDev26
namespace Go.Proofs.Ythkmihedkddnmaa
open Go.RowKit Go.Maps Go.Sort Go.Shelf Wire Cmd
set_option linter.unusedVariables false
set_option linter.unusedSimpArgs false

def keysI_ren : Go.Shelf.Ren := ⟨fun | 7 => 32 | 10 => 44 | n => n, fun | 23 => 51 | 26 => 3 | 3 => 42 | 28 => 68 | 0 => 0 | 27 => 67 | 33 => 90 | 4 => 4 | n => n, fun | n => n⟩
theorem keysI : Go.Proofs.SlLaysZI.n7 Try.prog keysI_ren := {
  mixed := by kernel_rfl
  f7 := ⟨Try.f32.name, by decide, Try.func32.trans (congrArg some (by kernel_rfl))⟩
  f10 := ⟨Try.f44.name, by decide, Try.func44.trans (congrArg some (by kernel_rfl))⟩
  t0 := Try.underlying0
  a0 := Try.isAgg0
  z0 := Try.sizeOf0
  v0 := Try.zeroValue0
  t4 := Try.underlying4
  a4 := Try.isAgg4
  z4 := Try.sizeOf4
  v4 := Try.zeroValue4
  t23 := Try.underlying51
  a23 := Try.isAgg51
  z23 := Try.sizeOf51
  v23 := Try.zeroValue51
  t26 := Try.underlying3
  a26 := Try.isAgg3
  z26 := Try.sizeOf3
  v26 := Try.zeroValue3
  t27 := Try.underlying67
  a27 := Try.isAgg67
  z27 := Try.sizeOf67
  v27 := Try.zeroValue67
  t28 := Try.underlying68
  a28 := Try.isAgg68
  z28 := Try.sizeOf68
  v28 := Try.zeroValue68
  t33 := Try.underlying90
  a33 := Try.isAgg90
  z33 := Try.sizeOf90
  v33 := Try.zeroValue90 }
def sortedI_ren : Go.Shelf.Ren := ⟨fun | 6 => 31 | 8 => 42 | 9 => 43 | 11 => 51 | 13 => 53 | 12 => 52 | 23 => 64 | 24 => 65 | 14 => 55 | 15 => 56 | 16 => 57 | 17 => 58 | 18 => 59 | 19 => 60 | 20 => 61 | 21 => 62 | 22 => 63 | 25 => 66 | 26 => 67 | 27 => 68 | 28 => 69 | 29 => 70 | 30 => 71 | 31 => 72 | n => n, fun | 26 => 3 | 28 => 68 | 24 => 59 | 0 => 0 | 3 => 3 | 37 => 100 | 48 => 112 | 50 => 24 | 4 => 4 | 40 => 105 | 39 => 104 | 45 => 39 | 5 => 5 | 9 => 9 | 51 => 114 | 55 => 118 | 57 => 120 | 58 => 121 | 33 => 90 | n => n, fun | n => n⟩
theorem sortedI : Go.Proofs.SlLaysZI.n6 Try.prog sortedI_ren := {
  mixed := by kernel_rfl
  f6 := ⟨Try.f31.name, by decide, Try.func31.trans (congrArg some (by kernel_rfl))⟩
  f8 := ⟨Try.f42.name, by decide, Try.func42.trans (congrArg some (by kernel_rfl))⟩
  f11 := ⟨Try.f51.name, by decide, Try.func51.trans (congrArg some (by kernel_rfl))⟩
  t0 := Try.underlying0
  a0 := Try.isAgg0
  z0 := Try.sizeOf0
  v0 := Try.zeroValue0
  t24 := Try.underlying59
  a24 := Try.isAgg59
  z24 := Try.sizeOf59
  v24 := Try.zeroValue59
  t26 := Try.underlying3
  a26 := Try.isAgg3
  z26 := Try.sizeOf3
  v26 := Try.zeroValue3
  t28 := Try.underlying68
  a28 := Try.isAgg68
  z28 := Try.sizeOf68
  v28 := Try.zeroValue68
  i26 := by kernel_rfl }
def sortI_ren : Go.Shelf.Ren := ⟨fun | 5 => 43 | 8 => 53 | 7 => 52 | 19 => 64 | 20 => 65 | 10 => 55 | 11 => 56 | 12 => 57 | 13 => 58 | 14 => 59 | 15 => 60 | 16 => 61 | 17 => 62 | 18 => 63 | 30 => 66 | 31 => 67 | 32 => 68 | 33 => 69 | 34 => 70 | 35 => 71 | 40 => 72 | n => n, fun | 23 => 59 | 25 => 3 | 3 => 3 | 32 => 100 | 22 => 59 | 0 => 0 | 44 => 112 | 46 => 24 | 4 => 4 | 36 => 105 | 35 => 104 | 41 => 39 | 5 => 5 | 9 => 9 | 53 => 114 | 57 => 118 | 63 => 120 | 64 => 121 | n => n, fun | n => n⟩
theorem sortI : Go.Proofs.SlLaysM.n5 Try.prog sortI_ren := {
  mixed := by kernel_rfl
  f5 := ⟨Try.f43.name, by decide, Try.func43.trans (congrArg some (by kernel_rfl))⟩
  f7 := ⟨Try.f52.name, by decide, Try.func52.trans (congrArg some (by kernel_rfl))⟩
  f8 := Try.func53.trans (congrArg some (by kernel_rfl))
  f10 := ⟨Try.f55.name, by decide, Try.func55.trans (congrArg some (by kernel_rfl))⟩
  f11 := ⟨Try.f56.name, by decide, Try.func56.trans (congrArg some (by kernel_rfl))⟩
  f12 := ⟨Try.f57.name, by decide, Try.func57.trans (congrArg some (by kernel_rfl))⟩
  f13 := ⟨Try.f58.name, by decide, Try.func58.trans (congrArg some (by kernel_rfl))⟩
  f14 := ⟨Try.f59.name, by decide, Try.func59.trans (congrArg some (by kernel_rfl))⟩
  f15 := ⟨Try.f60.name, by decide, Try.func60.trans (congrArg some (by kernel_rfl))⟩
  f16 := ⟨Try.f61.name, by decide, Try.func61.trans (congrArg some (by kernel_rfl))⟩
  f17 := ⟨Try.f62.name, by decide, Try.func62.trans (congrArg some (by kernel_rfl))⟩
  f18 := ⟨Try.f63.name, by decide, Try.func63.trans (congrArg some (by kernel_rfl))⟩
  f19 := Try.func64.trans (congrArg some (by kernel_rfl))
  f20 := Try.func65.trans (congrArg some (by kernel_rfl))
  f30 := ⟨Try.f66.name, by decide, Try.func66.trans (congrArg some (by kernel_rfl))⟩
  f31 := Try.func67.trans (congrArg some (by kernel_rfl))
  f32 := Try.func68.trans (congrArg some (by kernel_rfl))
  f33 := ⟨Try.f69.name, by decide, Try.func69.trans (congrArg some (by kernel_rfl))⟩
  f34 := ⟨Try.f70.name, by decide, Try.func70.trans (congrArg some (by kernel_rfl))⟩
  f35 := ⟨Try.f71.name, by decide, Try.func71.trans (congrArg some (by kernel_rfl))⟩
  f40 := ⟨Try.f72.name, by decide, Try.func72.trans (congrArg some (by kernel_rfl))⟩
  t0 := Try.underlying0
  a0 := Try.isAgg0
  z0 := Try.sizeOf0
  v0 := Try.zeroValue0
  t3 := Try.underlying3
  a3 := Try.isAgg3
  z3 := Try.sizeOf3
  v3 := Try.zeroValue3
  t4 := Try.underlying4
  a4 := Try.isAgg4
  z4 := Try.sizeOf4
  v4 := Try.zeroValue4
  t5 := Try.underlying5
  a5 := Try.isAgg5
  z5 := Try.sizeOf5
  v5 := Try.zeroValue5
  t9 := Try.underlying9
  a9 := Try.isAgg9
  z9 := Try.sizeOf9
  v9 := Try.zeroValue9
  t22 := Try.underlying59
  a22 := Try.isAgg59
  z22 := Try.sizeOf59
  v22 := Try.zeroValue59
  t23 := Try.underlying59
  a23 := Try.isAgg59
  z23 := Try.sizeOf59
  v23 := Try.zeroValue59
  t25 := Try.underlying3
  a25 := Try.isAgg3
  z25 := Try.sizeOf3
  v25 := Try.zeroValue3
  t32 := Try.underlying100
  a32 := Try.isAgg100
  z32 := Try.sizeOf100
  v32 := Try.zeroValue100
  t35 := Try.underlying104
  a35 := Try.isAgg104
  z35 := Try.sizeOf104
  v35 := Try.zeroValue104
  t36 := Try.underlying105
  a36 := Try.isAgg105
  z36 := Try.sizeOf105
  v36 := Try.zeroValue105
  t41 := Try.underlying39
  a41 := Try.isAgg39
  z41 := Try.sizeOf39
  v41 := Try.zeroValue39
  t44 := Try.underlying112
  a44 := Try.isAgg112
  z44 := Try.sizeOf112
  v44 := Try.zeroValue112
  t46 := Try.underlying24
  a46 := Try.isAgg24
  z46 := Try.sizeOf24
  v46 := Try.zeroValue24
  t53 := Try.underlying114
  a53 := Try.isAgg114
  z53 := Try.sizeOf114
  v53 := Try.zeroValue114
  t57 := Try.underlying118
  a57 := Try.isAgg118
  z57 := Try.sizeOf118
  v57 := Try.zeroValue118
  t63 := Try.underlying120
  a63 := Try.isAgg120
  z63 := Try.sizeOf120
  v63 := Try.zeroValue120
  t64 := Try.underlying121
  a64 := Try.isAgg121
  z64 := Try.sizeOf121
  v64 := Try.zeroValue121 }
theorem sortsI (m : Nat) : AnyZI.SortsIn Try.prog sortedI_ren Fence.wide m :=
  ⟨fun blk off cap ss W hH hblk hsz => callsIn_wide.2 (AnyM.slices_Sort_int sortI blk off cap ss W hH hblk hsz),
   fun p cap W => callsIn_wide.2 (AnyM.slices_Sort_int_none sortI p cap W)⟩
theorem keysB_any (mb : Option Nat) (W : World) : Calls Try.prog 32 #[.map mb] W fun e w' => e = .returned (.func (.func 44) #[] #[.pointer (some ⟨W.heap.size, 0, none⟩)]) ∧ w' = W.alloc (.cells #[.map mb] 51) :=
  (callsIn_wide (n := 5)).1 (AnyZI.keys_in keysI Fence.wide 5 trivial rfl mb W)
theorem keys_enc (l : List (Nat × List UInt8)) : intKeys (encM .i64 blkD l) = l.map fun p => (p.1 : Int) := by
  unfold encM encA intKeys
  simp only [List.map_map]
  rfl
/-- Rising numbers in whatever order, sorted: as they were. -/
theorem ris_sorted {l : List (Nat × List UInt8)} (h : Ris l) {ss : List Int} (hp : ss.Perm (intKeys (encM .i64 blkD l))) : ss.mergeSort (fun x y => decide (x ≤ y)) = l.map fun p => (p.1 : Int) := by
  rw [keys_enc] at hp
  have h1 : ss.mergeSort leI = (l.map fun p => (p.1 : Int)).mergeSort leI := mergeSort_of_perm_i hp
  refine h1.trans (List.mergeSort_of_pairwise ?_)
  refine List.pairwise_map.2 (h.imp fun {a b} hab => ?_)
  simp only [leI, decide_eq_true_eq]
  omega
theorem sortedB_any (b : Nat) (m : List (Nat × List UInt8)) (w : World) (h : MapL w Try.prog 3 RBlk .i64 blkD b m) (hr : Ris m) (hl : m.length ≤ 1000000) :
    Calls Try.prog 31 #[.func (.func 44) #[] #[.pointer (some ⟨w.heap.size, 0, none⟩)]] (w.alloc (.cells #[.map (some b)] 51)) fun e w' =>
      ∃ v, e = .returned v ∧ w'.ownsRow w.heap.size 3 1 v m.length (m.map fun p => .int .i64 (p.1 : Int)) ∧ (v = .slice none 0 0 ↔ m = []) ∧ Below w.heap.size w w' := by
  have hbl := h.lt
  have hsz : Maps.size (encM .i64 blkD m) = m.length := size_enc _ _ _
  have hseq : SeqGives Fence.wide 2 Try.prog 44 #[.pointer (some ⟨w.heap.size, 0, none⟩)] encZ (fun ss => ss.Perm (intKeys (encM .i64 blkD m))) (Maps.size (encM .i64 blkD m)) (w.alloc (.cells #[.map (some b)] 51)) :=
    AnyZI.keys_gives (ρ := keysI_ren) { keysI with } Fence.wide _ trivial rfl (by omega) w.heap.size b m.length _ _ (by simp) (by simp) (by
      obtain ⟨es, clock, hb, Ft, hs, hD⟩ := h
      exact ⟨es, clock, (Below.heap_alloc _ _ b hbl).trans hb, Ft, hs, hD⟩)
  have cS := AnyZI.sorted_in sortedI Fence.wide 5 trivial trivial trivial trivial rfl (by omega) (sortsI _) (enters_of Try.func43 (by kernel_rfl) rfl) 44 #[.pointer (some ⟨w.heap.size, 0, none⟩)] trivial (enters_of Try.func44 (by kernel_rfl) rfl) _ _ (by rw [hsz]; unfold maxLen; omega) (by rw [hsz]; omega) _ hseq
  change CallsIn _ _ Try.prog 31 _ _ _ at cS
  refine (callsIn_wide.1 cS).mono ?_
  rintro e w' ⟨v, ss, rfl, hS, hrow, hnil, hb⟩
  have e1 := ris_sorted hr hS
  have e2 : ss.length = m.length := by
    have := hS.length_eq
    rw [keys_enc, List.length_map] at this
    exact this
  rw [e1, e2] at hrow
  refine ⟨v, rfl, ?_, ?_, ((Below.refl _ w).alloc (Nat.le_refl _) _).trans (hb.mono (by simp))⟩
  · have := ownsRow_base_a hrow (show w.heap.size ≤ _ by simp)
    rw [List.map_map] at this
    exact this
  · rw [hnil]
    constructor
    · rintro rfl
      exact List.eq_nil_of_length_eq_zero (by simpa using e2.symm)
    · rintro rfl
      exact List.eq_nil_of_length_eq_zero (by simpa using e2)
theorem sortedB_nil (w : World) :
    Calls Try.prog 31 #[.func (.func 44) #[] #[.pointer (some ⟨w.heap.size, 0, none⟩)]] (w.alloc (.cells #[.map none] 51)) fun e w' =>
      e = .returned (.slice none 0 0) ∧ Below w.heap.size w w' := by
  have hseq : SeqGives Fence.wide 2 Try.prog 44 #[.pointer (some ⟨w.heap.size, 0, none⟩)] encZ (fun ss : List Int => ss = []) 0 (w.alloc (.cells #[.map none] 51)) :=
    AnyZI.keys_gives_nil (ρ := keysI_ren) { keysI with } Fence.wide _ trivial rfl w.heap.size _ (by simp) (by simp)
  have cS := AnyZI.sorted_in sortedI Fence.wide 5 trivial trivial trivial trivial rfl (by omega) (sortsI _) (enters_of Try.func43 (by kernel_rfl) rfl) 44 #[.pointer (some ⟨w.heap.size, 0, none⟩)] trivial (enters_of Try.func44 (by kernel_rfl) rfl) _ 0 (Nat.zero_le _) (by omega) _ hseq
  change CallsIn _ _ Try.prog 31 _ _ _ at cS
  refine (callsIn_wide.1 cS).mono ?_
  rintro e w' ⟨v, ss, rfl, hS, hrow, hnil, hb⟩
  exact ⟨by rw [hnil.2 hS], ((Below.refl _ w).alloc (Nat.le_refl _) _).trans (hb.mono (by simp))⟩
set_option maxRecDepth 100000 in
set_option maxHeartbeats 1600000 in
theorem dmapped_in (n0 : Nat) (w : World) (B Ba : Nat) (l : List (Nat × (Vl × Nat))) (h : DevAt n0 w B Ba l) (n : Nat) (hn : n < 18446744073709551616) (x : Vl × Nat) (hg : getA n l = some x) :
    Calls Try.prog 21 #[.pointer (some ⟨B, 0, none⟩), .int .u64 (n : Int)] w fun e w' => ∃ v, e = .returned v ∧ w'.ownsRow w.heap.size 3 1 v x.1.m.length (x.1.m.map fun p => .int .i64 (p.1 : Int)) ∧ (v = .slice none 0 0 ↔ x.1.m = []) ∧ Below w.heap.size w w' := by
  have CT := dthere_any w _ true h.dv
  have c0 := h.cell
  obtain ⟨hl, _⟩ := h.look hn hg
  have hfl := fldVol
  have hvok : x.1.Ok := h.ok.vol (n, x.1) (by unfold strip mapA; exact List.mem_map.2 ⟨_, getA_some hg, rfl⟩)
  have CK := keysB_any (some x.2) w
  have hlen : x.1.m.length ≤ 1000000 := by
    have := ris_len_le 0 hvok.ris (fun q hq => ⟨Nat.zero_le _, hvok.lt q hq⟩)
    have := hvok.size
    omega
  have CS := sortedB_any x.2 x.1.m w (h.vol _ (getA_some hg)) hvok.ris hlen
  clear h hvok hlen
  go_enter Try.func21, Try.ntmps21
  go_wp2_with fail
  refine CT.mono ?_
  rintro e w1 ⟨rfl, rfl⟩
  go_wp2_with fail
  refine CK.mono ?_
  rintro e w1 ⟨rfl, rfl⟩
  go_wp2_with fail
  refine CS.mono ?_
  rintro e w2 ⟨v, rfl, h1, h2, h3⟩
  go_wp2_with fail
  go_ret
  exact ⟨v, rfl, h1, h2, h3⟩
set_option maxRecDepth 100000 in
set_option maxHeartbeats 1600000 in
theorem dmapped_out (n0 : Nat) (w : World) (B Ba : Nat) (l : List (Nat × (Vl × Nat))) (h : DevAt n0 w B Ba l) (n : Nat) (hn : n < 18446744073709551616) (hg : getA n l = none) :
    Calls Try.prog 21 #[.pointer (some ⟨B, 0, none⟩), .int .u64 (n : Int)] w fun e w' => e = .returned (.slice none 0 0) ∧ Below w.heap.size w w' := by
  have CT := dthere_any w _ true h.dv
  have c0 := h.cell
  obtain ⟨hl, _⟩ := h.lookNo hn hg
  have hfl := fldVol
  have CK := keysB_any none w
  have CS := sortedB_nil w
  clear h
  go_enter Try.func21, Try.ntmps21
  go_wp2_with fail
  refine CT.mono ?_
  rintro e w1 ⟨rfl, rfl⟩
  go_wp2_with fail
  refine CK.mono ?_
  rintro e w1 ⟨rfl, rfl⟩
  go_wp2_with fail
  refine CS.mono ?_
  rintro e w2 ⟨rfl, h3⟩
  go_wp2_with fail
  go_ret
  exact ⟨rfl, h3⟩
end Go.Proofs.Ythkmihedkddnmaa
