/- strings.Builder's WriteByte, walked. -/
import Derived.Lib.Builder
import Derived.Test.YtgkelbdgdhkeoaaBytes
namespace Go.Proofs.Ytgkelbdgdhkeoaa
open Go.RowKit
set_option linter.unusedVariables false
set_option linter.unusedSimpArgs false

theorem sizeBld : ∃ j, Try.prog.info? 149 = some j ∧ j.size = 2 := Option.map_eq_some_iff.1 (by kernel_rfl : (Try.prog.info? 149).map (·.size) = some 2)
theorem liesBld : liesAt Try.prog Try.prog.depth 149 (2 / Try.prog.cellsOf 149) 0 149 1 = true := by kernel_rfl

set_option maxRecDepth 100000 in
set_option maxHeartbeats 1600000 in
theorem copyCheck_any (B b : Nat) (bs : List Value) (w : World) (h : Lib.IsBuilder 149 5 B b bs w) :
    Calls Try.prog 140 #[.pointer (some ⟨b, 0, none⟩)] w fun e w' => e = .returned (.tuple #[]) ∧ Lib.BuilderAt 149 5 B b (.pointer (some ⟨b, 0, none⟩)) bs w' ∧ Below B w w' := by
  obtain ⟨j, hj, hjs⟩ := sizeBld
  rcases h with h | h
  · have c0 := h.cell0
    have f0 := h.frozen0
    have H := Lib.hid (And.intro h.1 (And.intro (h.used (.pointer (some ⟨b, 0, none⟩))) h.shape))
    have HJ := Lib.hid (And.intro hj hjs)
    clear h hj hjs
    go_enter Try.func140, Try.ntmps140
    go_wp2
    rw [Lib.run_to_unsafe w ⟨b, 0, none⟩ Try.underlying147 Try.underlying209 HJ.out.1 (by rw [HJ.out.2]; decide) H.out.2.2 (Nat.zero_lt_succ 1)]
    simp only [Result.andThen]
    rw [Oper.upon_value]
    go_wp2
    rw [run_callFunc_extern Try.func160 (by kernel_rfl) (by kernel_rfl) (by kernel_rfl) (e := Extern.AbiNoEscape.same) (by kernel_rfl)]
    rw [Lib.run_noEscape]
    simp only [Result.andThen]
    rw [Oper.upon_value]
    go_wp2
    rw [Lib.run_from_unsafe w ⟨b, 0, none⟩ Try.underlying209 Try.underlying147 HJ.out.1 H.out.2.2 liesBld]
    simp only [Result.andThen]
    rw [Oper.upon_value]
    go_wp2
    go_end0
    exact ⟨rfl, H.out.2.1, (Below.refl B w).setCell (p := ⟨b, 0, none⟩) H.out.1 _⟩
  · have c0 := h.cell0
    have H := Lib.hid h
    have hneq := Lib.run_neq_ptr_same (P := Try.prog) w ⟨b, 0, none⟩ Try.underlying147 hj
    clear h hj hjs
    go_enter Try.func140, Try.ntmps140
    go_wp2
    go_end0
    exact ⟨rfl, H.out, Below.refl B _⟩

set_option maxRecDepth 100000 in
set_option maxHeartbeats 1600000 in
theorem writeByte_any (B b : Nat) (bs : List Value) (c : Int) (w : World) (h : Lib.IsBuilder 149 5 B b bs w) (hlen : bs.length + 1 ≤ 140737488355328) (hBw : B ≤ w.heap.size) :
    Calls Try.prog 100 #[.pointer (some ⟨b, 0, none⟩), .int .u8 c] w fun e w' => e = .returned .nilIface ∧ Lib.BuilderAt 149 5 B b (.pointer (some ⟨b, 0, none⟩)) (bs ++ [.int .u8 c]) w' ∧ Below B w w' := by
  have CC := copyCheck_any B b bs w h
  clear h
  go_enter Try.func100, Try.ntmps100
  go_wp2_with fail
  refine CC.mono ?_
  rintro e w1 ⟨rfl, h1, hb1⟩
  obtain ⟨hB, v, hbk, hown, hne⟩ := h1
  have c0 : w1.cell? ⟨b, 0, none⟩ = some (.pointer (some ⟨b, 0, none⟩)) := by rw [Lib.cell_of_heap hbk]; rfl
  have c1 : w1.cell? ⟨b, 1, none⟩ = some v := by rw [Lib.cell_of_heap hbk]; rfl
  have HBK := Lib.hid hbk
  have HB1 := Lib.hid hb1
  have HNE := Lib.hid hne
  have hlt : b < w1.heap.size := (Array.getElem?_eq_some_iff.1 hbk).1
  have hsz1 : B ≤ w1.heap.size := Nat.le_trans hBw hb1.size
  clear hbk hb1 hne CC
  go_wp2_with (at_builtin; go_must (refine wpList_app rfl _ _ 24 rfl B 5 _ 1 1 Try.underlying24 infoByte rfl (by decide) (by decide) v bs.length bs rfl hown rfl rfl (by simp [Value.oneCell']) (by omega) hsz1 ?_); intro v5 w5 ho5 hb5 hg5 hs5 hn5; have hb2 : w5.heap[b]? = some (.cells #[.pointer (some ⟨b, 0, none⟩), v] 149 (0, 0)) := (hg5.block b hlt (fun e => HNE.out e.symm)).trans HBK.out; have d1 : w5.cell? ⟨b, 1, none⟩ = some v := (by rw [Lib.cell_of_heap hb2]; rfl); have f1 : w5.frozen? ⟨b, 1, none⟩ = false := Lib.frozen_of_heap hb2 1; have HB2 := Lib.hid hb2; have HG := Lib.hid (And.intro ho5 hb5); obtain ⟨g, cap, rfl, _, _⟩ := ownsRow_nonil ho5 hn5; clear hb2 ho5 hb5 hg5 hs5 hn5)
  go_ret
  exact ⟨rfl, Lib.BuilderAt.put hB HB2.out (bs' := bs ++ [.int .u8 c]) (by have := HG.out.1; simpa using this) (by decide), (HB1.out.trans HG.out.2).setCell (p := ⟨b, 1, none⟩) hB _⟩
end Go.Proofs.Ytgkelbdgdhkeoaa
