/- part.Over at whatever numbers: its iterator goes over the parts; over none, where the row has no parts. -/
import Derived.Test.YthkmihedkddnmaaPartIt
namespace Go.Proofs.Ythkmihedkddnmaa
open Go.RowKit Go.Shelf
set_option linter.unusedVariables false
attribute [local go_sem] Oper.semAt_some

/-- Has the row parts? -/
def pOk (a c : Int) : Bool := decide (0 ≤ a) && decide (1 ≤ c) && decide (c ≤ 1073741824) && decide (a ≤ 1073741824 - c)
def pItemsI (a c : Int) : List (Nat × PSpan) := if pOk a c = true then pItems a.toNat c.toNat else []
def pSpansI (a c : Int) : List PSpan := if pOk a c = true then pSpans a.toNat c.toNat else []

theorem over_any (a c : Int) (w : World) : Calls Try.prog 40 #[.int .i64 a, .int .i64 c] w fun e w' =>
    e = .returned (.func (.func 50) #[] #[.pointer (some ⟨w.heap.size, 0, none⟩), .pointer (some ⟨w.heap.size + 1, 0, none⟩)]) ∧ (w.alloc (.cells #[.int .i64 a] 3)).alloc (.cells #[.int .i64 c] 3) = w' := by
  go_enter Try.func40, Try.ntmps40
  go_wp2
  go_ret
  exact ⟨rfl, rfl⟩

set_option maxRecDepth 100000 in
set_option maxHeartbeats 2000000 in
theorem over_none (F : Fence) (n : Nat) (h90 : F.fn 50) (hro : F.round = none) (hn : 1 ≤ n) (Ba : Nat) (a c : Int) (hc0 : -9223372036854775808 ≤ c) (ho : pOk a c = false) (w : World) (hBn : Ba + 1 < w.heap.size)
    (Fp : World → Nat → Prop)
    (hca : w.cell? ⟨Ba, 0, none⟩ = some (.int .i64 a)) (hcc : w.cell? ⟨Ba + 1, 0, none⟩ = some (.int .i64 c)) :
    SeqStopsK F n Try.prog 50 #[.pointer (some ⟨Ba, 0, none⟩), .pointer (some ⟨Ba + 1, 0, none⟩)] itemVs (KpF Fp) (fun ys => ys = []) (fun pre => pre <+: []) 0 w := by
  intro l J Jx W hW hJ hJx hY h0
  have hca' : W.cell? ⟨Ba, 0, none⟩ = some (.int .i64 a) := (hW.cell (p := ⟨Ba, 0, none⟩) (by simp; omega)).trans hca
  have hcc' : W.cell? ⟨Ba + 1, 0, none⟩ = some (.int .i64 c) := (hW.cell (p := ⟨Ba + 1, 0, none⟩) (by simp; omega)).trans hcc
  clear hca hcc hY
  have HJ := Lib.hid h0
  clear h0
  simp only [pOk, Bool.and_eq_false_iff, decide_eq_false_iff_not] at ho
  refine callsIn_of_wp Try.func50 rfl h90 ?_ hro
  simp only [Try.ntmps50, List.size_toArray, List.length_cons, List.length_nil, Nat.reduceAdd, Nat.reduceSub, Array.replicate_succ, Array.replicate_zero, List.push_toArray, List.append_toArray, List.nil_append, List.cons_append]
  by_cases h1 : a < 0
  · clear ho
    gi_wp2
    refine bodyPost_ret (results_none rfl _ _ _) rfl ?_
    exact ⟨⟨_, rfl⟩, .inl (by simpa using HJ.out)⟩
  · by_cases h2 : c < 1
    · clear ho
      gi_wp2
      refine bodyPost_ret (results_none rfl _ _ _) rfl ?_
      exact ⟨⟨_, rfl⟩, .inl (by simpa using HJ.out)⟩
    · by_cases h3 : 1073741824 < c
      · clear ho
        gi_wp2
        refine bodyPost_ret (results_none rfl _ _ _) rfl ?_
        exact ⟨⟨_, rfl⟩, .inl (by simpa using HJ.out)⟩
      · have h4 : 1073741824 - c < a := by omega
        clear ho
        gi_wp2
        refine bodyPost_ret (results_none rfl _ _ _) rfl ?_
        exact ⟨⟨_, rfl⟩, .inl (by simpa using HJ.out)⟩

theorem overI_stops (F : Fence) (n : Nat) (h90 : F.fn 50) (hro : F.round = none) (hn : 1 ≤ n) (Ba : Nat) (a c : Int) (hc0 : -9223372036854775808 ≤ c) (w : World) (hBn : Ba + 1 < w.heap.size)
    (Fp : World → Nat → Prop) (hF1 : ∀ (W : World) (o : Obj) k, w.heap.size ≤ W.heap.size → Fp (W.alloc o) k → Fp W k)
    (hF0 : ∀ W, Below w.heap.size w W → (∀ k, Fp W k → k < W.heap.size) ∧ ¬ Fp W Ba ∧ ¬ Fp W (Ba + 1))
    (hca : w.cell? ⟨Ba, 0, none⟩ = some (.int .i64 a)) (hcc : w.cell? ⟨Ba + 1, 0, none⟩ = some (.int .i64 c)) :
    SeqStopsK F n Try.prog 50 #[.pointer (some ⟨Ba, 0, none⟩), .pointer (some ⟨Ba + 1, 0, none⟩)] itemVs (KpF Fp) (fun ys => ys = pItemsI a c) (fun pre => pre <+: pItemsI a c) (pItemsI a c).length w := by
  by_cases ho : pOk a c = true
  · have hb := ho
    simp only [pOk, Bool.and_eq_true, decide_eq_true_eq] at hb
    obtain ⟨a', rfl⟩ := Int.eq_ofNat_of_zero_le hb.1.1.1
    obtain ⟨c', rfl⟩ := Int.eq_ofNat_of_zero_le (show 0 ≤ c by omega)
    have := over_stops F n h90 hro hn Ba a' c' (by omega) (by omega) w hBn Fp hF1 hF0 hca hcc
    simp only [pItemsI, ho, if_true, Int.toNat_natCast, pItems_len]
    exact this
  · have ho' : pOk a c = false := by simpa using ho
    have := over_none F n h90 hro hn Ba a c hc0 ho' w hBn Fp hca hcc
    simp only [pItemsI, ho', Bool.false_eq_true, if_false, List.length_nil]
    exact this
end Go.Proofs.Ythkmihedkddnmaa
