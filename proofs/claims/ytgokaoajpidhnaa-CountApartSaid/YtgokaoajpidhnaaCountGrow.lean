/- count.Area.Grow, walked (go_region_law: 285 s, 8.2 GB). -/
import Derived.Deep.RegionHeldLaw
import Derived.Test.YtgokaoajpidhnaaCount7
namespace Go.Proofs.Ytgokaoajpidhnaa
open Go.RowKit
set_option linter.unusedVariables false
theorem World.k3far {w : World} {p : Nat} {u : Value} (h : w.cell? ⟨p, 3, none⟩ = some u) (v : Value) : (w.setCell ⟨p, 1, none⟩ v).cell? ⟨p, 3, none⟩ = some u :=
  (World.cell?_setCell_other w ⟨p, 1, none⟩ ⟨p, 3, none⟩ v (by simp)).trans h
theorem World.f3far {w : World} {p : Nat} (h : w.frozen? ⟨p, 3, none⟩ = false) (v : Value) : (w.setCell ⟨p, 1, none⟩ v).frozen? ⟨p, 3, none⟩ = false := by
  simpa using h
theorem grow_ne1 {w0 w1 : World} {p g1 g2 n1 c1 n2 c2 a : Nat} {A : M} (h0 : IAt w0 p g1 g2 n1 c1 n2 c2 A) (hb : Below w0.heap.size w0 w1) (ha : a = g1 ∨ w0.heap.size ≤ a) : a ≠ g2 := by
  have := h0.ne
  have := h0.r2.lt
  omega
theorem grow_ne2 {w0 : World} {p g1 g2 n1 c1 n2 c2 a : Nat} {A : M} (h0 : IAt w0 p g1 g2 n1 c1 n2 c2 A) (ha : a = g1 ∨ w0.heap.size ≤ a) : p ≠ a := by
  have := h0.np1
  have := h0.lt
  omega

set_option maxRecDepth 100000 in
set_option maxHeartbeats 64000000 in
theorem grow_in {w : World} {p : Nat} {A : M} {F : List Nat} (h : IA w p A F) (ok : A.Ok) (m : Nat) (hk : A.now.length + m ≤ 1000) :
    Calls Try.prog 51 #[pt p, .int .i64 ((A.now.length + m : Nat) : Int)] w fun e w' => e = .returned (.int .i64 0) ∧ ∃ F', IA w' p (growM A m) F' ∧ Left F w w' F' := by
  obtain ⟨g1, g2, c1, c2, rfl, h⟩ := h
  have L := len_any h
  have hpos := ok.pos
  have HL := Lib.hid ok.len
  have k0 := h.k0
  have HH := Lib.hid h
  have hn0 : ((A.now.length : Int) == 0) = false := beq_eq_false_iff_ne.2 (by omega)
  have hcl1 : A.now.length ≤ c1 ∧ c1 ≤ maxLen := by obtain ⟨_, _, _, a, b, _⟩ := h.r1; exact ⟨a, b⟩
  have hcl2 : A.now.length ≤ c2 ∧ c2 ≤ maxLen := by obtain ⟨_, _, _, a, b, _⟩ := h.r2; have := ok.len; exact ⟨by omega, b⟩
  have HC := Lib.hid (And.intro hcl1 hcl2)
  unfold pt at L ⊢
  clear h hcl1 hcl2
  go_enter Try.func51, Try.ntmps51
  go_wp2_with fail
  refine L.mono ?_
  rintro e w' ⟨rfl, rfl⟩
  clear L
  go_wp2_with (at_make; go_must (refine wpList_mk rfl _ _ 47 rfl w'.heap.size 65 (.int .u16 0) 1 2 Try.underlying47 infoU16 (by decide) _ _ _ _ m rfl rfl (by go_num) (by go_num) (by omega) (Nat.le_refl _) ?_); intro w1 ho1 hb1)
  have hbd : Below w'.heap.size w' w1.drew := hb1.drew
  have hA1 := HH.out.below hbd
  have hcm : ∀ j, j < m → w1.drew.cell? ⟨w'.heap.size, j, none⟩ = some (.int .u16 0) := by
    intro j hj
    have := ho1.cells (g := w'.heap.size) rfl j (.int .u16 0) (by simp [Value.cells, toList_madeCells_one, hj])
    rw [Addr.add_lit, Nat.zero_add] at this
    exact this
  have hml : ∀ j, j < m → w'.heap.size < w1.heap.size := fun j hj => by
    have := ho1.lt w'.heap.size rfl
    exact this.2
  have j0 := hA1.k0
  have j1 := hA1.k1
  have j2 := hA1.k2
  have HA1 := Lib.hid hA1
  have HM := Lib.hid hcm
  have HML := Lib.hid hml
  clear hA1 hcm hml ho1 hb1
  first
    | (go_region_law (first
        | (refine step_clip rfl _ rfl (g := g1) (cap := c1) rfl HC.out.1.1 HC.out.1.2 ?_)
        | (refine step_clip rfl _ rfl (g := g2) (cap := c2) rfl (by have := HC.out.2.1; have := HL.out; omega) HC.out.2.2 ?_)
        | (refine step_clipped rfl _ _ rfl (row := HA1.out.r1) rfl rfl HM.out hk ?_; intro a ca w2 r1 hb2 ha; have hA2 := HA1.out.below hb2; have p1 := hA2.k1; have p2 := hA2.k2; have hB2 := hb2; have HA2 := Lib.hid hA2; clear hA2)
        | (refine step_clipped rfl _ _ rfl (row := HA2.out.r2) rfl rfl (fun j hj => (hB2.cell (p := ⟨w'.heap.size, j, none⟩) (HML.out j hj)).trans (HM.out j hj)) (by have := HL.out; omega) ?_; intro b cb w3 r2 hb3 hb; have hA3 := HA2.out.below hb3; have q0 := hA3.k0; have q1 := hA3.k1; have q2 := hA3.k2; have q3 := hA3.k3; have f0 := hA3.fr 0; have f1 := hA3.fr 1; have B1 := hA3.putNow (r1.same (hb3.block a r1.lt)) (grow_ne1 HA1.out hb2 ha) (grow_ne2 HA1.out ha); have q1' := B1.k1; have f1' := B1.fr 1; have f3a := B1.fr 3; have q3a := B1.k3; have HB1 := Lib.hid B1; have q3' := World.k3far q3a (.slice (some ⟨b, 0, none⟩) (A.was.length + m) cb); have f3' := World.f3far f3a (.slice (some ⟨b, 0, none⟩) (A.was.length + m) cb); clear B1 hA3)))
    | fail
  all_goals
    have HP := grow_left HA1.out hbd hB2 hb3 r1 ha r2 hb
    go_wp2_with fail
    go_ret
    exact ⟨rfl, HP⟩
end Go.Proofs.Ytgokaoajpidhnaa
