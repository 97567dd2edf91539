/- The methods of count.Area, walked: New, Counts, Copy. -/
import Derived.Deep.RegionHeld3
import Derived.Test.YtcdobdjemlaaaaaGreatCount5
namespace Go.Proofs.YtcdobdjemlaaaaaGreat
open Go.RowKit
set_option linter.unusedVariables false

set_option maxRecDepth 100000 in
set_option maxHeartbeats 1600000 in
theorem counts_any {w : World} {p : Nat} {A : M} {F : List Nat} (h : IA w p A F) (ok : A.Ok) :
    Calls Tryz.prog 72 #[pt p] w fun e w' => ∃ v', e = .returned v' ∧ w'.ownsRow w.heap.size 60 1 v' A.now.length (kV .u16 A.now) ∧ Below w.heap.size w w' := by
  obtain ⟨g1, g2, c1, c2, rfl, h⟩ := h
  have hm := ok.max
  have k0 := h.k0
  have hc := clone16 _ _ A.now _ h.r1.rd (by omega)
  unfold pt
  clear h
  go_enter Tryz.func72, Tryz.ntmps72
  go_wp2_with fail
  refine hc.mono ?_
  rintro e w' ⟨v, rfl, ho, hb⟩
  go_wp2_with fail
  go_ret
  exact ⟨_, rfl, ho, hb⟩

set_option maxRecDepth 100000 in
set_option maxHeartbeats 1600000 in
theorem new_out (v : Value) (n : Nat) (xs : List Nat) {w : World} (h : Rd w 1 v n (kV .u16 xs)) (hn : n < 1 ∨ 1000 < n) :
    Calls Tryz.prog 124 #[v] w fun e w' => e = .returned (.tuple #[.pointer none, .int .i64 2]) ∧ w' = w := by
  obtain ⟨ao, cap, rfl, hl, hm, hcap, hc⟩ := h
  clear hc
  rcases hn with hn | hn
  · go_enter Tryz.func124, Tryz.ntmps124
    go_wp2
    go_ret2
    exact ⟨rfl, rfl⟩
  · go_enter Tryz.func124, Tryz.ntmps124
    go_wp2
    go_ret2
    exact ⟨rfl, rfl⟩

/-- A clone that is not empty is a row of its own. -/
theorem own_row {W : World} {b n : Nat} {v : Value} {l : List Nat} (ho : W.ownsRow b 60 1 v n (kV .u16 l)) (hn : 0 < n) : ∃ g cap, v = .slice (some ⟨g, 0, none⟩) n cap ∧ b ≤ g ∧ Row 60 .u16 W g n cap l := by
  refine Row.of_own ho ?_
  rintro rfl
  rcases ho.2 with ⟨_, h0⟩ | ⟨g, cap, cur, hv, _⟩
  · omega
  · cases hv
/-- A new area. -/
theorem box_area {w w1 w2 : World} {a b c1 c2 : Nat} {A : M} (r1 : Row 60 .u16 w1 a A.now.length c1 A.now) (hb1 : Below w.heap.size w w1) (ha : w.heap.size ≤ a)
    (r2 : Row 60 .u16 w2 b A.was.length c2 A.was) (hb2 : Below w1.heap.size w1 w2) (hb : w1.heap.size ≤ b) :
    ∃ F', IA (w2.alloc (.cells #[.slice (some ⟨a, 0, none⟩) A.now.length c1, .slice (some ⟨b, 0, none⟩) A.was.length c2, .int .i64 (A.at_ : Int), .int .i64 (A.kept : Int)] 175)) w2.heap.size A F' ∧ ∀ k ∈ F', w.heap.size ≤ k := by
  have q1 := r1.lt
  have q2 := r2.lt
  have s1 := hb1.size
  have s2 := hb2.size
  refine ⟨[w2.heap.size, a, b], ⟨a, b, c1, c2, rfl, heap_alloc_new _ _, ?_, ?_, by omega, by omega, by omega⟩, ?_⟩
  · exact r1.same (by rw [Below.heap_alloc _ _ a (by omega), hb2.block a q1])
  · exact r2.same (Below.heap_alloc _ _ b q2)
  · intro k hk
    simp only [List.mem_cons, List.not_mem_nil, or_false] at hk
    rcases hk with rfl | rfl | rfl <;> omega

set_option maxRecDepth 100000 in
set_option maxHeartbeats 1600000 in
theorem new_in (v : Value) (n : Nat) (xs : List Nat) {w : World} (h : Rd w 1 v n (kV .u16 xs)) (hn : 1 ≤ n ∧ n ≤ 1000) :
    Calls Tryz.prog 124 #[v] w fun e w' => ∃ q F', e = .returned (.tuple #[pt q, .int .i64 0]) ∧ IA w' q ⟨xs, xs, 0, 0⟩ F' ∧ Below w.heap.size w w' ∧ ∀ k ∈ F', w.heap.size ≤ k := by
  have hrd := h
  obtain ⟨ao, cap, rfl, hl, hm, hcap, hc⟩ := h
  have hxl : xs.length = n := by simpa [kV] using hl
  have HXL := Lib.hid hxl
  obtain ⟨hn1, hn2⟩ := hn
  clear hc hl hxl
  go_enter Tryz.func124, Tryz.ntmps124
  go_wp2_with fail
  refine (clone16 _ _ xs _ hrd (by omega)).mono ?_
  rintro e w1 ⟨v1, rfl, ho1, hb1⟩
  obtain ⟨a, c1, rfl, hga, r1⟩ := own_row ho1 (by omega)
  go_wp2_with fail
  refine (clone16 _ _ xs _ (hrd.below hb1) (by omega)).mono ?_
  rintro e w2 ⟨v2, rfl, ho2, hb2⟩
  have hx1 : 0 < xs.length := by rw [HXL.out]; omega
  obtain ⟨b, c2, rfl, hgb, r2⟩ := own_row ho2 (by omega)
  rw [← HXL.out] at r1 r2
  obtain ⟨F', hF, hge⟩ := box_area (A := ⟨xs, xs, 0, 0⟩) r1 hb1 hga r2 hb2 hgb
  rw [HXL.out] at hF
  have HF := Lib.hid hF
  clear hF
  go_wp2_with fail
  go_ret2
  exact ⟨_, F', rfl, HF.out, balloc (bthen hb1 hb2) _, hge⟩

set_option maxRecDepth 100000 in
set_option maxHeartbeats 3200000 in
theorem copy_any {w : World} {p : Nat} {A : M} {F : List Nat} (h : IA w p A F) (ok : A.Ok) :
    Calls Tryz.prog 75 #[pt p] w fun e w' => ∃ q F', e = .returned (pt q) ∧ IA w' q A F' ∧ Below w.heap.size w w' ∧ ∀ k ∈ F', w.heap.size ≤ k := by
  obtain ⟨g1, g2, c1, c2, rfl, h⟩ := h
  have L := len_any h
  have hpos := ok.pos
  have hm := ok.max
  have HL := Lib.hid ok.len
  have k0 := h.k0
  have k1 := h.k1
  have k2 := h.k2
  have k3 := h.k3
  have HH := Lib.hid h
  unfold pt at L ⊢
  have hn0 : ((A.now.length : Int) == 0) = false := beq_eq_false_iff_ne.2 (by omega)
  clear h
  go_enter Tryz.func75, Tryz.ntmps75
  go_wp2_with fail
  refine L.mono ?_
  rintro e w' ⟨rfl, rfl⟩
  clear L
  go_wp2_with fail
  have k0' : w'.drew.cell? ⟨p, 0, none⟩ = _ := k0
  have k1' : w'.drew.cell? ⟨p, 1, none⟩ = _ := k1
  have k2' : w'.drew.cell? ⟨p, 2, none⟩ = _ := k2
  have k3' : w'.drew.cell? ⟨p, 3, none⟩ = _ := k3
  have hA0 := HH.out.below (Below.refl _ _).drew
  have HA0 := Lib.hid hA0
  have hB0 : Below w'.heap.size w' w'.drew := (Below.refl _ _).drew
  clear hA0
  have hpost0 := hB0
  go_region_held3 (fun W => W.cell? ⟨p, 0, none⟩ = some (.slice (some ⟨g1, 0, none⟩) A.now.length c1) ∧ W.cell? ⟨p, 1, none⟩ = some (.slice (some ⟨g2, 0, none⟩) A.was.length c2) ∧ W.cell? ⟨p, 2, none⟩ = some (.int .i64 (A.at_ : Int)) ∧ W.cell? ⟨p, 3, none⟩ = some (.int .i64 (A.kept : Int)) ∧ Below w'.heap.size w' W)
    (first | (go_keep; done) | (go_split_ands; exact ⟨cell_later hbx (by assumption), cell_later hbx (by assumption), cell_later hbx (by assumption), cell_later hbx (by assumption), bthen (by assumption) hbx⟩) | (go_split_ands; exact ⟨cell_later (balloc (Below.refl _ _) _) (by assumption), cell_later (balloc (Below.refl _ _) _) (by assumption), cell_later (balloc (Below.refl _ _) _) (by assumption), cell_later (balloc (Below.refl _ _) _) (by assumption), balloc (by assumption) _⟩) | (go_split_ands; exact balloc (by assumption) _) | (go_split_ands; exact cell_later (balloc (Below.refl _ _) _) (by assumption)))
    (first
      | (go_at_call 115; go_split_ands; refine (clone16 _ _ A.now _ (HH.out.below (by assumption)).r1.rd (by omega)).mono ?_; rintro e w1 ⟨v1, rfl, ho1, hbx⟩; obtain ⟨a, ca, rfl, hga, r1⟩ := own_row ho1 hpos; have hb1 := hbx)
      | (go_at_call 115; go_split_ands; refine (clone16 _ _ A.was _ (HH.out.below (by assumption)).r2.rd (by have := HL.out; omega)).mono ?_; rintro e w2 ⟨v2, rfl, ho2, hbx⟩; obtain ⟨b, cb, rfl, hgb, r2⟩ := own_row ho2 (by have := HL.out; omega); have hb2 := hbx))
  obtain ⟨F', hF, hge⟩ := box_area r1 hb1 hga r2 hb2 hgb
  have HF := Lib.hid hF
  clear hF
  go_wp2_with fail
  go_ret
  exact ⟨_, F', rfl, HF.out, balloc (bthen (bthen hB0 hb1) hb2) _, fun k hk => hge k hk⟩
end Go.Proofs.YtcdobdjemlaaaaaGreat
