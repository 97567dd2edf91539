/- The methods of count.Area, walked: Commit, Abort. -/
import Derived.Deep.RegionHeld3
import Derived.StillTailTactics
import Derived.Test.YtcdobdjemlaaaaaGreatCount4
namespace Go.Proofs.YtcdobdjemlaaaaaGreat
open Go.RowKit
set_option linter.unusedVariables false

theorem clone_fits {w w1 : World} {p g1 g2 n1 c1 n2 c2 n : Nat} {A : M} {xs : List Nat} {v : Value} (h : IAt w p g1 g2 n1 c1 n2 c2 A) (ho : w1.ownsRow w.heap.size 60 1 v n (kV .u16 xs)) (hb : Below w.heap.size w w1) (hn : 0 < n) :
    IAt w1 p g1 g2 n1 c1 n2 c2 A ∧ ∃ g cap, v = .slice (some ⟨g, 0, none⟩) n cap ∧ p ≠ g ∧ g1 ≠ g ∧ g2 ≠ g ∧ w.heap.size ≤ g ∧ Row 60 .u16 w1 g n cap xs := by
  refine ⟨h.below hb, ?_⟩
  have hv : v ≠ .slice none 0 0 := by
    rintro rfl
    rcases ho.2 with ⟨_, h0⟩ | ⟨g, cap, cur, hv, _⟩
    · omega
    · cases hv
  obtain ⟨g, cap, rfl, hge, hr⟩ := Row.of_own ho hv
  have := h.lt
  have := h.r1.lt
  have := h.r2.lt
  exact ⟨g, cap, rfl, by omega, by omega, by omega, hge, hr⟩

theorem commit_left {w w1 : World} {p g1 g2 c1 c2 g cap : Nat} {A : M} (h : IAt w1 p g1 g2 A.now.length c1 A.was.length c2 A) (hb : Below w.heap.size w w1) (hr : Row 60 .u16 w1 g A.now.length cap A.now) (hp : p ≠ g) (h1 : g1 ≠ g) (hge : w.heap.size ≤ g) :
    ∃ F', IA ((w1.setCell ⟨p, 1, none⟩ (.slice (some ⟨g, 0, none⟩) A.now.length cap)).setCell ⟨p, 3, none⟩ (.int .i64 (A.at_ : Int))) p { A with was := A.now, kept := A.at_ } F' ∧
      Left [p, g1, g2] w ((w1.setCell ⟨p, 1, none⟩ (.slice (some ⟨g, 0, none⟩) A.now.length cap)).setCell ⟨p, 3, none⟩ (.int .i64 (A.at_ : Int))) F' := by
  refine ⟨[p, g1, g], ⟨g1, g, c1, cap, rfl, (h.putWas hr h1 hp).setKept A.at_⟩, ((Mods.of_below hb).setCell (by simp) _).setCell (by simp) _, fun k hk => ?_⟩
  simp only [List.mem_cons, List.not_mem_nil, or_false] at hk ⊢
  rcases hk with rfl | rfl | rfl
  · exact .inl (.inl rfl)
  · exact .inl (.inr (.inl rfl))
  · exact .inr hge
theorem abort_left {w w1 : World} {p g1 g2 c1 c2 g cap : Nat} {A : M} (h : IAt w1 p g1 g2 A.now.length c1 A.was.length c2 A) (hb : Below w.heap.size w w1) (hr : Row 60 .u16 w1 g A.was.length cap A.was) (hp : p ≠ g) (h2 : g2 ≠ g) (hge : w.heap.size ≤ g) :
    ∃ F', IA ((w1.setCell ⟨p, 0, none⟩ (.slice (some ⟨g, 0, none⟩) A.was.length cap)).setCell ⟨p, 2, none⟩ (.int .i64 (A.kept : Int))) p { A with now := A.was, at_ := A.kept } F' ∧
      Left [p, g1, g2] w ((w1.setCell ⟨p, 0, none⟩ (.slice (some ⟨g, 0, none⟩) A.was.length cap)).setCell ⟨p, 2, none⟩ (.int .i64 (A.kept : Int))) F' := by
  refine ⟨[p, g, g2], ⟨g, g2, cap, c2, rfl, (h.putNow hr (Ne.symm h2) hp).setAt A.kept⟩, ((Mods.of_below hb).setCell (by simp) _).setCell (by simp) _, fun k hk => ?_⟩
  simp only [List.mem_cons, List.not_mem_nil, or_false] at hk ⊢
  rcases hk with rfl | rfl | rfl
  · exact .inl (.inl rfl)
  · exact .inr hge
  · exact .inl (.inr (.inr rfl))

set_option maxRecDepth 100000 in
set_option maxHeartbeats 1600000 in
theorem commit_any {w : World} {p : Nat} {A : M} {F : List Nat} (h : IA w p A F) (ok : A.Ok) :
    Calls Tryz.prog 70 #[pt p] w fun e w' => e = .returned (.tuple #[]) ∧ ∃ F', IA w' p { A with was := A.now, kept := A.at_ } F' ∧ Left F w w' F' := by
  obtain ⟨g1, g2, c1, c2, rfl, h⟩ := h
  have L := len_any h
  have hpos := ok.pos
  have hm := ok.max
  have hl := ok.len
  have k0 := h.k0
  have k2 := h.k2
  have hlt := h.lt
  have HH := Lib.hid h
  unfold pt at L ⊢
  have hn0 : 0 < (A.now.length : Int) := by omega
  clear h
  go_enter Tryz.func70, Tryz.ntmps70
  go_wp2_with fail
  refine L.mono ?_
  rintro e w' ⟨rfl, rfl⟩
  clear L
  go_wp2_with fail
  have k0' : w'.drew.cell? ⟨p, 0, none⟩ = _ := k0
  have k2' : w'.drew.cell? ⟨p, 2, none⟩ = _ := k2
  go_region_with (first | (go_at_call 115; refine (clone16 _ _ A.now _ (HH.out.below (Below.refl _ _).drew).r1.rd (by omega)).mono ?_; rintro e w1 ⟨v1, rfl, ho, hb⟩; obtain ⟨hA1, g, cap, rfl, hgp, hg1, hg2, hge, hr⟩ := clone_fits (HH.out.below (Below.refl _ _).drew) ho hb (by omega); have q2 := hA1.k2; have q1 := hA1.k1; have q3 := hA1.k3; have f1 := hA1.fr 1; have f3 := hA1.fr 3; have q3' := (hA1.putWas hr hg1 hgp).k3; have f3' := (hA1.putWas hr hg1 hgp).fr 3; have HA := Lib.hid hA1; have HR := Lib.hid hr; clear hA1 hr) | fail)
  all_goals
    have HP := commit_left HA.out (bthen (Below.refl _ w').drew hb) HR.out hgp hg1 (by simpa using hge)
    go_wp2_with fail
    go_end0
    exact ⟨rfl, HP⟩

set_option maxRecDepth 100000 in
set_option maxHeartbeats 1600000 in
theorem abort_any {w : World} {p : Nat} {A : M} {F : List Nat} (h : IA w p A F) (ok : A.Ok) :
    Calls Tryz.prog 63 #[pt p] w fun e w' => e = .returned (.tuple #[]) ∧ ∃ F', IA w' p { A with now := A.was, at_ := A.kept } F' ∧ Left F w w' F' := by
  obtain ⟨g1, g2, c1, c2, rfl, h⟩ := h
  have L := len_any h
  have hpos := ok.pos
  have hm := ok.max
  have HL := Lib.hid ok.len
  have k1 := h.k1
  have k3 := h.k3
  have hlt := h.lt
  have HH := Lib.hid h
  unfold pt at L ⊢
  have hn0 : 0 < (A.now.length : Int) := by omega
  clear h
  go_enter Tryz.func63, Tryz.ntmps63
  go_wp2_with fail
  refine L.mono ?_
  rintro e w' ⟨rfl, rfl⟩
  clear L
  go_wp2_with fail
  have k1' : w'.drew.cell? ⟨p, 1, none⟩ = _ := k1
  have k3' : w'.drew.cell? ⟨p, 3, none⟩ = _ := k3
  go_region_with (first | (go_at_call 115; refine (clone16 _ _ A.was _ (HH.out.below (Below.refl _ _).drew).r2.rd (by have := HL.out; omega)).mono ?_; rintro e w1 ⟨v1, rfl, ho, hb⟩; obtain ⟨hA1, g, cap, rfl, hgp, hg1, hg2, hge, hr⟩ := clone_fits (HH.out.below (Below.refl _ _).drew) ho hb (by have := HL.out; omega); have q2 := hA1.k2; have q0 := hA1.k0; have q3 := hA1.k3; have f0 := hA1.fr 0; have f2 := hA1.fr 2; have q2' := (hA1.putNow hr (Ne.symm hg2) hgp).k2; have f2' := (hA1.putNow hr (Ne.symm hg2) hgp).fr 2; have HA := Lib.hid hA1; have HR := Lib.hid hr; clear hA1 hr) | fail)
  all_goals
    have HP := abort_left HA.out (bthen (Below.refl _ w').drew hb) HR.out hgp hg2 (by simpa using hge)
    go_wp2_with fail
    go_end0
    exact ⟨rfl, HP⟩
end Go.Proofs.YtcdobdjemlaaaaaGreat
