import Derived.Test.YtgmahhdnjikdjaaGreatVG13
import Derived.Deep.RegionHeld3
import Derived.StillTailTactics
set_option linter.unusedVariables false
set_option linter.unusedSimpArgs false
/- The methods of count.Area, walked: of one block. -/
namespace Go.Proofs.YtgmahhdnjikdjaaGreat
open Go.RowKit
set_option linter.unusedVariables false
theorem ctE_in {n1 i : Nat} (h : i < n1) : ctE n1 (i : Int) = 0 := by simp [ctE]; omega
set_option maxRecDepth 100000 in
set_option maxHeartbeats 800000 in
theorem count_in {w : World} {p : Nat} {A : M} {F : List Nat} (h : IA w p A F) (ok : A.Ok) (i : Nat) (hi : i < A.now.length) :
  Calls Tryz.prog 83 #[pt p, .int .i64 (i : Int)] w fun e w' => e = .returned (.int .u16 (ctN A.now i : Int)) ∧ w' = w := by
 obtain ⟨g1, g2, c1, c2, rfl, h⟩ := h
 have k0 := h.k0
 have q1 := h.r1.cell (ctN_get hi)
 have L := has_any h ok.pos (i : Int)
 rw [ctE_in hi] at L
 have hm := ok.max
 unfold pt at L ⊢
 clear h
 go_enter Tryz.func83, Tryz.ntmps83
 go_wp2_with fail
 refine L.mono ?_
 rintro e w' ⟨rfl, rfl⟩
 go_wp2_with fail
 go_ret
 exact ⟨rfl, rfl⟩
set_option maxRecDepth 100000 in
set_option maxHeartbeats 800000 in
theorem set_in {w : World} {p : Nat} {A : M} {F : List Nat} (h : IA w p A F) (ok : A.Ok) (i : Nat) (hi : i < A.now.length) :
  Calls Tryz.prog 94 #[pt p, .int .i64 (i : Int)] w fun e w' => e = .returned (.int .i64 0) ∧ IA w' p { A with at_ := i, kept := i } F ∧ Left F w w' F := by
 obtain ⟨g1, g2, c1, c2, rfl, h⟩ := h
 have L := has_any h ok.pos (i : Int)
 rw [ctE_in hi] at L
 have hp := h.setAt i
 have hp2 := hp.setKept i
 have k2 := h.k2
 have k3 := hp.k3
 have f2 := h.fr 2
 have f3 := hp.fr 3
 have hpost : IA ((w.setCell ⟨p, 2, none⟩ (.int .i64 (i : Int))).setCell ⟨p, 3, none⟩ (.int .i64 (i : Int))) p { A with at_ := i, kept := i } [p, g1, g2] ∧ Left [p, g1, g2] w ((w.setCell ⟨p, 2, none⟩ (.int .i64 (i : Int))).setCell ⟨p, 3, none⟩ (.int .i64 (i : Int))) [p, g1, g2] :=
  ⟨⟨g1, g2, c1, c2, rfl, hp2⟩, ((Mods.refl _ w).setCell (by simp) _).setCell (by simp) _, fun k hk => .inl hk⟩
 have HP := Lib.hid hpost
 unfold pt at L ⊢
 clear h hp hp2 hpost
 go_enter Tryz.func94, Tryz.ntmps94
 go_wp2_with fail
 refine L.mono ?_
 rintro e w' ⟨rfl, rfl⟩
 go_wp2_with fail
 go_ret
 exact ⟨rfl, HP.out⟩
set_option maxRecDepth 100000 in
set_option maxHeartbeats 800000 in
theorem inc_in {w : World} {p : Nat} {A : M} {F : List Nat} (h : IA w p A F) (ok : A.Ok) (i : Nat) (hi : i < A.now.length) (h1 : ctN A.now i ≠ 65535) (h0 : ctN A.now i ≠ 0) :
  Calls Tryz.prog 88 #[pt p, .int .i64 (i : Int)] w fun e w' => e = .returned (.int .i64 0) ∧ IA w' p { A with now := A.now.set i (ctN A.now i + 1) } F ∧ Left F w w' F := by
 obtain ⟨g1, g2, c1, c2, rfl, h⟩ := h
 have k0 := h.k0
 have q1 := h.r1.cell (ctN_get hi)
 have hlt := ok.now _ (List.mem_of_getElem? (ctN_get hi))
 have fr := h.r1.frozen i
 have L := has_any h ok.pos (i : Int)
 rw [ctE_in hi] at L
 have hm := ok.max
 have hp := h.setNow i (ctN A.now i + 1)
 obtain ⟨x, hx⟩ : ∃ x, x = ctN A.now i := ⟨_, rfl⟩
 rw [← hx] at h1 h0 hlt hp q1 ⊢
 clear hx
 have hpost : IA (w.setCell ⟨g1, i, none⟩ (.int .u16 ((x + 1 : Nat) : Int))) p { A with now := A.now.set i (x + 1) } [p, g1, g2] ∧ Left [p, g1, g2] w (w.setCell ⟨g1, i, none⟩ (.int .u16 ((x + 1 : Nat) : Int))) [p, g1, g2] :=
  ⟨⟨g1, g2, c1, c2, rfl, by simpa using hp⟩, (Mods.refl _ w).setCell (by simp) _, fun k hk => .inl hk⟩
 have HP := Lib.hid hpost
 have e1 : ((x : Int) == 65535) = false := by simp; omega
 have e2 : ((x : Int) == 0) = false := by simp; omega
 unfold pt at L ⊢
 clear h hp hpost
 go_enter Tryz.func88, Tryz.ntmps88
 go_wp2_with fail
 refine L.mono ?_
 rintro e w' ⟨rfl, rfl⟩
 go_wp2_with fail
 go_ret
 exact ⟨rfl, by simpa using HP.out⟩
end Go.Proofs.YtgmahhdnjikdjaaGreat
/- The methods of count.Area, walked: Dec, Free, Alloc. -/
namespace Go.Proofs.YtgmahhdnjikdjaaGreat
open Go.RowKit
set_option linter.unusedVariables false
set_option maxRecDepth 100000 in
set_option maxHeartbeats 800000 in
theorem dec_in {w : World} {p : Nat} {A : M} {F : List Nat} (h : IA w p A F) (ok : A.Ok) (i : Nat) (hi : i < A.now.length) (h0 : ctN A.now i ≠ 0) :
  Calls Tryz.prog 84 #[pt p, .int .i64 (i : Int)] w fun e w' => e = .returned (.tuple #[.int .u16 ((ctN A.now i - 1 : Nat) : Int), .int .i64 0]) ∧ IA w' p { A with now := A.now.set i (ctN A.now i - 1) } F ∧ Left F w w' F := by
 obtain ⟨g1, g2, c1, c2, rfl, h⟩ := h
 have k0 := h.k0
 have q1 := h.r1.cell (ctN_get hi)
 have hlt := ok.now _ (List.mem_of_getElem? (ctN_get hi))
 have fr := h.r1.frozen i
 have L := has_any h ok.pos (i : Int)
 rw [ctE_in hi] at L
 have hm := ok.max
 have hp := h.setNow i (ctN A.now i - 1)
 have p0 := hp.k0
 have pq := hp.r1.cell (i := i) (k := ctN A.now i - 1) (by simp [hi])
 obtain ⟨x, hx⟩ : ∃ x, x = ctN A.now i := ⟨_, rfl⟩
 rw [← hx] at h0 hlt hp q1 p0 pq ⊢
 clear hx
 obtain ⟨y, rfl⟩ : ∃ y, x = y + 1 := ⟨x - 1, by omega⟩
 simp only [Nat.add_sub_cancel] at hp p0 pq ⊢
 have hpost : IA (w.setCell ⟨g1, i, none⟩ (.int .u16 (y : Int))) p { A with now := A.now.set i y } [p, g1, g2] ∧ Left [p, g1, g2] w (w.setCell ⟨g1, i, none⟩ (.int .u16 (y : Int))) [p, g1, g2] :=
  ⟨⟨g1, g2, c1, c2, rfl, by simpa using hp⟩, (Mods.refl _ w).setCell (by simp) _, fun k hk => .inl hk⟩
 have HP := Lib.hid hpost
 have e2 : (((y + 1 : Nat) : Int) == 0) = false := by simp; omega
 have e3 : ((y + 1 : Nat) : Int) - 1 = (y : Int) := by omega
 unfold pt at L ⊢
 clear h hp hpost
 go_enter Tryz.func84, Tryz.ntmps84
 go_wp2_with fail
 refine L.mono ?_
 rintro e w' ⟨rfl, rfl⟩
 go_wp2_with fail
 go_ret2
 exact ⟨rfl, HP.out⟩
/-- How many of the first k are free. -/
def roomK (A : M) (k : Nat) : Nat := ((List.range k).filter (freeB A)).length
end Go.Proofs.YtgmahhdnjikdjaaGreat
/- The methods of count.Area, walked: Alloc. -/
namespace Go.Proofs.YtgmahhdnjikdjaaGreat
open Go.RowKit
set_option linter.unusedVariables false
/-- The block that stands k behind the cursor. -/
def nth (A : M) (k : Nat) : Nat := (A.at_ + k) % A.now.length
/-- The first free block, from the k-th behind the cursor on (fuel f). -/
def findF (A : M) : Nat → Nat → Option Nat
 | 0, _ => none
 | f + 1, k => if freeB A (nth A k) then some (nth A k) else findF A f (k + 1)
def find (A : M) (k : Nat) : Option Nat := findF A (A.now.length - k) k
theorem find_hit {A : M} {k : Nat} (h : k < A.now.length) (hf : freeB A (nth A k) = true) : find A k = some (nth A k) := by
 unfold find
 obtain ⟨m, hm⟩ : ∃ m, A.now.length - k = m + 1 := ⟨A.now.length - k - 1, by omega⟩
 rw [hm, findF, if_pos hf]
theorem find_next {A : M} {k : Nat} (h : k < A.now.length) (hf : freeB A (nth A k) = false) : find A k = find A (k + 1) := by
 unfold find
 obtain ⟨m, hm⟩ : ∃ m, A.now.length - k = m + 1 := ⟨A.now.length - k - 1, by omega⟩
 have h2 : A.now.length - (k + 1) = m := by omega
 rw [hm, findF, hf, h2]
 simp
theorem find_end {A : M} : find A A.now.length = none := by unfold find; rw [Nat.sub_self]; rfl
theorem nth_lt {A : M} (h : 0 < A.now.length) (k : Nat) : nth A k < A.now.length := Nat.mod_lt _ h
/-- What an area is behind an Alloc that gave block i. -/
def allocM (A : M) (i : Nat) : M := { A with now := A.now.set i 1, at_ := (i + 1) % A.now.length }
/-- What Alloc leaves. -/
def AllocP (p : Nat) (A : M) (F : List Nat) (w : World) (e : Ending) (w' : World) : Prop :=
 match find A 0 with
 | none => e = .returned (.tuple #[.int .i64 0, .int .i64 8]) ∧ Below w.heap.size w w'
 | some i => e = .returned (.tuple #[.int .i64 (i : Int), .int .i64 0]) ∧ IA w' p (allocM A i) F ∧ Left F w w' F
theorem allocP_none {p : Nat} {A : M} {F : List Nat} {w : World} {e : Ending} {w' : World} (hf : find A 0 = none) (h1 : e = .returned (.tuple #[.int .i64 0, .int .i64 8])) (h2 : Below w.heap.size w w') : AllocP p A F w e w' := by
 unfold AllocP; rw [hf]; exact ⟨h1, h2⟩
theorem allocP_some {p : Nat} {A : M} {F : List Nat} {w : World} {e : Ending} {w' : World} {i : Nat} (hf : find A 0 = some i) (h1 : e = .returned (.tuple #[.int .i64 (i : Int), .int .i64 0])) (h2 : IA w' p (allocM A i) F) (h3 : Left F w w' F) : AllocP p A F w e w' := by
 unfold AllocP; rw [hf]; exact ⟨h1, h2, h3⟩
set_option maxRecDepth 100000 in
set_option maxHeartbeats 1600000 in
theorem alloc_any {w : World} {p : Nat} {A : M} {F : List Nat} (h : IA w p A F) (ok : A.Ok) :
  Calls Tryz.prog 95 #[pt p] w fun e w' =>
   AllocP p A F w e w' := by
 obtain ⟨g1, g2, c1, c2, rfl, h⟩ := h
 have L := len_any h
 have hpos := ok.pos
 have hm := ok.max
 have hl := ok.len
 have hat := ok.at_
 have k0 := h.k0
 have HH := Lib.hid h
 have K : ∀ (W : World), Below w.heap.size w W → ∀ i, i < A.now.length → _ := fun W hW i hi => free_any (h.below hW) i hi (by omega) (by omega)
 unfold pt at L K ⊢
 have HK := Lib.hid K
 obtain ⟨n, hn⟩ : ∃ n, n = A.now.length := ⟨_, rfl⟩
 rw [← hn] at L hpos hm hl hat k0
 have HN := Lib.hid hn
 have hn0 : ((n : Int) == 0) = false := by simp; omega
 have hlt := h.lt
 clear hl K h hn
 go_enter Tryz.func95, Tryz.ntmps95
 go_wp2_with fail
 refine L.mono ?_
 rintro e w' ⟨rfl, rfl⟩
 clear L
 go_wp2_with fail
 go_loopw [14] (fun i wr => ∃ k : Nat, k ≤ n ∧ i = .int .i64 k ∧ find A 0 = find A k ∧ Below w'.heap.size w' wr) (fun i _ => n - (intOf i).toNat)
 case atStart => exact ⟨0, by omega, rfl, rfl, Below.refl _ _⟩
 case round =>
  obtain ⟨k, hk, rfl, hfind, hbel⟩ := hrel
  have HF := Lib.hid hfind
  clear hfind
  by_cases hltk : k < n
  ·have k0' := (hbel.cell (p := ⟨p, 0, none⟩) hlt).trans k0
   have k2' := (hbel.cell (p := ⟨p, 2, none⟩) hlt).trans HH.out.k2
   go_wp2_with fail
   go_quiet (fail)
   have hbd := below_drewN hbel nq
   generalize hW : wr.drewN nq = W1 at hbd ⊢
   clear hW hbel
   have hA := HH.out.below hbd
   have he : ((A.at_ : Int) + (k : Int)) % (n : Int) = ((nth A k : Nat) : Int) := by rw [nth, ← HN.out]; simp
   rw [he]
   have hnt : nth A k < n := by rw [HN.out]; exact nth_lt (by rw [← HN.out]; exact hpos) k
   have K := HK.out W1 hbd (nth A k) (by rw [← HN.out]; exact hnt)
   have hnext := find_next (A := A) (k := k) (by rw [← HN.out]; exact hltk)
   have hhit := find_hit (A := A) (k := k) (by rw [← HN.out]; exact hltk)
   generalize hx : nth A k = x at he hnt K hnext hhit ⊢
   clear he hx k0' k2'
   by_cases hf : freeB A x = true
   ·rw [hf] at K
    have hhit := hhit hf
    have hA2 : IAt (W1.setCell ⟨g1, x, none⟩ (.int .u16 1)) p g1 g2 A.now.length c1 A.was.length c2 { A with now := A.now.set x 1 } := hA.setNow x 1
    have hA3 := hA2.setAt ((x + 1) % n)
    have hc : (((x + 1) % n : Nat) : Int) = ((x : Int) + 1) % (n : Int) := by simp
    rw [hc] at hA3
    clear hc
    have a0 := hA.k0
    have a2 := hA2.k2
    have b0 := hA2.k0
    have q1 := hA.r1.cell (ctN_get (i := x) (by rw [← HN.out]; exact hnt))
    have f1 := hA.r1.frozen x
    have f2 := hA2.fr 2
    rw [← HN.out] at a0 b0
    have hpost : IA ((W1.setCell ⟨g1, x, none⟩ (.int .u16 1)).setCell ⟨p, 2, none⟩ (.int .i64 (((x : Int) + 1) % (n : Int)))) p (allocM A x) [p, g1, g2] ∧ Left [p, g1, g2] w' ((W1.setCell ⟨g1, x, none⟩ (.int .u16 1)).setCell ⟨p, 2, none⟩ (.int .i64 (((x : Int) + 1) % (n : Int)))) [p, g1, g2] := by
     refine ⟨⟨g1, g2, c1, c2, rfl, ?_⟩, (((Mods.of_below hbd).setCell (by simp) _).setCell (by simp) _), fun k hk => .inl hk⟩
     simpa [allocM, HN.out] using hA3
    have HP := Lib.hid hpost
    have HX := Lib.hid hhit
    clear hA hA2 hA3 hpost hhit hnext k0 hbd
    go_wp2_with fail
    refine K.mono ?_
    rintro e w1 ⟨rfl, rfl⟩
    go_wp2_with fail
    go_ret2
    exact allocP_some (HF.out.trans HX.out) rfl HP.out.1 HP.out.2
   ·rw [Bool.not_eq_true] at hf
    rw [hf] at K
    have hnext := hnext hf
    have HX := Lib.hid hnext
    clear hA hnext hhit k0
    go_wp2_with fail
    refine K.mono ?_
    rintro e w1 ⟨rfl, rfl⟩
    go_wp2_with fail
    go_roundw
    case rel => exact ⟨k + 1, by omega, by go_num, by rw [HF.out, HX.out], hbd⟩
    case measure => simp [intOf]; omega
  ·obtain rfl : k = n := by omega
   have he : find A 0 = none := by rw [HF.out, HN.out, find_end]
   go_wp2_with fail
   go_ret2
   exact allocP_none he rfl hbel
end Go.Proofs.YtgmahhdnjikdjaaGreat
/- The methods of count.Area, walked: Commit, Abort. -/
namespace Go.Proofs.YtgmahhdnjikdjaaGreat
open Go.RowKit
set_option linter.unusedVariables false
end Go.Proofs.YtgmahhdnjikdjaaGreat
/- The methods of count.Area, walked: New, Counts, Copy. -/
namespace Go.Proofs.YtgmahhdnjikdjaaGreat
open Go.RowKit
set_option linter.unusedVariables false
/-- A clone that is not empty is a row of its own. -/
theorem own_row {W : World} {b n : Nat} {v : Value} {l : List Nat} (ho : W.ownsRow b 172 1 v n (kV .u16 l)) (hn : 0 < n) : ∃ g cap, v = .slice (some ⟨g, 0, none⟩) n cap ∧ b ≤ g ∧ Row 172 .u16 W g n cap l := by
 refine Row.of_own ho ?_
 rintro rfl
 rcases ho.2 with ⟨_, h0⟩ | ⟨g, cap, cur, hv, _⟩
 ·omega
 ·cases hv
/-- A new area. -/
theorem box_area {w w1 w2 : World} {a b c1 c2 : Nat} {A : M} (r1 : Row 172 .u16 w1 a A.now.length c1 A.now) (hb1 : Below w.heap.size w w1) (ha : w.heap.size ≤ a)
  (r2 : Row 172 .u16 w2 b A.was.length c2 A.was) (hb2 : Below w1.heap.size w1 w2) (hb : w1.heap.size ≤ b) :
  ∃ F', IA (w2.alloc (.cells #[.slice (some ⟨a, 0, none⟩) A.now.length c1, .slice (some ⟨b, 0, none⟩) A.was.length c2, .int .i64 (A.at_ : Int), .int .i64 (A.kept : Int)] 244)) w2.heap.size A F' ∧ ∀ k ∈ F', w.heap.size ≤ k := by
 have q1 := r1.lt
 have q2 := r2.lt
 have s1 := hb1.size
 have s2 := hb2.size
 refine ⟨[w2.heap.size, a, b], ⟨a, b, c1, c2, rfl, heap_alloc_new _ _, ?_, ?_, by omega, by omega, by omega⟩, ?_⟩
 ·exact r1.same (by rw [Below.heap_alloc _ _ a (by omega), hb2.block a q1])
 ·exact r2.same (Below.heap_alloc _ _ b q2)
 ·intro k hk
  simp only [List.mem_cons, List.not_mem_nil, or_false] at hk
  rcases hk with rfl | rfl | rfl <;> omega
set_option maxRecDepth 100000 in
set_option maxHeartbeats 1600000 in
theorem new_in (v : Value) (n : Nat) (xs : List Nat) {w : World} (h : Rd w 1 v n (kV .u16 xs)) (hn : 1 ≤ n ∧ n ≤ 1000) :
  Calls Tryz.prog 139 #[v] w fun e w' => ∃ q F', e = .returned (.tuple #[pt q, .int .i64 0]) ∧ IA w' q ⟨xs, xs, 0, 0⟩ F' ∧ Below w.heap.size w w' ∧ ∀ k ∈ F', w.heap.size ≤ k := by
 have hrd := h
 obtain ⟨ao, cap, rfl, hl, hm, hcap, hc⟩ := h
 have hxl : xs.length = n := by simpa [kV] using hl
 have HXL := Lib.hid hxl
 obtain ⟨hn1, hn2⟩ := hn
 clear hc hl hxl
 go_enter Tryz.func139, Tryz.ntmps139
 go_wp2_with fail
 refine (clone16 _ _ xs _ hrd (by omega)).mono ?_
 rintro e w1 ⟨v1, rfl, ho1, hb1⟩
 obtain ⟨a, c1, rfl, hga, r1⟩ := own_row ho1 (by omega)
 go_wp2_with fail
 refine (clone16 _ _ xs _ (hrd.below hb1) (by omega)).mono ?_
 rintro e w2 ⟨v2, rfl, ho2, hb2⟩
 have hx1 : 0 < xs.length := by rw [HXL.out]; omega
 obtain ⟨b, c2, rfl, hgb, r2⟩ := own_row ho2 (by omega)
 rw [← HXL.out] at r1 r2
 obtain ⟨F', hF, hge⟩ := box_area (A := ⟨xs, xs, 0, 0⟩) r1 hb1 hga r2 hb2 hgb
 rw [HXL.out] at hF
 have HF := Lib.hid hF
 clear hF
 go_wp2_with fail
 go_ret2
 exact ⟨_, F', rfl, HF.out, balloc (bthen hb1 hb2) _, hge⟩
end Go.Proofs.YtgmahhdnjikdjaaGreat
