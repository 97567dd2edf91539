/- The reference's nets: Same, walked. -/
import Derived.Test.YtgkelbdgdhkeoaaGreatPND
import Derived.Test.YtgkelbdgdhkeoaaGreatPNE
namespace Go.Proofs.YtgkelbdgdhkeoaaGreat
open Go.RowKit
set_option linter.unusedVariables false
set_option linter.unusedSimpArgs false
set_option maxRecDepth 100000 in
set_option maxHeartbeats 3200000 in
theorem rsame20_any (n0 m0 : Nat) (w0 v0 w : World) (B C : Nat) (sv sw : Value) (L M : List Lt) (h : RNetAt n0 w0 w B sv L) (k : RNetAt m0 v0 w C sw M) (hb0 : Below w0.heap.size w0 w) (hb1 : Below v0.heap.size v0 w) :
  Calls Tryz.prog 11 #[.pointer (some ⟨B, 0, none⟩), .pointer (some ⟨C, 0, none⟩)] w fun e w' => e = .returned (.bool (decide (L.map key = M.map key))) ∧ Below w.heap.size w w' := by
 obtain ⟨n, hn⟩ : ∃ n, L.length = n := ⟨_, rfl⟩
 obtain ⟨m, hm⟩ : ∃ n, M.length = n := ⟨_, rfl⟩
 have HH : Hid (∀ W, Below w.heap.size w W → RNetAt n0 w0 W B sv L) := Lib.hid (fun W hW => h.below hW)
 have HK : Hid (∀ W, Below w.heap.size w W → RNetAt m0 v0 W C sw M) := Lib.hid (fun W hW => k.below hW)
 have HRX : Hid (∀ W, Below w.heap.size w W → ∀ x ∈ L, Rd W 1 x.v x.b.length (bV x.b)) := Lib.hid (fun W hW x hx => (h.byt x hx).below (bthen hb0 hW))
 have HRY : Hid (∀ W, Below w.heap.size w W → ∀ x ∈ M, Rd W 1 x.v x.b.length (bV x.b)) := Lib.hid (fun W hW x hx => (k.byt x hx).below (bthen hb1 hW))
 have HN := Lib.hid hn
 have HM := Lib.hid hm
 have c0 := h.cell
 have c1 := k.cell
 obtain ⟨au, cu, rfl, _, _, ⟨_, hu1, hu2⟩, _⟩ := Rd.of_own h.row
 obtain ⟨av, cv, rfl, _, _, ⟨_, hv1, hv2⟩, _⟩ := Rd.of_own k.row
 unfold maxLen at hu2 hv2
 rw [hn] at c0 hu1 HH
 rw [hm] at c1 hv1 HK
 clear h k hb0 hb1 hn hm
 by_cases hnm : n = m
 ·subst hnm
  go_enter Tryz.func11, Tryz.ntmps11
  go_wp2_with fail
  go_quiet (fail)
  rename_i nq
  go_wp2_with fail
  go_loopw [5] (fun i wr => ∃ k : Nat, k ≤ n ∧ i = .int .i64 (k : Int) ∧ (L.take k).map key = (M.take k).map key ∧ Below w.heap.size w wr) (fun i _ => n - (intOf i).toNat)
  case atStart => exact ⟨0, by omega, rfl, rfl, below_drewN (Below.refl _ _) _⟩
  case round =>
   obtain ⟨k, hk, rfl, hall, hbr⟩ := hrel
   have HA := Lib.hid hall
   have HBR := Lib.hid hbr
   have k0 := (HH.out _ hbr).cell
   have k1 := (HK.out _ hbr).cell
   clear hall c0 c1
   by_cases hlt : k < n
   ·obtain ⟨x, hx⟩ : ∃ x, L[k]? = some x := ⟨_, List.getElem?_eq_getElem (by rw [HN.out]; exact hlt)⟩
    obtain ⟨y, hy⟩ : ∃ x, M[k]? = some x := ⟨_, List.getElem?_eq_getElem (by rw [HM.out]; exact hlt)⟩
    obtain ⟨g1, cc1, e1, _, _, a0, a1, a2⟩ := (HH.out _ hbr).at_ hx
    obtain ⟨g2, cc2, e2, _, _, b0, b1, b2⟩ := (HK.out _ hbr).at_ hy
    have e1a := (Value.slice.inj e1).1
    have e2a := (Value.slice.inj e2).1
    subst e1a e2a
    have HXY := Lib.hid (And.intro hx hy)
    obtain ⟨ax, cx, ex⟩ := rdV (HH.out _ hbr) _ (List.mem_of_getElem? hx)
    obtain ⟨ay, cy, ey⟩ := rdV (HK.out _ hbr) _ (List.mem_of_getElem? hy)
    have hrx := HRX.out _ hbr x (List.mem_of_getElem? hx)
    have hry := HRY.out _ hbr y (List.mem_of_getElem? hy)
    rw [ex] at a2 hrx
    rw [ey] at b2 hry
    have htx := fun (j : Nat) => run_text (wr.drewN j) _ _ _ (hrx.below (below_drewN (Below.refl _ _) j))
    have hty := fun (j : Nat) => run_text (wr.drewN j) _ _ _ (hry.below (below_drewN (Below.refl _ _) j))
    clear hx hy e1 e2 ex ey hbr hrx hry
    by_cases hkey : key x = key y
    ·have HKE := Lib.hid hkey
     have e1 := (Prod.mk.inj hkey).1
     have e2 := (Prod.mk.inj (Prod.mk.inj hkey).2).1
     have e3 := (Prod.mk.inj (Prod.mk.inj hkey).2).2
     rw [e1] at a0
     rw [e2] at a1
     rw [e3] at a2 htx
     clear hkey e1 e2 e3
     go_wp2_with fail
     go_quiet (fail)
     rename_i nr
     go_wp2_with fail
     go_roundw
     case rel => exact ⟨k + 1, by omega, by go_num, take_key HA.out HXY.out.1 HXY.out.2 HKE.out, below_drewN HBR.out _⟩
     case measure => simp [intOf]; omega
    ·have HE : Hid (decide (L.map key = M.map key) = false) := Lib.hid (decide_eq_false (fun h => hkey (by
      have h1 : (L.map key)[k]? = some (key x) := by rw [List.getElem?_map, HXY.out.1]; rfl
      rw [h, List.getElem?_map, HXY.out.2] at h1
      exact (Option.some.inj h1).symm)))
     by_cases h1 : x.to_ = y.to_
     ·by_cases h2 : x.car = y.car
      ·have h3 : x.b ≠ y.b := fun h3 => hkey (by unfold key; rw [h1, h2, h3])
       have q0 : ((strB x.b).toList == (strB y.b).toList) = false := by rw [ByteArray.toList_eq, ByteArray.toList_eq, beq_eq_false_iff_ne]; simpa [strB] using h3
       have q1 : ((strB x.b).toList != (strB y.b).toList) = true := by rw [bne, q0]; rfl
       rw [h1] at a0
       rw [h2] at a1
       clear hkey h1 h2 h3
       go_wp2_with fail
       go_quiet (fail)
       rename_i nr
       go_wp2_with fail
       go_ret
       exact ⟨by rw [HE.out]; rfl, below_drewN HBR.out _⟩
      ·have q0 : ((x.car : Int) != (y.car : Int)) = true := by rw [bne_iff_ne]; omega
       rw [h1] at a0
       clear hkey h1 h2
       go_wp2_with fail
       go_quiet (fail)
       rename_i nr
       go_wp2_with fail
       go_ret
       exact ⟨by rw [HE.out]; rfl, below_drewN HBR.out _⟩
     ·have q0 : (x.to_ != y.to_) = true := by rw [bne_iff_ne]; exact h1
      clear hkey h1
      go_wp2_with fail
      go_quiet (fail)
      rename_i nr
      go_wp2_with fail
      go_ret
      exact ⟨by rw [HE.out]; rfl, below_drewN HBR.out _⟩
   ·obtain rfl : k = n := by omega
    have he : L.map key = M.map key := by
     have := HA.out
     rwa [List.take_of_length_le (by rw [HN.out]; exact Nat.le_refl _), List.take_of_length_le (by rw [HM.out]; exact Nat.le_refl _)] at this
    have HE := Lib.hid (decide_eq_true he)
    clear hbr he
    go_wp2_with fail
    go_ret
    exact ⟨by rw [HE.out]; rfl, HBR.out⟩
 ·have q0 : ((n : Int) == (m : Int)) = false := by rw [beq_eq_false_iff_ne]; omega
  have hne : L.map key ≠ M.map key := fun h => by
   have := congrArg List.length h
   rw [List.length_map, List.length_map, HN.out, HM.out] at this
   exact hnm this
  have HE := Lib.hid (decide_eq_false hne)
  clear hne hnm
  go_enter Tryz.func11, Tryz.ntmps11
  go_wp2_with fail
  go_quiet (fail)
  rename_i nq
  go_wp2_with fail
  go_ret
  exact ⟨by rw [HE.out]; rfl, below_drewN (Below.refl _ _) _⟩
end Go.Proofs.YtgkelbdgdhkeoaaGreat
