/- Nets: the iterator of Waits: its contract; Waits. -/
import Derived.Test.YtgkelbdgdhkeoaaGreatProg
import Derived.Test.YtgkelbdgdhkeoaaGreatPWA
import Derived.Test.YtgkelbdgdhkeoaaGreatPNA
import Derived.Test.YtgkelbdgdhkeoaaGreatPNB
namespace Go.Proofs.YtgkelbdgdhkeoaaGreat
open Go.RowKit Go.Shelf
set_option linter.unusedVariables false
set_option linter.unusedSimpArgs false
attribute [local go_sem] Oper.semAt_some
/-- What Waits goes over: places, and to whom. -/
def wItem (L : List Lt) (i : Nat) : Nat × Int := (i, (L[i]?.map (·.to_)).getD 0)
def wItemsK (L : List Lt) (k : Nat) : List (Nat × Int) := (waitsK L k).map (wItem L)
def wItems (L : List Lt) : List (Nat × Int) := wItemsK L L.length
def itemN (x : Nat × Int) : Array Value := #[.int .i64 (x.1 : Int), .int .i64 x.2]
theorem wItems_len (L : List Lt) : (wItems L).length = (waitsL L).length := by simp [wItems, wItemsK, waitsL]
theorem wItemsK_yes {L : List Lt} {k : Nat} {x : Lt} (h : L[k]? = some x) (hx : x.car = 0) : wItemsK L (k + 1) = wItemsK L k ++ [(k, x.to_)] := by
 simp [wItemsK, waitsK_yes h hx, wItem, h]
theorem wItemsK_no {L : List Lt} {k : Nat} {x : Lt} (h : L[k]? = some x) (hx : x.car ≠ 0) : wItemsK L (k + 1) = wItemsK L k := by
 simp [wItemsK, waitsK_no h hx]
theorem waitsK_step (L : List Lt) (k : Nat) : waitsK L k <+: waitsK L (k + 1) := by
 simp [waitsK, List.range_succ, List.filter_append]
theorem waitsK_pre (L : List Lt) {k m : Nat} (h : k ≤ m) : waitsK L k <+: waitsK L m := by
 induction m with
 | zero =>
  obtain rfl : k = 0 := by omega
  exact List.prefix_rfl
 | succ m ih =>
  rcases Nat.lt_or_ge m k with h1 | h1
  ·obtain rfl : k = m + 1 := by omega
   exact List.prefix_rfl
  ·exact (ih h1).trans (waitsK_step L m)
theorem wItemsK_pre (L : List Lt) {k : Nat} (h : k ≤ L.length) : wItemsK L k <+: wItems L := by
 obtain ⟨t, ht⟩ := waitsK_pre L h
 exact ⟨t.map (wItem L), by unfold wItems wItemsK; rw [← ht, List.map_append]⟩
/-- An iterator's memory: the box Bo of the net that it goes over (S: its blocks); what it goes over. -/
def WtAt (w : World) (Bo : Nat) (S : List Nat) (l : List (Nat × Int)) : Prop :=
 (w.heap[Bo]? = some (.cells #[.pointer none] 25 (0, 0)) ∧ S = [Bo] ∧ l = []) ∨
 ∃ (n0 D : Nat) (su : Value) (L : List Lt), NetAt n0 w D su L ∧ w.heap[Bo]? = some (.cells #[.pointer (some ⟨D, 0, none⟩)] 25 (0, 0)) ∧ S = Bo :: D :: ob su ∧ l = wItems L ∧ L.length ≤ 1000000
theorem WtAt.below {w w' : World} {Bo : Nat} {S : List Nat} {l : List (Nat × Int)} (h : WtAt w Bo S l) (hb : Below w.heap.size w w') : WtAt w' Bo S l := by
 rcases h with ⟨h1, h2, h3⟩ | ⟨n0, D, su, L, h1, h2, h3⟩
 ·exact .inl ⟨(hb.block _ (Array.getElem?_eq_some_iff.1 h1).1).trans h1, h2, h3⟩
 ·exact .inr ⟨n0, D, su, L, h1.below hb, (hb.block _ (Array.getElem?_eq_some_iff.1 h2).1).trans h2, h3⟩
set_option maxRecDepth 100000 in
set_option maxHeartbeats 3200000 in
theorem waits_stops0 (n : Nat) (hn : 1 ≤ n) (Bo : Nat) (w : World) (hBo : w.heap[Bo]? = some (.cells #[.pointer none] 25 (0, 0))) (Fp : World → Nat → Prop) :
  SeqStopsK Fence.wide n Tryz.prog 49 #[.pointer (some ⟨Bo, 0, none⟩)] itemN (KpF Fp) (fun ys => ys = []) (fun pre => pre <+: []) 0 w := by
 have hro : Fence.wide.round = none := rfl
 intro l J Jx W hW hJ hJx hY h0
 have c0 : W.cell? ⟨Bo, 0, none⟩ = some (.pointer none) := cellOf ((hW.block _ (Array.getElem?_eq_some_iff.1 hBo).1).trans hBo) 0 rfl
 have CL := len_no W (.pointer none) (.inl ⟨rfl, rfl⟩)
 have HJ := Lib.hid h0
 clear hY h0 hBo
 refine callsIn_of_wp Tryz.func49 rfl trivial ?_ hro
 simp only [Tryz.ntmps49, List.size_toArray, List.length_cons, List.length_nil, Nat.reduceAdd, Nat.reduceSub, Array.replicate_succ, Array.replicate_zero, List.push_toArray, List.append_toArray, List.nil_append, List.cons_append]
 gi_wp2_with (refine ⟨trivial, ?_⟩; gi_at_call 18; refine (callsIn_wide.2 CL).mono ?_; rintro e w' ⟨rfl, rfl⟩)
 gi_loopw [3, 4, 7] (fun _ _ d wr => d = .int .i64 0 ∧ wr = W) (fun _ _ _ _ => 0)
 case atStart => exact ⟨rfl, rfl⟩
 case round =>
  obtain ⟨rfl, hwr⟩ := hrel
  subst hwr
  gi_wp2
  go_end0
  exact ⟨⟨_, rfl⟩, .inl ⟨[], rfl, HJ.out⟩⟩
set_option maxRecDepth 100000 in
set_option maxHeartbeats 3200000 in
theorem waits_stops1 (n : Nat) (hn : 1 ≤ n) (Bo n0 D : Nat) (su : Value) (L : List Lt) (w : World) (hD : NetAt n0 w D su L) (hBo : w.heap[Bo]? = some (.cells #[.pointer (some ⟨D, 0, none⟩)] 25 (0, 0))) (hL : L.length ≤ 1000000) (G : Nat → Prop)
  (hG : ∀ k, G k → k < w.heap.size) (hGB : ¬ G Bo) (hGD : ¬ G D) (hGs : ∀ k ∈ ob su, ¬ G k) :
  SeqStopsK Fence.wide n Tryz.prog 49 #[.pointer (some ⟨Bo, 0, none⟩)] itemN (KpF fun _ k => G k) (fun ys => ys = wItems L) (fun pre => pre <+: wItems L) (wItems L).length w := by
 have hro : Fence.wide.round = none := rfl
 intro l J Jx W hW hJ hJx hY h0
 have hWs := hW.size
 have hgood : ∀ k, G k → k < W.heap.size := fun k hk => by have := hG k hk; omega
 have hD' := hD.below hW
 have cB : W.cell? ⟨Bo, 0, none⟩ = some (.pointer (some ⟨D, 0, none⟩)) := cellOf ((hW.block _ (Array.getElem?_eq_some_iff.1 hBo).1).trans hBo) 0 rfl
 have hDc := hD'.cell
 have CL := len_at n0 W D su L hD'
 obtain ⟨m, hm⟩ : ∃ m, L.length = m := ⟨_, rfl⟩
 rw [hm] at CL hL
 have HM := Lib.hid hm
 have HD := Lib.hid hD'
 have HG := Lib.hid hG
 have HGs := Lib.hid hGs
 clear hD hD' hBo hW hG hGs hm
 refine callsIn_of_wp Tryz.func49 rfl trivial ?_ hro
 simp only [Tryz.ntmps49, List.size_toArray, List.length_cons, List.length_nil, Nat.reduceAdd, Nat.reduceSub, Array.replicate_succ, Array.replicate_zero, List.push_toArray, List.append_toArray, List.nil_append, List.cons_append]
 gi_wp2_with (refine ⟨trivial, ?_⟩; gi_at_call 18; refine (callsIn_wide.2 CL).mono ?_; rintro e w' ⟨rfl, rfl⟩)
 gi_loopw [3, 4, 7] (fun _ _ d wr => ∃ i : Nat, i ≤ m ∧ d = .int .i64 (i : Int) ∧ J (wItemsK L i) wr ∧ KpF (fun _ k => G k) W wr)
  (fun _ _ d _ => m - (intOf d).toNat)
 case atStart => exact ⟨0, Nat.zero_le _, rfl, by simpa [wItemsK, waitsK] using h0, KpF.refl _ _⟩
 case round =>
  obtain ⟨i, hi, rfl, hJs, hbw⟩ := hrel
  have cB2 : wr.cell? ⟨Bo, 0, none⟩ = some (.pointer (some ⟨D, 0, none⟩)) := hbw.cell cB hGB
  have cD2 : wr.cell? ⟨D, 0, none⟩ = some su := hbw.cell hDc.1 hGD
  have hwr := hbw.size
  by_cases hlt : i < m
  ·obtain ⟨x, hx⟩ : ∃ x, L[i]? = some x := ⟨_, List.getElem?_eq_getElem (by rw [HM.out]; exact hlt)⟩
   obtain ⟨g, cap, e0, q1, q2, g0, g1, g2⟩ := HD.out.at_ hx
   obtain ⟨ax, cx, ex⟩ := HD.out.slice (List.mem_of_getElem? hx)
   subst e0
   have hgG : ¬ G g := HGs.out g (by simp [ob_some])
   have l0 := hbw.cell g0 hgG
   have l1 := hbw.cell g1 hgG
   have l2 := hbw.cell g2 hgG
   rw [ex] at l2
   rw [HM.out] at q1 cD2
   unfold maxLen at q2
   have HX := Lib.hid hx
   have HE := Lib.hid ex
   obtain ⟨c, hc⟩ : ∃ c : Int, (x.car : Int) = c := ⟨_, rfl⟩
   rw [hc] at l1
   have HC := Lib.hid hc
   obtain ⟨t, ht⟩ : ∃ t, x.to_ = t := ⟨_, rfl⟩
   rw [ht] at l0
   have HT := Lib.hid ht
   have HB := Lib.hid hbw
   have hnf : ¬ G wr.heap.size := fun hf => by have := hgood _ hf; omega
   clear hx ex g0 g1 g2 hc ht hbw
   by_cases hc0 : c = 0
   ·subst hc0
    have hS : wItemsK L (i + 1) = wItemsK L i ++ [(i, t)] := by rw [← HT.out]; exact wItemsK_yes HX.out (by have := HC.out; omega)
    have hlen : (wItemsK L i).length < (wItems L).length := by
     have h1 := (wItemsK_pre L (k := i + 1) (by rw [HM.out]; omega)).length_le
     rw [hS, List.length_append] at h1
     exact h1
    have HS := Lib.hid hS
    have hJ2 := hJ _ _ _ none hJs (World.grownBy_alloc wr (.cells #[.int .i64 t, .int .i64 0, .slice ax x.b.length cx] 61) none) (fun r e => by cases e)
    obtain ⟨fn, tmps, assign, body, hy, hR⟩ := hY _ (i, t) _ hJ2 hlen
    have hkw := KpF.alloc HB.out (.cells #[.int .i64 t, .int .i64 0, .slice ax x.b.length cx] 61) (fun k hk => hk)
    dsimp only [itemN] at hy
    clear hJ2 hY hS hlen hJs
    gi_wp2
    refine hR.mono ?_
    rintro e W3 (⟨rfl, hJ3, hk3⟩ | ⟨rfl, hx3⟩)
    ·have hsz := hk3.size
     have hk4 := hkw.trans hk3
     rw [← HS.out] at hJ3
     clear hy hR hkw hnf hk3
     gi_wp2
     go_roundw
     case rel => exact ⟨i + 1, by omega, by go_num, hJ3, hk4⟩
     case measure => simp [intOf]; omega
    ·gi_wp2
     refine bodyPost_ret (results_none rfl _ _ _) rfl ?_
     exact ⟨⟨_, rfl⟩, .inr ⟨_, by rw [← HS.out]; exact wItemsK_pre L (by rw [HM.out]; omega), hx3⟩⟩
   ·have q0 : (c == 0) = false := by rw [beq_eq_false_iff_ne]; exact hc0
    have hS : wItemsK L (i + 1) = wItemsK L i := wItemsK_no HX.out (by have := HC.out; omega)
    have hJ2 := hJ _ _ _ none hJs (World.grownBy_alloc wr (.cells #[.int .i64 t, .int .i64 c, .slice ax x.b.length cx] 61) none) (fun r e => by cases e)
    have hkw := KpF.alloc HB.out (.cells #[.int .i64 t, .int .i64 c, .slice ax x.b.length cx] 61) (fun k hk => hk)
    rw [← hS] at hJ2
    clear hY hS hJs
    gi_wp2
    refine ⟨fun f hf => (by cases hf), ?_⟩
    gi_wp2
    go_roundw
    case rel => exact ⟨i + 1, by omega, by go_num, hJ2, hkw⟩
    case measure => simp [intOf]; omega
  ·obtain rfl : i = m := by omega
   gi_wp2
   go_end0
   refine ⟨⟨_, rfl⟩, .inl ⟨_, rfl, ?_⟩⟩
   unfold wItems
   rw [HM.out]
   exact hJs
theorem waits_stops (n : Nat) (hn : 1 ≤ n) (Bo : Nat) (S : List Nat) (l : List (Nat × Int)) (w : World) (h : WtAt w Bo S l) (G : Nat → Prop) (hG : ∀ k, G k → k < w.heap.size) (hGS : ∀ k ∈ S, ¬ G k) :
  SeqStopsK Fence.wide n Tryz.prog 49 #[.pointer (some ⟨Bo, 0, none⟩)] itemN (KpF fun _ k => G k) (fun ys => ys = l) (fun pre => pre <+: l) l.length w := by
 rcases h with ⟨h1, rfl, rfl⟩ | ⟨n0, D, su, L, h1, h2, rfl, rfl, h3⟩
 ·exact waits_stops0 n hn Bo w h1 _
 ·exact waits_stops1 n hn Bo n0 D su L w h1 h2 h3 G hG (hGS _ (by simp)) (hGS _ (by simp)) (fun k hk => hGS _ (by simp [hk]))
/-- What Waits leaves. -/
def WaitsP (w : World) (l : List (Nat × Int)) (e : Ending) (w' : World) : Prop :=
 ∃ Bo S, e = .returned (.func (.func 49) #[] #[.pointer (some ⟨Bo, 0, none⟩)]) ∧ WtAt w' Bo S l ∧ (∀ k ∈ S, w.heap.size ≤ k) ∧ Below w.heap.size w w'
set_option maxRecDepth 100000 in
set_option maxHeartbeats 1600000 in
theorem waits_at (n0 : Nat) (w : World) (B : Nat) (sv : Value) (L : List Lt) (hn0 : n0 ≤ w.heap.size) (h : NetAt n0 w B sv L) (hL : L.length ≤ 1000000) : Calls Tryz.prog 34 #[.pointer (some ⟨B, 0, none⟩)] w (WaitsP w (wItems L)) := by
 have CC := copy_at n0 w B sv L hn0 h hL
 clear h
 go_enter Tryz.func34, Tryz.ntmps34
 go_wp2_with fail
 refine CC.mono ?_
 rintro e w1 ⟨D, su, rfl, hn, hb, hD, hsu⟩
 have HN := Lib.hid hn
 have HB := Lib.hid hb
 have HS := Lib.hid hsu
 clear CC hn hb hsu
 go_wp2_with fail
 go_ret
 refine ⟨_, _, rfl, .inr ⟨n0, D, su, L, HN.out.below (balloc (Below.refl _ _) _), heap_alloc_new w1 _, rfl, rfl, hL⟩, fun k hk => ?_, balloc HB.out _⟩
 have := HB.out.size
 rcases List.mem_cons.1 hk with rfl | hk
 ·exact this
 ·rcases List.mem_cons.1 hk with rfl | hk
  ·exact hD
  ·exact HS.out k hk
end Go.Proofs.YtgkelbdgdhkeoaaGreat
