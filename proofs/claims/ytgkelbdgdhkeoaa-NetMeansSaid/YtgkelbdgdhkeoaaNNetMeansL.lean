/- The law NetMeans, walked. -/
import Derived.Deep.RegionHeld3
import Derived.Test.YtgkelbdgdhkeoaaNND
import Derived.Test.YtgkelbdgdhkeoaaNNet19
namespace Go.Proofs.Ytgkelbdgdhkeoaa
open Go.RowKit
set_option linter.unusedVariables false
set_option linter.unusedSimpArgs false
/-- What a letter says, but for how often it was carried. -/
def key2 (x : Lt) : Int × List UInt8 := (x.to_, x.b)
theorem same2_at {L M : List Lt} (h : L.map key2 = M.map key2) {i : Nat} {x : Lt} (hx : L[i]? = some x) : ∃ y, M[i]? = some y ∧ y.to_ = x.to_ ∧ y.b = x.b := by
 have h1 : (L.map key2)[i]? = some (key2 x) := by rw [List.getElem?_map, hx]; rfl
 rw [h, List.getElem?_map] at h1
 obtain ⟨y, hy, hk⟩ := Option.map_eq_some_iff.1 h1
 obtain ⟨e1, e2⟩ := Prod.mk.inj hk
 exact ⟨y, hy, e1, e2⟩
theorem same2_of {L M : List Lt} (h : L.map key = M.map key) : L.map key2 = M.map key2 := by
 have e : ∀ N : List Lt, (N.map key).map (fun (z : Int × Nat × List UInt8) => (z.1, z.2.2)) = N.map key2 := fun N => by rw [List.map_map]; rfl
 rw [← e, ← e, h]
/-- The first that waits is carried: the others wait still. -/
theorem waits_carry {L : List Lt} {i : Nat} {x : Lt} (n : Nat) (hn : n ≠ 0) (hx : L[i]? = some x) (h0 : x.car = 0) (hall : ∀ (k : Nat) (y : Lt), k < i → L[k]? = some y → y.car ≠ 0) :
  waitsL L = i :: waitsL (L.set i { x with car := n }) ∧ ∀ j ∈ waitsL (L.set i { x with car := n }), i < j := by
 have hi : i < L.length := (List.getElem?_eq_some_iff.1 hx).1
 have hr : List.range L.length = List.range i ++ i :: List.range' (i + 1) (L.length - i - 1) := by
  rw [List.range_eq_range', List.range_eq_range']
  have e : List.range' 0 L.length = List.range' 0 i ++ List.range' i (L.length - i) := by
   have := @List.range'_append 0 i (L.length - i) 1
   simp only [Nat.zero_add, Nat.one_mul] at this
   rw [this]; congr 1; omega
  rw [e]
  congr 1
  have : L.length - i = (L.length - i - 1) + 1 := by omega
  rw [this, List.range'_succ]
  simp
 have f0 : ∀ (M : List Lt), (∀ k, k < i → M[k]? = L[k]?) → (List.range i).filter (fun j => M[j]?.map (·.car) == some 0) = [] := by
  intro M hM
  rw [List.filter_eq_nil_iff]
  intro k hk
  have hk := List.mem_range.1 hk
  rw [hM k hk]
  obtain ⟨y, hy⟩ : ∃ y, L[k]? = some y := ⟨_, List.getElem?_eq_getElem (by omega)⟩
  have := hall k y hk hy
  simp [hy, this]
 have f1 : (List.range' (i + 1) (L.length - i - 1)).filter (fun j => (L.set i { x with car := n })[j]?.map (·.car) == some 0) = (List.range' (i + 1) (L.length - i - 1)).filter (fun j => L[j]?.map (·.car) == some 0) := by
  refine List.filter_congr fun k hk => ?_
  have := (List.mem_range'_1.1 hk).1
  rw [List.getElem?_set_ne (by omega)]
 have e1 : waitsL (L.set i { x with car := n }) = (List.range' (i + 1) (L.length - i - 1)).filter (fun j => L[j]?.map (·.car) == some 0) := by
  unfold waitsL waitsK
  rw [List.length_set, hr, List.filter_append, f0 _ (fun k hk => List.getElem?_set_ne (by omega)), List.filter_cons, List.getElem?_set_self hi, f1]
  simp [hn]
 refine ⟨?_, fun j hj => ?_⟩
 ·rw [e1]
  unfold waitsL waitsK
  rw [hr, List.filter_append, f0 _ (fun k hk => rfl), List.filter_cons, hx]
  simp [h0]
 ·rw [e1] at hj
  have := (List.mem_range'_1.1 (List.mem_filter.1 hj).1).1
  omega
/-- The waiting places are in order, and are those of letters that wait. -/
theorem waits_first {L : List Lt} {i : Nat} {l : List Nat} (h : waitsL L = i :: l) : ∃ x, L[i]? = some x ∧ x.car = 0 := by
 have hm : i ∈ waitsL L := by rw [h]; exact List.mem_cons_self ..
 unfold waitsL waitsK at hm
 obtain ⟨h1, h2⟩ := List.mem_filter.1 hm
 obtain ⟨y, hy⟩ : ∃ y, L[i]? = some y := ⟨_, List.getElem?_eq_getElem (List.mem_range.1 h1)⟩
 refine ⟨y, hy, ?_⟩
 simpa [hy] using h2
/-- While all that wait are carried: the net, the reference's, the last one carried. -/
structure Left (w0 w : World) (B : Nat) (sv : Value) (L : List Lt) (C : Nat) (sw : Value) (M : List Lt) (last : Int) : Prop where
 n : NetAt w0.heap.size w B sv L
 r : RNetAt w0.heap.size w0 w C sw M
 same : L.map key2 = M.map key2
 small : L.length ≤ 60 ∧ ∀ x ∈ L, x.car ≤ 60 ∧ x.b.length ≤ 3000
 late : -1 ≤ last ∧ last ≤ 60 ∧ ∀ j ∈ waitsL L, last < (j : Int)
 below : Below w0.heap.size w0 w
theorem Left.mono {w0 w w' : World} {B C : Nat} {sv sw : Value} {L M : List Lt} {last : Int} (d : Left w0 w B sv L C sw M last) (hb : Below w.heap.size w w') : Left w0 w' B sv L C sw M last :=
 ⟨d.n.below hb, d.r.below hb, d.same, d.small, d.late, bthen d.below hb⟩
theorem Left.len {w0 w : World} {B C : Nat} {sv sw : Value} {L M : List Lt} {last : Int} (d : Left w0 w B sv L C sw M last) : L.length = M.length := by
 have := congrArg List.length d.same
 simpa using this
theorem Left.carried {w0 w w' : World} {B C i : Nat} {sv sw : Value} {L M : List Lt} {last : Int} {x : Lt} (d : Left w0 w B sv L C sw M last) (hx : L[i]? = some x) (h0 : x.car = 0) (hall : ∀ (k : Nat) (y : Lt), k < i → L[k]? = some y → y.car ≠ 0)
  (h1 : NetAt w0.heap.size w' B sv (L.set i { x with car := 1 })) (c1 : Chg (nF B sv) w w' (nF B sv)) : Left w0 w' B sv (L.set i { x with car := 1 }) C sw M (i : Int) := by
 refine ⟨h1, d.r.past d.n c1.1, ?_, ⟨?_, fun z hz => ?_⟩, ⟨by omega, ?_, fun j hj => ?_⟩, chg_below d.below c1 d.n.ge (fun j hj => ownsRow_ge d.n.row j hj)⟩
 ·rw [List.map_set, ← d.same]
  refine List.ext_getElem? fun j => ?_
  by_cases hj : i = j
  ·subst hj
   rw [List.getElem?_set_self (by rw [List.length_map]; exact (List.getElem?_eq_some_iff.1 hx).1), List.getElem?_map, hx]
   rfl
  ·rw [List.getElem?_set_ne hj]
 ·rw [List.length_set]; exact d.small.1
 ·rcases List.mem_or_eq_of_mem_set hz with h | rfl
  ·exact d.small.2 z h
  ·exact ⟨by show (1 : Nat) ≤ 60; decide, (d.small.2 x (List.mem_of_getElem? hx)).2⟩
 ·have := (List.getElem?_eq_some_iff.1 hx).1
  have := d.small.1
  omega
 ·have := (waits_carry 1 (by decide) hx h0 hall).2 j hj
  omega
set_option maxRecDepth 100000 in
set_option maxHeartbeats 6400000 in
theorem netMeans_walk (ao : Option Addr) (n cap : Nat) (l : List St) (w0 : World) (hv0 : Steps w0 ao n cap l) :
  Calls Try.prog 11 #[.slice ao n cap] w0 fun e w' => e = .returned (.bool true) ∧ Below w0.heap.size w0 w' := by
 have CK := known20_any w0
 have HSV := Lib.hid (fun W (hW : Below w0.heap.size w0 W) => hv0.below hW)
 obtain ⟨y, hy⟩ : ∃ y, muchN l = y := ⟨_, rfl⟩
 have HMU := Lib.hid (fun W (hW : Below w0.heap.size w0 W) => hy ▸ much20_any ao n cap l W (hv0.below hW))
 have HY := Lib.hid hy
 clear hy hv0
 cases y with
 | true =>
  go_enter Try.func11, Try.ntmps11
  go_wp2_with fail
  refine CK.mono ?_
  rintro e w1 ⟨rfl, hb⟩
  have CM := HMU.out _ hb
  have HB := Lib.hid hb
  clear hb CK
  go_wp2_with fail
  refine CM.mono ?_
  rintro e w2 ⟨rfl, rfl⟩
  go_wp2_with fail
  go_ret
  exact ⟨rfl, HB.out⟩
 | false =>
 have HS := Lib.hid (muchN_no HY.out)
 go_enter Try.func11, Try.ntmps11
 go_wp2_with fail
 refine CK.mono ?_
 rintro e w ⟨rfl, hb⟩
 have CM := HMU.out _ hb
 have HV := Lib.hid (HSV.out _ hb)
 have HB0 := Lib.hid hb
 clear hb CK
 have HNL : Hid (n ≤ 60 ∧ n ≤ cap ∧ cap ≤ 9223372036854775807) := Lib.hid (by
  obtain ⟨a, b, c, _⟩ := HV.out
  unfold maxLen at c
  have := HS.out.1
  omega)
 have hnl := HNL.out
 have CN := new_any w.heap.size w (Nat.le_refl _)
 go_wp2_with fail
 refine CM.mono ?_
 rintro e w1 ⟨rfl, rfl⟩
 clear CM
 go_wp2_with fail
 refine CN.mono ?_
 rintro e w1 ⟨rfl, hn1, hb1⟩
 have HN1 := Lib.hid hn1
 have HB1 := Lib.hid hb1
 clear hn1 hb1 CN
 obtain ⟨w2, hw2⟩ : ∃ W, w1.alloc (.cells #[.slice none 0 0] 95) = W := ⟨_, rfl⟩
 have HD0 : Hid (Duo w w2 w.heap.size (.slice none 0 0) [] w1.heap.size (.slice none 0 0) [] 0) := Lib.hid (by
  rw [← hw2]
  exact ⟨HN1.out.below (balloc (Below.refl _ _) _), ⟨heap_alloc_new w1 _, World.ownsRow_nil _ _ _ _, fun x hx => (by cases hx), HB1.out.size⟩, rfl, ⟨Nat.le_refl _, fun x hx => by cases hx⟩, balloc HB1.out _⟩)
 obtain ⟨C, hC⟩ : ∃ C, w1.heap.size = C := ⟨_, rfl⟩
 obtain ⟨B, hB⟩ : ∃ B, w.heap.size = B := ⟨_, rfl⟩
 go_upto_region 8 with fail
 clear hw2
 rw [hC, hB] at HD0
 clear hC hB
 go_wp2_with fail
 go_loopw [5] (fun iv wr => ∃ k : Nat, k ≤ n ∧ iv = .int .i64 (k : Int) ∧ ∃ sv L sw M, Duo w wr B sv L C sw M k) (fun iv _ => n - (intOf iv).toNat)
 case atStart => exact ⟨0, by omega, rfl, _, _, _, _, HD0.out⟩
 case round =>
  obtain ⟨k, hk, rfl, sv, L, sw, M, hd⟩ := hrel
  have HD := Lib.hid hd
  clear hd
  by_cases hlt : k < n
  ·obtain ⟨x, hx⟩ : ∃ x, l[k]? = some x := ⟨_, List.getElem?_eq_getElem (by rw [HV.out.1]; exact hlt)⟩
   have hr : Rd w 1 x.v x.b.length (bV x.b) := by
    obtain ⟨_, _, _, _, _, _, _, h⟩ := HV.out.2.2.2.2 k x hx
    exact h
   obtain ⟨b, off, rfl, _, c0, c1, c2, _⟩ := (HV.out.below HD.out.below).2.2.2.2 k x hx
   have CD := do_any w wr _ sv L C sw M k HD.out (by omega) x hr (HS.out.2 x (List.mem_of_getElem? hx))
   obtain ⟨ax, cx, ex, _⟩ := hr
   rw [ex] at c2 CD
   unfold DoP at CD
   clear hx ex
   go_wp2_with fail
   refine CD.mono ?_
   rintro e w3 ⟨rfl, ⟨sv3, L3, sw3, M3, hd3⟩, _⟩
   have HD3 := Lib.hid hd3
   clear hd3 CD
   go_wp2_with fail
   go_roundw
   case rel => exact ⟨k + 1, by omega, by go_num, _, _, _, _, HD3.out⟩
   case measure => simp [intOf]; omega
  ·obtain rfl : k = n := by omega
   have hll := HD.out.small.1
   have CW := waiting_at w.heap.size wr B sv L HD.out.below.size HD.out.n (by have := HNL.out; omega)
   obtain ⟨m, hm⟩ : ∃ m, (waitsL L).length = m := ⟨_, rfl⟩
   rw [hm] at CW
   have hm60 : m ≤ 60 := by rw [← hm]; exact Nat.le_trans (waitsK_le L _) (by have := HNL.out; omega)
   have HM := Lib.hid hm
   have HLF : Hid (Left w wr B sv L C sw M (-1)) := Lib.hid ⟨HD.out.n, HD.out.r, same2_of HD.out.same, ⟨by have := HNL.out; omega, fun x hx => ⟨by have := (HD.out.small.2 x hx).1; have := HNL.out; omega, (HD.out.small.2 x hx).2⟩⟩, ⟨by omega, by omega, fun j _ => by omega⟩, HD.out.below⟩
   clear hm hll hnl
   go_wp2_with fail
   refine CW.mono ?_
   rintro e w3 ⟨rfl, hb3⟩
   have HL3 := Lib.hid (HLF.out.mono hb3)
   clear hb3 CW
   go_wp2_with fail
   go_loopw [7, 8, 9, 10, 11, 12, 13] (fun last kv _ _ _ _ _ wr => ∃ (q : Nat) (z : Int), q ≤ m ∧ kv = .int .i64 (q : Int) ∧ last = .int .i64 z ∧ ∃ K : List Lt, Left w wr B sv K C sw M z ∧ (waitsL K).length + q = m) (fun _ kv _ _ _ _ _ _ => m - (intOf kv).toNat)
   case atStart => exact ⟨0, -1, by omega, rfl, rfl, L, HL3.out, by have := HM.out; omega⟩
   case round =>
    obtain ⟨q, z, hq, rfl, rfl, K, hl, hqm⟩ := hrel
    have HL := Lib.hid hl
    have CX := next_at _ _ _ _ _ hl.n
    clear hl
    by_cases hlq : q < m
    ·obtain ⟨i0, ws, hws⟩ : ∃ i ws, waitsL K = i :: ws := by
      cases h : waitsL K with
      | nil => rw [h] at hqm; simp at hqm; omega
      | cons i ws => exact ⟨i, ws, rfl⟩
     have HWS := Lib.hid hws
     clear hws
     go_wp2_with fail
     refine CX.mono ?_
     rintro e w4 ⟨hb4, hP⟩
     obtain ⟨i, x, hx, hx0, hall, rfl⟩ : ∃ (i : Nat) (x : Lt), K[i]? = some x ∧ x.car = 0 ∧ (∀ (k : Nat) (y : Lt), k < i → K[k]? = some y → y.car ≠ 0) ∧ e = .returned (.tuple #[.int .i64 (i : Int), .bool true]) := by
      rcases hP with h | ⟨h, _⟩
      ·exact h
      ·obtain ⟨y, h1, h2⟩ := waits_first HWS.out
       exact absurd h2 (h _ _ h1)
     have HL4 := Lib.hid (HL.out.mono hb4)
     clear hP hb4 CX
     obtain ⟨hwc, _⟩ := waits_carry 1 (by decide) hx hx0 hall
     have hzi : z < (i : Int) := HL.out.late.2.2 i (by rw [hwc]; exact List.mem_cons_self ..)
     have hiK : i < K.length := (List.getElem?_eq_some_iff.1 hx).1
     have hiM : i < M.length := by have := HL.out.len; omega
     obtain ⟨⟨yt, yc, yv, yb⟩, hy, hk1, hk2⟩ := same2_at HL.out.same hx
     dsimp only at hk1 hk2
     subst hk1 hk2
     have HX := Lib.hid hx
     have HX0 := Lib.hid hx0
     have HY2 := Lib.hid hy
     have HALL := Lib.hid hall
     have HWC : Hid ((waitsL (K.set i { x with car := 1 })).length + (q + 1) = m) := Lib.hid (by rw [hwc] at hqm; simp only [List.length_cons] at hqm; omega)
     have CA := carried_in _ _ _ _ _ i x HL4.out.n hx
     rw [hx0] at CA
     have r0 := HL4.out.r.cell
     obtain ⟨g, cw, hsw, q1, q2, g0, _, g2⟩ := HL4.out.r.at_ hy
     subst hsw
     unfold maxLen at q2
     have hML : M.length ≤ 60 := by have := HL.out.len; have := HL.out.small.1; omega
     have hz1 := HL.out.late.1
     have hz2 := HL.out.late.2.1
     have p1 : decide ((i : Int) ≤ z) = false := decide_eq_false (by omega)
     have p2 : decide ((M.length : Int) ≤ (i : Int)) = false := decide_eq_false (by omega)
     clear hx hx0 hall hy hwc hqm hzi
     go_wp2_with fail
     refine CA.mono ?_
     rintro e w5 ⟨rfl, rfl⟩
     clear CA
     have CC := carry_in _ _ _ _ _ i x HL4.out.n HX.out (by have := (HL.out.small.2 x (List.mem_of_getElem? HX.out)).2; omega) (by rw [HX0.out]; decide)
     unfold CarryP at CC
     rw [HX0.out] at CC
     go_wp2_with fail
     refine CC.mono ?_
     rintro e w6 ⟨v6, rfl, ho6, hn6, hc6⟩
     have HL6 : Hid (Left w w6 B sv (K.set i { x with car := 1 }) C (.slice (some ⟨g, 0, none⟩) M.length cw) M (i : Int)) := Lib.hid (HL4.out.carried HX.out HX0.out HALL.out hn6 hc6)
     have HO6 := Lib.hid ho6
     obtain ⟨a6, c6, rfl, _⟩ := Rd.of_own ho6
     obtain ⟨ay, cy, ey⟩ := rdV HL6.out.r _ (List.mem_of_getElem? HY2.out)
     dsimp only at ey
     subst ey
     have r6 := HL6.out.r.cell
     obtain ⟨g', cw', hsw, _, _, g0', _, g2'⟩ := HL6.out.r.at_ HY2.out
     obtain ⟨e1, _, e2⟩ := Value.slice.inj hsw
     obtain ⟨rfl, _, _⟩ := Addr.mk.inj (Option.some.inj e1)
     subst e2
     dsimp only at g0' g2'
     have hKi : (K.set i { x with car := 1 })[i]? = some { x with car := 1 } := List.getElem?_set_self hiK
     have HCI := Lib.hid (fun W (hW : Below w6.heap.size w6 W) => carried_in _ _ _ _ _ i { x with car := 1 } (HL6.out.mono hW).n hKi)
     have HWA : Hid (∀ W, Below w6.heap.size w6 W → Calls Try.prog 67 #[.pointer (some ⟨B, 0, none⟩)] W fun e w' => e = .returned (.int .i64 ((m : Int) - q - 1)) ∧ Below W.heap.size W w') := Lib.hid (fun W hW => by
      have h := waiting_at w.heap.size W B sv (K.set i { x with car := 1 }) (HL6.out.mono hW).below.size (HL6.out.mono hW).n (by have := HL6.out.small.1; omega)
      have e : ((waitsL (K.set i { x with car := 1 })).length : Int) = (m : Int) - q - 1 := by have := HWC.out; omega
      rw [e] at h
      exact h)
     have HR6 : Hid (∀ W, Below w6.heap.size w6 W → Rd W 1 (.slice a6 x.b.length c6) x.b.length (bV x.b) ∧ Rd W 1 (.slice ay x.b.length cy) x.b.length (bV x.b)) := Lib.hid (fun W hW => ⟨(Rd.of_own HO6.out).below hW, (HL6.out.mono hW).r.byt _ (List.mem_of_getElem? HY2.out) |>.below (HL6.out.mono hW).below⟩)
     have hlC : C < w6.heap.size := HL6.out.r.lt
     have hlg : g < w6.heap.size := ownsRow_lt HL6.out.r.row g (by simp [ob_some])
     have HG : Hid (∀ X, Below w6.heap.size w6 X → X.cell? ⟨C, 0, none⟩ = some (.slice (some ⟨g, 0, none⟩) M.length cw) ∧ X.cell? ⟨g, i * 3, none⟩ = some (.int .i64 x.to_) ∧ X.cell? ⟨g, i * 3 + 2, none⟩ = some (.slice ay x.b.length cy) ∧ Below w6.heap.size w6 X) := Lib.hid (fun X hX => ⟨(World.cell?_of_block (hX.block C hlC)).trans r6, (World.cell?_of_block (hX.block g hlg)).trans g0', (World.cell?_of_block (hX.block g hlg)).trans g2', hX⟩)
     clear ho6 hn6 hc6 CC r6 g0' g2' e1 hsw hKi r0 g0 g2
     go_wp2_with fail
     refine wp_region_held_drew (S := fun X => X.cell? ⟨C, 0, none⟩ = some (.slice (some ⟨g, 0, none⟩) M.length cw) ∧ X.cell? ⟨g, i * 3, none⟩ = some (.int .i64 x.to_) ∧ X.cell? ⟨g, i * 3 + 2, none⟩ = some (.slice ay x.b.length cy) ∧ Below w6.heap.size w6 X) (by kernel_rfl) (HG.out _ (Below.refl _ _).drew) (fun hHeld => ?_)
     refine wpAnyH_take (i := 0) (v := ?_) rfl (by kernel_rfl) (by kernel_rfl) (by kernel_rfl) (fun _ _ _ h => h) (Or.inl ⟨by rfl, ?_⟩) (by assumption) ?_
     rotate_left
     ·(intro w hSw; (try dsimp only at hSw); simp only [List.getElem_toArray, List.getElem_cons_zero, List.getElem_cons_succ]; go_simp; first | done | with_reducible rfl)
     simp only [List.getElem_toArray, List.getElem_cons_zero, List.getElem_cons_succ, Act.put, List.setIfInBounds_toArray, List.set_cons_zero, List.set_cons_succ]
     refine wpAnyH_ready (rs := [1]) (by kernel_rfl) (by simp) ?_
     refine AllReadyH.cons rfl (fun K hK => ?_) AllReadyH.nil
     simp only [List.getElem_toArray, List.getElem_cons_zero, List.getElem_cons_succ]
     go_simp
     refine (num20_any 0 _).mono ?_
     rintro e y1 ⟨rfl, rfl⟩
     dsimp only
     refine hK.out _ _ ?_ (fun hHeld => ?_)
     ·exact hHeld
     clear hK K
     try simp only [Act.put, List.setIfInBounds_toArray, List.set_cons_zero, List.set_cons_succ]
     refine wpAnyH_take (i := 2) (v := .bool false) rfl (by kernel_rfl) (by kernel_rfl) (by kernel_rfl) (fun _ _ _ h => h) (Or.inl ⟨by rfl, ?_⟩) (by assumption) ?_
     ·(intro w hSw; simp only [List.getElem_toArray, List.getElem_cons_zero, List.getElem_cons_succ]; (go_simp; first | done | simp))
     simp only [List.getElem_toArray, List.getElem_cons_zero, List.getElem_cons_succ, Act.put, List.setIfInBounds_toArray, List.set_cons_zero, List.set_cons_succ]
     refine wpAnyH_take (i := 3) (v := ?_) rfl (by kernel_rfl) (by kernel_rfl) (by kernel_rfl) (fun _ _ _ h => h) (Or.inl ⟨by rfl, ?_⟩) (by assumption) ?_
     rotate_left
     ·(intro w hSw; (try dsimp only at hSw); simp only [List.getElem_toArray, List.getElem_cons_zero, List.getElem_cons_succ]; go_simp; first | done | with_reducible rfl)
     simp only [List.getElem_toArray, List.getElem_cons_zero, List.getElem_cons_succ, Act.put, List.setIfInBounds_toArray, List.set_cons_zero, List.set_cons_succ]
     refine wpAnyH_take (i := 4) (v := ?_) rfl (by kernel_rfl) (by kernel_rfl) (by kernel_rfl) (fun _ _ _ h => h) (Or.inl ⟨by rfl, ?_⟩) (by assumption) ?_
     rotate_left
     ·(intro w hSw; (try dsimp only at hSw); simp only [List.getElem_toArray, List.getElem_cons_zero, List.getElem_cons_succ]; go_simp; first | done | with_reducible rfl)
     simp only [List.getElem_toArray, List.getElem_cons_zero, List.getElem_cons_succ, Act.put, List.setIfInBounds_toArray, List.set_cons_zero, List.set_cons_succ]
     refine wpAnyH_take (i := 5) (v := ?_) rfl (by kernel_rfl) (by kernel_rfl) (by kernel_rfl) (fun _ _ _ h => h) (Or.inl ⟨by rfl, ?_⟩) (by assumption) ?_
     rotate_left
     ·(intro w hSw; (try dsimp only at hSw); simp only [List.getElem_toArray, List.getElem_cons_zero, List.getElem_cons_succ]; go_simp; first | done | with_reducible rfl)
     simp only [List.getElem_toArray, List.getElem_cons_zero, List.getElem_cons_succ, Act.put, List.setIfInBounds_toArray, List.set_cons_zero, List.set_cons_succ]
     refine wpAnyH_take (i := 6) (v := ?_) rfl (by kernel_rfl) (by kernel_rfl) (by kernel_rfl) (fun _ _ _ h => h) (Or.inl ⟨by rfl, ?_⟩) (by assumption) ?_
     rotate_left
     ·(intro w hSw; (try dsimp only at hSw); simp only [List.getElem_toArray, List.getElem_cons_zero, List.getElem_cons_succ]; go_simp; first | done | with_reducible rfl)
     simp only [List.getElem_toArray, List.getElem_cons_zero, List.getElem_cons_succ, Act.put, List.setIfInBounds_toArray, List.set_cons_zero, List.set_cons_succ]
     refine wpAnyH_take (i := 7) (v := ?_) rfl (by kernel_rfl) (by kernel_rfl) (by kernel_rfl) (fun _ _ _ h => h) (Or.inl ⟨by rfl, ?_⟩) (by assumption) ?_
     rotate_left
     ·(intro w hSw; (try dsimp only at hSw); simp only [List.getElem_toArray, List.getElem_cons_zero, List.getElem_cons_succ]; go_simp; first | done | with_reducible rfl)
     simp only [List.getElem_toArray, List.getElem_cons_zero, List.getElem_cons_succ, Act.put, List.setIfInBounds_toArray, List.set_cons_zero, List.set_cons_succ]
     refine wpAnyH_take (i := 8) (v := ?_) rfl (by kernel_rfl) (by kernel_rfl) (by kernel_rfl) (fun _ _ _ h => h) (Or.inl ⟨by rfl, ?_⟩) (by assumption) ?_
     rotate_left
     ·(intro w hSw; (try dsimp only at hSw); simp only [List.getElem_toArray, List.getElem_cons_zero, List.getElem_cons_succ]; go_simp; first | done | with_reducible rfl)
     simp only [List.getElem_toArray, List.getElem_cons_zero, List.getElem_cons_succ, Act.put, List.setIfInBounds_toArray, List.set_cons_zero, List.set_cons_succ]
     refine wpAnyH_take (i := 9) (v := ?_) rfl (by kernel_rfl) (by kernel_rfl) (by kernel_rfl) (fun _ _ _ h => h) (Or.inl ⟨by rfl, ?_⟩) (by assumption) ?_
     rotate_left
     ·(intro w hSw; (try dsimp only at hSw); simp only [List.getElem_toArray, List.getElem_cons_zero, List.getElem_cons_succ]; go_simp; first | done | with_reducible rfl)
     simp only [List.getElem_toArray, List.getElem_cons_zero, List.getElem_cons_succ, Act.put, List.setIfInBounds_toArray, List.set_cons_zero, List.set_cons_succ]
     refine wpAnyH_take (i := 10) (v := ?_) rfl (by kernel_rfl) (by kernel_rfl) (by kernel_rfl) (fun _ _ _ h => h) (Or.inl ⟨by rfl, ?_⟩) (by assumption) ?_
     rotate_left
     ·(intro w hSw; (try dsimp only at hSw); simp only [List.getElem_toArray, List.getElem_cons_zero, List.getElem_cons_succ]; go_simp; first | done | with_reducible rfl)
     simp only [List.getElem_toArray, List.getElem_cons_zero, List.getElem_cons_succ, Act.put, List.setIfInBounds_toArray, List.set_cons_zero, List.set_cons_succ]
     refine wpAnyH_take (i := 11) (v := ?_) rfl (by kernel_rfl) (by kernel_rfl) (by kernel_rfl) (fun _ _ _ h => h) (Or.inl ⟨by rfl, ?_⟩) (by assumption) ?_
     rotate_left
     ·(intro w hSw; (try dsimp only at hSw); simp only [List.getElem_toArray, List.getElem_cons_zero, List.getElem_cons_succ]; go_simp; first | done | with_reducible rfl)
     simp only [List.getElem_toArray, List.getElem_cons_zero, List.getElem_cons_succ, Act.put, List.setIfInBounds_toArray, List.set_cons_zero, List.set_cons_succ]
     refine wpAnyH_take (i := 12) (v := ?_) rfl (by kernel_rfl) (by kernel_rfl) (by kernel_rfl) (fun _ _ _ h => h) (Or.inl ⟨by rfl, ?_⟩) (by assumption) ?_
     rotate_left
     ·(intro w hSw; (try dsimp only at hSw); simp only [List.getElem_toArray, List.getElem_cons_zero, List.getElem_cons_succ]; go_simp; first | done | with_reducible rfl)
     simp only [List.getElem_toArray, List.getElem_cons_zero, List.getElem_cons_succ, Act.put, List.setIfInBounds_toArray, List.set_cons_zero, List.set_cons_succ]
     refine wpAnyH_take (i := 13) (v := .bool false) rfl (by kernel_rfl) (by kernel_rfl) (by kernel_rfl) (fun _ _ _ h => h) (Or.inl ⟨by rfl, ?_⟩) (by assumption) ?_
     ·(intro w hSw; simp only [List.getElem_toArray, List.getElem_cons_zero, List.getElem_cons_succ]; (go_simp; first | done | simp))
     simp only [List.getElem_toArray, List.getElem_cons_zero, List.getElem_cons_succ, Act.put, List.setIfInBounds_toArray, List.set_cons_zero, List.set_cons_succ]
     refine wpAnyH_take (i := 14) (v := ?_) rfl (by kernel_rfl) (by kernel_rfl) (by kernel_rfl) (fun _ _ _ h => h) (Or.inl ⟨by rfl, ?_⟩) (by assumption) ?_
     rotate_left
     ·(intro w hSw; (try dsimp only at hSw); simp only [List.getElem_toArray, List.getElem_cons_zero, List.getElem_cons_succ]; go_simp; first | done | with_reducible rfl)
     simp only [List.getElem_toArray, List.getElem_cons_zero, List.getElem_cons_succ, Act.put, List.setIfInBounds_toArray, List.set_cons_zero, List.set_cons_succ]
     refine wpAnyH_take (i := 15) (v := ?_) rfl (by kernel_rfl) (by kernel_rfl) (by kernel_rfl) (fun _ _ _ h => h) (Or.inl ⟨by rfl, ?_⟩) (by assumption) ?_
     rotate_left
     ·(intro w hSw; (try dsimp only at hSw); simp only [List.getElem_toArray, List.getElem_cons_zero, List.getElem_cons_succ]; go_simp; first | done | with_reducible rfl)
     simp only [List.getElem_toArray, List.getElem_cons_zero, List.getElem_cons_succ, Act.put, List.setIfInBounds_toArray, List.set_cons_zero, List.set_cons_succ]
     refine wpAnyH_take (i := 16) (v := ?_) rfl (by kernel_rfl) (by kernel_rfl) (by kernel_rfl) (fun _ _ _ h => h) (Or.inl ⟨by rfl, ?_⟩) (by assumption) ?_
     rotate_left
     ·(intro w hSw; (try dsimp only at hSw); simp only [List.getElem_toArray, List.getElem_cons_zero, List.getElem_cons_succ]; go_simp; first | done | with_reducible rfl)
     simp only [List.getElem_toArray, List.getElem_cons_zero, List.getElem_cons_succ, Act.put, List.setIfInBounds_toArray, List.set_cons_zero, List.set_cons_succ]
     refine wpAnyH_take (i := 17) (v := .string (strB x.b)) rfl (by kernel_rfl) (by kernel_rfl) (by kernel_rfl) (fun _ _ _ h => h) (Or.inl ⟨by rfl, ?_⟩) (by assumption) ?_
     ·(intro w hSw; simp only [List.getElem_toArray, List.getElem_cons_zero, List.getElem_cons_succ]; (go_simp; exact run_textN w _ _ _ (HR6.out _ hSw.2.2.2).1))
     simp only [List.getElem_toArray, List.getElem_cons_zero, List.getElem_cons_succ, Act.put, List.setIfInBounds_toArray, List.set_cons_zero, List.set_cons_succ]
     refine wpAnyH_take (i := 18) (v := ?_) rfl (by kernel_rfl) (by kernel_rfl) (by kernel_rfl) (fun _ _ _ h => h) (Or.inl ⟨by rfl, ?_⟩) (by assumption) ?_
     rotate_left
     ·(intro w hSw; (try dsimp only at hSw); simp only [List.getElem_toArray, List.getElem_cons_zero, List.getElem_cons_succ]; go_simp; first | done | with_reducible rfl)
     simp only [List.getElem_toArray, List.getElem_cons_zero, List.getElem_cons_succ, Act.put, List.setIfInBounds_toArray, List.set_cons_zero, List.set_cons_succ]
     refine wpAnyH_take (i := 19) (v := ?_) rfl (by kernel_rfl) (by kernel_rfl) (by kernel_rfl) (fun _ _ _ h => h) (Or.inl ⟨by rfl, ?_⟩) (by assumption) ?_
     rotate_left
     ·(intro w hSw; (try dsimp only at hSw); simp only [List.getElem_toArray, List.getElem_cons_zero, List.getElem_cons_succ]; go_simp; first | done | with_reducible rfl)
     simp only [List.getElem_toArray, List.getElem_cons_zero, List.getElem_cons_succ, Act.put, List.setIfInBounds_toArray, List.set_cons_zero, List.set_cons_succ]
     refine wpAnyH_take (i := 20) (v := ?_) rfl (by kernel_rfl) (by kernel_rfl) (by kernel_rfl) (fun _ _ _ h => h) (Or.inl ⟨by rfl, ?_⟩) (by assumption) ?_
     rotate_left
     ·(intro w hSw; (try dsimp only at hSw); simp only [List.getElem_toArray, List.getElem_cons_zero, List.getElem_cons_succ]; go_simp; first | done | with_reducible rfl)
     simp only [List.getElem_toArray, List.getElem_cons_zero, List.getElem_cons_succ, Act.put, List.setIfInBounds_toArray, List.set_cons_zero, List.set_cons_succ]
     refine wpAnyH_take (i := 21) (v := ?_) rfl (by kernel_rfl) (by kernel_rfl) (by kernel_rfl) (fun _ _ _ h => h) (Or.inl ⟨by rfl, ?_⟩) (by assumption) ?_
     rotate_left
     ·(intro w hSw; (try dsimp only at hSw); simp only [List.getElem_toArray, List.getElem_cons_zero, List.getElem_cons_succ]; go_simp; first | done | with_reducible rfl)
     simp only [List.getElem_toArray, List.getElem_cons_zero, List.getElem_cons_succ, Act.put, List.setIfInBounds_toArray, List.set_cons_zero, List.set_cons_succ]
     refine wpAnyH_take (i := 22) (v := ?_) rfl (by kernel_rfl) (by kernel_rfl) (by kernel_rfl) (fun _ _ _ h => h) (Or.inl ⟨by rfl, ?_⟩) (by assumption) ?_
     rotate_left
     ·(intro w hSw; (try dsimp only at hSw); simp only [List.getElem_toArray, List.getElem_cons_zero, List.getElem_cons_succ]; go_simp; first | done | with_reducible rfl)
     simp only [List.getElem_toArray, List.getElem_cons_zero, List.getElem_cons_succ, Act.put, List.setIfInBounds_toArray, List.set_cons_zero, List.set_cons_succ]
     refine wpAnyH_take (i := 23) (v := ?_) rfl (by kernel_rfl) (by kernel_rfl) (by kernel_rfl) (fun _ _ _ h => h) (Or.inl ⟨by rfl, ?_⟩) (by assumption) ?_
     rotate_left
     ·(intro w hSw; (try dsimp only at hSw); simp only [List.getElem_toArray, List.getElem_cons_zero, List.getElem_cons_succ]; go_simp; first | done | with_reducible rfl)
     simp only [List.getElem_toArray, List.getElem_cons_zero, List.getElem_cons_succ, Act.put, List.setIfInBounds_toArray, List.set_cons_zero, List.set_cons_succ]
     refine wpAnyH_take (i := 24) (v := ?_) rfl (by kernel_rfl) (by kernel_rfl) (by kernel_rfl) (fun _ _ _ h => h) (Or.inl ⟨by rfl, ?_⟩) (by assumption) ?_
     rotate_left
     ·(intro w hSw; (try dsimp only at hSw); simp only [List.getElem_toArray, List.getElem_cons_zero, List.getElem_cons_succ]; go_simp; first | done | with_reducible rfl)
     simp only [List.getElem_toArray, List.getElem_cons_zero, List.getElem_cons_succ, Act.put, List.setIfInBounds_toArray, List.set_cons_zero, List.set_cons_succ]
     refine wpAnyH_take (i := 25) (v := ?_) rfl (by kernel_rfl) (by kernel_rfl) (by kernel_rfl) (fun _ _ _ h => h) (Or.inl ⟨by rfl, ?_⟩) (by assumption) ?_
     rotate_left
     ·(intro w hSw; (try dsimp only at hSw); simp only [List.getElem_toArray, List.getElem_cons_zero, List.getElem_cons_succ]; go_simp; first | done | with_reducible rfl)
     simp only [List.getElem_toArray, List.getElem_cons_zero, List.getElem_cons_succ, Act.put, List.setIfInBounds_toArray, List.set_cons_zero, List.set_cons_succ]
     refine wpAnyH_take (i := 26) (v := .string (strB x.b)) rfl (by kernel_rfl) (by kernel_rfl) (by kernel_rfl) (fun _ _ _ h => h) (Or.inl ⟨by rfl, ?_⟩) (by assumption) ?_
     ·(intro w hSw; simp only [List.getElem_toArray, List.getElem_cons_zero, List.getElem_cons_succ]; (go_simp; exact run_textN w _ _ _ (HR6.out _ hSw.2.2.2).2))
     simp only [List.getElem_toArray, List.getElem_cons_zero, List.getElem_cons_succ, Act.put, List.setIfInBounds_toArray, List.set_cons_zero, List.set_cons_succ]
     refine wpAnyH_take (i := 27) (v := .bool false) rfl (by kernel_rfl) (by kernel_rfl) (by kernel_rfl) (fun _ _ _ h => h) (Or.inl ⟨by rfl, ?_⟩) (by assumption) ?_
     ·(intro w hSw; simp only [List.getElem_toArray, List.getElem_cons_zero, List.getElem_cons_succ]; (go_simp; first | done | simp))
     simp only [List.getElem_toArray, List.getElem_cons_zero, List.getElem_cons_succ, Act.put, List.setIfInBounds_toArray, List.set_cons_zero, List.set_cons_succ]
     refine wpAnyH_take (i := 28) (v := ?_) rfl (by kernel_rfl) (by kernel_rfl) (by kernel_rfl) (fun _ _ _ h => h) (Or.inl ⟨by rfl, ?_⟩) (by assumption) ?_
     rotate_left
     ·(intro w hSw; (try dsimp only at hSw); simp only [List.getElem_toArray, List.getElem_cons_zero, List.getElem_cons_succ]; go_simp; first | done | with_reducible rfl)
     simp only [List.getElem_toArray, List.getElem_cons_zero, List.getElem_cons_succ, Act.put, List.setIfInBounds_toArray, List.set_cons_zero, List.set_cons_succ]
     refine wpAnyH_take (i := 29) (v := ?_) rfl (by kernel_rfl) (by kernel_rfl) (by kernel_rfl) (fun _ _ _ h => h) (Or.inl ⟨by rfl, ?_⟩) (by assumption) ?_
     rotate_left
     ·(intro w hSw; (try dsimp only at hSw); simp only [List.getElem_toArray, List.getElem_cons_zero, List.getElem_cons_succ]; go_simp; first | done | with_reducible rfl)
     simp only [List.getElem_toArray, List.getElem_cons_zero, List.getElem_cons_succ, Act.put, List.setIfInBounds_toArray, List.set_cons_zero, List.set_cons_succ]
     refine wpAnyH_take (i := 30) (v := ?_) rfl (by kernel_rfl) (by kernel_rfl) (by kernel_rfl) (fun _ _ _ h => h) (Or.inl ⟨by rfl, ?_⟩) (by assumption) ?_
     rotate_left
     ·(intro w hSw; (try dsimp only at hSw); simp only [List.getElem_toArray, List.getElem_cons_zero, List.getElem_cons_succ]; go_simp; first | done | with_reducible rfl)
     simp only [List.getElem_toArray, List.getElem_cons_zero, List.getElem_cons_succ, Act.put, List.setIfInBounds_toArray, List.set_cons_zero, List.set_cons_succ]
     refine wpAnyH_take (i := 31) (v := ?_) rfl (by kernel_rfl) (by kernel_rfl) (by kernel_rfl) (fun _ _ _ h => h) (Or.inl ⟨by rfl, ?_⟩) (by assumption) ?_
     rotate_left
     ·(intro w hSw; (try dsimp only at hSw); simp only [List.getElem_toArray, List.getElem_cons_zero, List.getElem_cons_succ]; go_simp; first | done | with_reducible rfl)
     simp only [List.getElem_toArray, List.getElem_cons_zero, List.getElem_cons_succ, Act.put, List.setIfInBounds_toArray, List.set_cons_zero, List.set_cons_succ]
     refine wpAnyH_ready (rs := [32]) (by kernel_rfl) (by simp) ?_
     refine AllReadyH.cons rfl (fun K hK => ?_) AllReadyH.nil
     simp only [List.getElem_toArray, List.getElem_cons_zero, List.getElem_cons_succ]
     go_simp
     refine (HCI.out _ hHeld.2.2.2).mono ?_
     rintro e y2 ⟨rfl, rfl⟩
     dsimp only
     refine hK.out _ _ ?_ (fun hHeld => ?_)
     ·exact hHeld
     clear hK K
     try simp only [Act.put, List.setIfInBounds_toArray, List.set_cons_zero, List.set_cons_succ]
     refine wpAnyH_take (i := 33) (v := .bool false) rfl (by kernel_rfl) (by kernel_rfl) (by kernel_rfl) (fun _ _ _ h => h) (Or.inl ⟨by rfl, ?_⟩) (by assumption) ?_
     ·(intro w hSw; simp only [List.getElem_toArray, List.getElem_cons_zero, List.getElem_cons_succ]; (go_simp; first | done | simp))
     simp only [List.getElem_toArray, List.getElem_cons_zero, List.getElem_cons_succ, Act.put, List.setIfInBounds_toArray, List.set_cons_zero, List.set_cons_succ]
     have hwr1 : IntKind.i64.wrap ((m : Int) - (q : Int)) = (m : Int) - q := IntWalk.i64_in _ (by omega)
     have hwr2 : IntKind.i64.wrap ((m : Int) - (q : Int) - 1) = (m : Int) - q - 1 := IntWalk.i64_in _ (by omega)
     refine wpAnyH_take (i := 34) (v := ?_) rfl (by kernel_rfl) (by kernel_rfl) (by kernel_rfl) (fun _ _ _ h => h) (Or.inl ⟨by rfl, ?_⟩) (by assumption) ?_
     rotate_left
     ·(intro w hSw; (try dsimp only at hSw); simp only [List.getElem_toArray, List.getElem_cons_zero, List.getElem_cons_succ]; go_simp; first | done | with_reducible rfl)
     simp only [List.getElem_toArray, List.getElem_cons_zero, List.getElem_cons_succ, Act.put, List.setIfInBounds_toArray, List.set_cons_zero, List.set_cons_succ]
     refine wpAnyH_take (i := 35) (v := ?_) rfl (by kernel_rfl) (by kernel_rfl) (by kernel_rfl) (fun _ _ _ h => h) (Or.inl ⟨by rfl, ?_⟩) (by assumption) ?_
     rotate_left
     ·(intro w hSw; (try dsimp only at hSw); simp only [List.getElem_toArray, List.getElem_cons_zero, List.getElem_cons_succ]; go_simp; first | done | with_reducible rfl)
     simp only [List.getElem_toArray, List.getElem_cons_zero, List.getElem_cons_succ, Act.put, List.setIfInBounds_toArray, List.set_cons_zero, List.set_cons_succ]
     refine wpAnyH_take (i := 36) (v := ?_) rfl (by kernel_rfl) (by kernel_rfl) (by kernel_rfl) (fun _ _ _ h => h) (Or.inl ⟨by rfl, ?_⟩) (by assumption) ?_
     rotate_left
     ·(intro w hSw; (try dsimp only at hSw); simp only [List.getElem_toArray, List.getElem_cons_zero, List.getElem_cons_succ]; go_simp; first | done | with_reducible rfl)
     simp only [List.getElem_toArray, List.getElem_cons_zero, List.getElem_cons_succ, Act.put, List.setIfInBounds_toArray, List.set_cons_zero, List.set_cons_succ]
     refine wpAnyH_take (i := 38) (v := ?_) rfl (by kernel_rfl) (by kernel_rfl) (by kernel_rfl) (fun _ _ _ h => h) (Or.inl ⟨by rfl, ?_⟩) (by assumption) ?_
     rotate_left
     ·(intro w hSw; (try dsimp only at hSw); simp only [List.getElem_toArray, List.getElem_cons_zero, List.getElem_cons_succ]; go_simp; first | done | with_reducible rfl)
     simp only [List.getElem_toArray, List.getElem_cons_zero, List.getElem_cons_succ, Act.put, List.setIfInBounds_toArray, List.set_cons_zero, List.set_cons_succ]
     refine wpAnyH_take (i := 39) (v := ?_) rfl (by kernel_rfl) (by kernel_rfl) (by kernel_rfl) (fun _ _ _ h => h) (Or.inl ⟨by rfl, ?_⟩) (by assumption) ?_
     rotate_left
     ·(intro w hSw; (try dsimp only at hSw); simp only [List.getElem_toArray, List.getElem_cons_zero, List.getElem_cons_succ]; go_simp; first | done | with_reducible rfl)
     simp only [List.getElem_toArray, List.getElem_cons_zero, List.getElem_cons_succ, Act.put, List.setIfInBounds_toArray, List.set_cons_zero, List.set_cons_succ]
     refine wpAnyH_take (i := 40) (v := ?_) rfl (by kernel_rfl) (by kernel_rfl) (by kernel_rfl) (fun _ _ _ h => h) (Or.inl ⟨by rfl, ?_⟩) (by assumption) ?_
     rotate_left
     ·(intro w hSw; (try dsimp only at hSw); simp only [List.getElem_toArray, List.getElem_cons_zero, List.getElem_cons_succ]; go_simp; first | done | with_reducible rfl)
     simp only [List.getElem_toArray, List.getElem_cons_zero, List.getElem_cons_succ, Act.put, List.setIfInBounds_toArray, List.set_cons_zero, List.set_cons_succ]
     refine wpAnyH_take (i := 41) (v := ?_) rfl (by kernel_rfl) (by kernel_rfl) (by kernel_rfl) (fun _ _ _ h => h) (Or.inl ⟨by rfl, ?_⟩) (by assumption) ?_
     rotate_left
     ·(intro w hSw; (try dsimp only at hSw); simp only [List.getElem_toArray, List.getElem_cons_zero, List.getElem_cons_succ]; go_simp; first | done | with_reducible rfl)
     simp only [List.getElem_toArray, List.getElem_cons_zero, List.getElem_cons_succ, Act.put, List.setIfInBounds_toArray, List.set_cons_zero, List.set_cons_succ]
     refine wpAnyH_ready (rs := [37]) (by kernel_rfl) (by simp) ?_
     refine AllReadyH.cons rfl (fun K hK => ?_) AllReadyH.nil
     simp only [List.getElem_toArray, List.getElem_cons_zero, List.getElem_cons_succ]
     go_simp
     refine (HWA.out _ hHeld.2.2.2).mono ?_
     rintro e y3 ⟨rfl, hb7⟩
     dsimp only
     refine hK.out _ _ ?_ (fun hHeld => ?_)
     ·exact HG.out _ (bthen hHeld.2.2.2 hb7)
     clear hK K
     try simp only [Act.put, List.setIfInBounds_toArray, List.set_cons_zero, List.set_cons_succ]
     refine wpAnyH_take (i := 42) (v := .bool false) rfl (by kernel_rfl) (by kernel_rfl) (by kernel_rfl) (fun _ _ _ h => h) (Or.inl ⟨by rfl, ?_⟩) (by assumption) ?_
     ·(intro w hSw; simp only [List.getElem_toArray, List.getElem_cons_zero, List.getElem_cons_succ]; (go_simp; first | done | simp))
     simp only [List.getElem_toArray, List.getElem_cons_zero, List.getElem_cons_succ, Act.put, List.setIfInBounds_toArray, List.set_cons_zero, List.set_cons_succ]
     refine wpAnyH_take (i := 43) (v := ?_) rfl (by kernel_rfl) (by kernel_rfl) (by kernel_rfl) (fun _ _ _ h => h) (Or.inl ⟨by rfl, ?_⟩) (by assumption) ?_
     rotate_left
     ·(intro w hSw; (try dsimp only at hSw); simp only [List.getElem_toArray, List.getElem_cons_zero, List.getElem_cons_succ]; go_simp; first | done | with_reducible rfl)
     simp only [List.getElem_toArray, List.getElem_cons_zero, List.getElem_cons_succ, Act.put, List.setIfInBounds_toArray, List.set_cons_zero, List.set_cons_succ]
     refine wpAnyH_done (by kernel_rfl) ?_ _
     have HL7 := Lib.hid (HL6.out.mono hHeld.2.2.2)
     clear hwr1 hwr2 hHeld
     go_wp2_with fail
     go_roundw
     case rel => exact ⟨q + 1, (i : Int), by omega, by go_num, rfl, _, HL7.out, HWC.out⟩
     case measure => simp [intOf]; omega
    ·obtain rfl : q = m := by omega
     have hws : waitsL K = [] := List.eq_nil_of_length_eq_zero (by omega)
     go_wp2_with fail
     refine CX.mono ?_
     rintro e w4 ⟨hb4, hP⟩
     obtain rfl : e = .returned (.tuple #[.int .i64 0, .bool false]) := by
      rcases hP with ⟨i, x, hx, hx0, _, _⟩ | ⟨_, h⟩
      ·exact absurd hx0 (waits_none hws i x hx)
      ·exact h
     have HB4 := Lib.hid (bthen HB0.out (bthen HL.out.below hb4))
     clear hP hb4 CX
     go_wp2_with fail
     go_ret
     exact ⟨rfl, HB4.out⟩
end Go.Proofs.Ytgkelbdgdhkeoaa
