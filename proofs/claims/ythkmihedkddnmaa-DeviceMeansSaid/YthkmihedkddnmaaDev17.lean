/- Devices: size, walked. -/
import Derived.Test.YthkmihedkddnmaaDev16
namespace Go.Proofs.Ythkmihedkddnmaa
open Go.RowKit Go.Maps Wire Cmd
set_option linter.unusedVariables false
set_option linter.unusedSimpArgs false

theorem delA_insA {α : Type} {n : Nat} {a : α} : ∀ {l : List (Nat × α)}, delA n (insA (n, a) l) = delA n l
  | [] => by simp [insA, delA]
  | y :: r => by
    have ih := delA_insA (n := n) (a := a) (l := r)
    unfold insA
    split
    · unfold delA
      rw [List.filter_cons]
      simp
    · unfold delA at ih ⊢
      rw [List.filter_cons, List.filter_cons, ih]
theorem delA_delA {α : Type} (n : Nat) (l : List (Nat × α)) : delA n (delA n l) = delA n l := by
  unfold delA
  rw [List.filter_filter]
  simp
theorem putA_putA {α : Type} (n : Nat) (a b : α) (l : List (Nat × α)) : putA n a (putA n b l) = putA n a l := by
  unfold putA
  rw [delA_insA, delA_delA]
theorem drop_size {v : Vl} (h : v.Ok) (sz : Int) : dropA sz 1073741824 v.m = v.m.filter fun q => decide ((q.1 : Int) < sz) := by
  unfold dropA
  refine List.filter_congr fun q hq => ?_
  have h1 := h.lt q hq
  have h2 := h.size
  rw [Bool.eq_iff_iff]
  simp only [Bool.or_eq_true, decide_eq_true_eq]
  omega

set_option maxRecDepth 100000 in
set_option maxHeartbeats 6400000 in
theorem dresize_at (n0 : Nat) (w : World) (B Ba : Nat) (l : List (Nat × (Vl × Nat))) (h : DevAt n0 w B Ba l) (o : Op0) (ao : Option Addr) (cap : Nat) (b : Int) (hn : o.data.length ≤ 9223372036854775807) (hmay : mayO o = true) (hk : o.k = 3) (x : Vl × Nat) (hg : getA o.vol l = some x) :
    Calls Try.prog 25 #[.pointer (some ⟨B, 0, none⟩), .agg (oC o (.slice ao o.data.length cap)), .int .i64 b] w fun e w' => e = .returned (ansE 0 0) ∧ DevAt n0 w' B Ba (putA o.vol (⟨o.size.toNat, dropA o.size 1073741824 x.1.m⟩, x.2) l) ∧ Mods [Ba, x.2] w w' := by
  have HH := Lib.hid h
  have HG := Lib.hid hg
  have HVOL := Lib.hid (may_vol hmay (by omega))
  have hsize := may_size hmay (.inr hk)
  have HS : Hid (((o.size.toNat : Nat) : Int) = o.size ∧ o.size.toNat ≤ 256) := Lib.hid ⟨by omega, by omega⟩
  have HVOK := Lib.hid (h.ok.vol (o.vol, x.1) (by unfold strip mapA; exact List.mem_map.2 ⟨_, getA_some hg, rfl⟩))
  have HXB : Hid (x.2 < w.heap.size) := Lib.hid ((h.vol _ (getA_some hg)).lt)
  have HPV : Hid (partV o = .iface 3 (.int .i64 o.size)) := Lib.hid (by unfold partV; rw [if_pos (.inr hk)])
  obtain ⟨sl, hsl⟩ : ∃ s, Value.slice ao o.data.length cap = s := ⟨_, rfl⟩
  have CP : Hid (∀ X, Calls Try.prog 34 #[.agg (oC o sl)] X fun e w' => e = .returned (.iface 3 (.int .i64 o.size)) ∧ Below X.heap.size X w') := Lib.hid (fun X => by rw [← hsl, ← HPV.out]; exact part13_any o ao cap X hn)
  rw [hsl]
  clear hsl hsize h hk hmay hn hg
  obtain ⟨w2, hw2⟩ : ∃ W, (w.alloc (.cells #[.int .i64 o.k, .int .u64 (o.vol : Int), .int .u64 (o.to : Int), .int .i64 o.size, .int .i64 o.pl, .int .i64 o.count, sl] 27)).alloc (.cells #[.int .i64 0, .int .i64 0, .slice none 0 0] 35) = W := ⟨_, rfl⟩
  have HBX : Hid (Boxes w w2 (oC o sl)) := Lib.hid (by rw [← hw2]; exact boxes w (oC o sl))
  have HD2 := Lib.hid (HH.out.below HBX.out.bel)
  have HX2 := Lib.hid HBX.out.op
  have HLT := Lib.hid (Array.getElem?_eq_some_iff.1 HX2.out).1
  have HLK : Hid (∀ X, Below w2.heap.size w2 X → (Instr.lookup 47 (.map (some Ba)) (.int .u64 (o.vol : Int)) false).run Try.prog X = .ok (.agg #[.int .i64 (x.1.size : Int), .map (some x.2)]) X) := Lib.hid (fun X hX => ((HD2.out.below hX).look (Nat.lt_trans HVOL.out.2 (by decide)) HG.out).2)
  rw [show (oC o sl) = #[.int .i64 o.k, .int .u64 (o.vol : Int), .int .u64 (o.to : Int), .int .i64 o.size, .int .i64 o.pl, .int .i64 o.count, sl] from rfl]
  have t1 := is_int
  go_enter Try.func25, Try.ntmps25
  go_upto_region 1 with fail
  (try rw [hw2])
  clear hw2
  have HSS : Hid (∀ X, Below w2.heap.size w2 X → (X.cell? ⟨B, 0, none⟩ = some (.map (some Ba)) ∧ X.cell? ⟨w.heap.size, 1, none⟩ = some (.int .u64 (o.vol : Int))) ∧ Below w2.heap.size w2 X) := Lib.hid (fun X hb => ⟨⟨(World.cell?_of_block (hb.block _ (HD2.out.lt))).trans (HD2.out.cell), (World.cell?_of_block (hb.block _ (HLT.out))).trans (cellOf HX2.out 1 rfl)⟩, hb⟩)
  refine wp_region_held_drew (S := fun X => (X.cell? ⟨B, 0, none⟩ = some (.map (some Ba)) ∧ X.cell? ⟨w.heap.size, 1, none⟩ = some (.int .u64 (o.vol : Int))) ∧ Below w2.heap.size w2 X) (by kernel_rfl) (HSS.out _ (Below.refl _ _).drew) (fun hHeld => ?_)
  have hbe : Below w2.heap.size w2 w2.drew := (Below.refl _ _).drew
  obtain ⟨wd, hwd⟩ : ∃ y, w2.drew = y := ⟨_, rfl⟩
  rw [hwd] at hHeld hbe ⊢
  have HBE := Lib.hid hbe
  have HS0 : Hid (w2.heap.size ≤ wd.heap.size) := Lib.hid HBE.out.size
  clear hwd hbe
  refine wpAnyH_take (i := 0) (v := ?_) rfl (by kernel_rfl) (by kernel_rfl) (by kernel_rfl) (fun _ _ _ h => h) (Or.inl ⟨by rfl, ?_⟩) (by assumption) ?_
  rotate_left
  · (intro w hSw; (try dsimp only at hSw); simp only [List.getElem_toArray, List.getElem_cons_zero, List.getElem_cons_succ]; go_simp; first | done | with_reducible rfl)
  simp only [List.getElem_toArray, List.getElem_cons_zero, List.getElem_cons_succ, Act.put, List.setIfInBounds_toArray, List.set_cons_zero, List.set_cons_succ]
  refine wpAnyH_take (i := 4) (v := ?_) rfl (by kernel_rfl) (by kernel_rfl) (by kernel_rfl) (fun _ _ _ h => h) (Or.inl ⟨by rfl, ?_⟩) (by assumption) ?_
  rotate_left
  · (intro w hSw; (try dsimp only at hSw); simp only [List.getElem_toArray, List.getElem_cons_zero, List.getElem_cons_succ]; go_simp; first | done | with_reducible rfl)
  simp only [List.getElem_toArray, List.getElem_cons_zero, List.getElem_cons_succ, Act.put, List.setIfInBounds_toArray, List.set_cons_zero, List.set_cons_succ]
  refine wpAnyH_take (i := 1) (v := ?_) rfl (by kernel_rfl) (by kernel_rfl) (by kernel_rfl) (fun _ _ _ h => h) (Or.inl ⟨by rfl, ?_⟩) (by assumption) ?_
  rotate_left
  · (intro w hSw; (try dsimp only at hSw); simp only [List.getElem_toArray, List.getElem_cons_zero, List.getElem_cons_succ]; go_simp; first | done | with_reducible rfl)
  simp only [List.getElem_toArray, List.getElem_cons_zero, List.getElem_cons_succ, Act.put, List.setIfInBounds_toArray, List.set_cons_zero, List.set_cons_succ]
  refine wpAnyH_take (i := 5) (v := ?_) rfl (by kernel_rfl) (by kernel_rfl) (by kernel_rfl) (fun _ _ _ h => h) (Or.inl ⟨by rfl, ?_⟩) (by assumption) ?_
  rotate_left
  · (intro w hSw; (try dsimp only at hSw); simp only [List.getElem_toArray, List.getElem_cons_zero, List.getElem_cons_succ]; go_simp; first | done | with_reducible rfl)
  simp only [List.getElem_toArray, List.getElem_cons_zero, List.getElem_cons_succ, Act.put, List.setIfInBounds_toArray, List.set_cons_zero, List.set_cons_succ]
  refine wpAnyH_take (i := 2) (v := ?_) rfl (by kernel_rfl) (by kernel_rfl) (by kernel_rfl) (fun _ _ _ h => h) (Or.inl ⟨by rfl, ?_⟩) (by assumption) ?_
  rotate_left
  · (intro w hSw; (try dsimp only at hSw); simp only [List.getElem_toArray, List.getElem_cons_zero, List.getElem_cons_succ]; go_simp; first | done | with_reducible rfl)
  simp only [List.getElem_toArray, List.getElem_cons_zero, List.getElem_cons_succ, Act.put, List.setIfInBounds_toArray, List.set_cons_zero, List.set_cons_succ]
  refine wpAnyH_take (i := 3) (v := ?_) rfl (by kernel_rfl) (by kernel_rfl) (by kernel_rfl) (fun _ _ _ h => h) (Or.inl ⟨by rfl, ?_⟩) (by assumption) ?_
  rotate_left
  · (intro w hSw; (try dsimp only at hSw); simp only [List.getElem_toArray, List.getElem_cons_zero, List.getElem_cons_succ]; go_simp; first | done | with_reducible rfl)
  simp only [List.getElem_toArray, List.getElem_cons_zero, List.getElem_cons_succ, Act.put, List.setIfInBounds_toArray, List.set_cons_zero, List.set_cons_succ]
  refine wpAnyH_take (i := 6) (v := .agg #[.int .i64 (x.1.size : Int), .map (some x.2)]) rfl (by kernel_rfl) (by kernel_rfl) (by kernel_rfl) (fun _ _ _ h => h) (Or.inl ⟨by rfl, ?_⟩) (by assumption) ?_
  · (intro w hSw; simp only [List.getElem_toArray, List.getElem_cons_zero, List.getElem_cons_succ]; (have h6 := HLK.out w hSw.2; go_simp; first | done | with_reducible rfl))
  simp only [List.getElem_toArray, List.getElem_cons_zero, List.getElem_cons_succ, Act.put, List.setIfInBounds_toArray, List.set_cons_zero, List.set_cons_succ]
  refine wpAnyH_ready (rs := [7]) (by kernel_rfl) (by simp) ?_
  refine AllReadyH.cons rfl (fun K hK => ?_) (AllReadyH.nil)
  simp only [List.getElem_toArray, List.getElem_cons_zero, List.getElem_cons_succ]
  go_simp
  obtain ⟨b7, hw7⟩ : ∃ b, wd.heap.size = b := ⟨_, rfl⟩
  obtain ⟨y7, hy7⟩ : ∃ y, wd.alloc (.cells #[.int .i64 0, .map none] 53) = y := ⟨_, rfl⟩
  rw [hy7, hw7]
  have hx7 : Below wd.heap.size wd y7 := by rw [← hy7]; exact balloc (Below.refl _ _) _
  have HN7 : Hid (y7.heap[b7]? = some (.cells #[.int .i64 0, .map none] 53 (0, 0))) := Lib.hid (by rw [← hy7, ← hw7]; exact heap_alloc_new _ _)
  have HG7 : Hid (w2.heap.size ≤ b7) := Lib.hid (by have := HBE.out.size; omega)
  clear hy7 hw7
  have HBE := Lib.hid (bthen HBE.out hx7)
  have hSp := HSS.out _ HBE.out
  clear hHeld
  refine hK.out _ _ hSp (fun hHeld => ?_)
  clear hSp hK K
  try simp only [Act.put, List.setIfInBounds_toArray, List.set_cons_zero, List.set_cons_succ]
  clear hx7
  refine wpAnyH_ready (rs := [8]) (by kernel_rfl) (by simp) ?_
  refine AllReadyH.cons rfl (fun K hK => ?_) (AllReadyH.nil)
  have hc8_0 := cellOf HN7.out 0 rfl
  have hf8_0 := frozenOf HN7.out 0
  have hc8_1 := cellOf HN7.out 1 rfl
  have hf8_1 := frozenOf HN7.out 1
  simp only [List.getElem_toArray, List.getElem_cons_zero, List.getElem_cons_succ]
  go_simp
  obtain ⟨y8, hy8⟩ : ∃ y, ((y7.setCell ⟨b7, 0, none⟩ (.int .i64 (x.1.size : Int))).setCell ⟨b7, 1, none⟩ (.map (some x.2))) = y := ⟨_, rfl⟩
  rw [hy8]
  have hm8 : Mods [b7] y7 y8 := by rw [← hy8]; exact ((Mods.refl [b7] y7).setCell (p := ⟨b7, 0, none⟩) (by simp) _).setCell (p := ⟨b7, 1, none⟩) (by simp) _
  have hv8 := setOf (setOf (HN7.out) 0 (.int .i64 (x.1.size : Int))) 1 (.map (some x.2))
  rw [hy8] at hv8
  clear hy8 hc8_0 hf8_0 hc8_1 hf8_1
  have HBE : Hid (Below w2.heap.size w2 y8) := Lib.hid (HBE.out.trans (hm8.below (fun k hk => by have := HG7.out; have e := List.mem_singleton.1 hk; omega) HBE.out.size))
  have hSp := HSS.out _ HBE.out
  clear hHeld
  refine hK.out _ _ hSp (fun hHeld => ?_)
  clear hSp hK K
  try simp only [Act.put, List.setIfInBounds_toArray, List.set_cons_zero, List.set_cons_succ]
  simp only [List.setIfInBounds_toArray, List.set_cons_zero, List.set_cons_succ] at hv8
  have HN7 := Lib.hid hv8
  clear hv8 hm8
  refine wpAnyH_done (by kernel_rfl) ?_ _
  have HEND := Lib.hid hHeld.2
  have HSE := Lib.hid hHeld.1
  clear hHeld
  have HBL := Lib.hid HEND.out
  clear HEND HSE HSS HBE HLK
  have HXL := Lib.hid ((HBL.out.block _ HLT.out).trans HX2.out)
  have HAL := Lib.hid ((HBL.out.block _ (Array.getElem?_eq_some_iff.1 HBX.out.ans).1).trans HBX.out.ans)
  obtain ⟨c0, c1, c2, c3, c4, c5, c6⟩ := op7 HXL.out
  go_wp2_with fail
  refine (CP.out _).mono ?_
  rintro e w3 ⟨rfl, hb3⟩
  dsimp only
  have HB3 := Lib.hid (bthen HBL.out hb3)
  have HN73 := Lib.hid ((hb3.block b7 (Array.getElem?_eq_some_iff.1 HN7.out).1).trans HN7.out)
  have HX3 := Lib.hid ((hb3.block _ (Array.getElem?_eq_some_iff.1 HXL.out).1).trans HXL.out)
  have HA3 := Lib.hid ((hb3.block _ (Array.getElem?_eq_some_iff.1 HAL.out).1).trans HAL.out)
  clear c0 c1 c2 c3 c4 c5 c6 hb3
  obtain ⟨w4, hw4⟩ : ∃ y, w3.setCell ⟨b7, 0, none⟩ (.int .i64 o.size) = y := ⟨_, rfl⟩
  have hm34 : Mods [b7] w3 w4 := by rw [← hw4]; exact (Mods.refl _ w3).setCell (p := ⟨b7, 0, none⟩) (by simp) _
  have hn74 : w4.heap[b7]? = some (.cells #[.int .i64 o.size, .map (some x.2)] 53 (0, 0)) := by
    have h1 := setOf HN73.out 0 (.int .i64 o.size)
    rw [hw4] at h1
    exact h1
  have HB24 : Hid (Below w2.heap.size w2 w4) := Lib.hid (HB3.out.trans (hm34.below (fun k hk => by have := HG7.out; have e := List.mem_singleton.1 hk; omega) HB3.out.size))
  have HN74 := Lib.hid hn74
  have HNE7 : Hid (∀ i, i < w2.heap.size → i ∉ [b7]) := Lib.hid (fun i hi hh => by have := HG7.out; have e := List.mem_singleton.1 hh; omega)
  have HX4 := Lib.hid ((hm34.block _ (Array.getElem?_eq_some_iff.1 HX3.out).1 (HNE7.out _ HLT.out)).trans HX3.out)
  have HA4 := Lib.hid ((hm34.block _ (Array.getElem?_eq_some_iff.1 HA3.out).1 (HNE7.out _ (by have := HBX.out.sz; omega))).trans HA3.out)
  have HD4 := Lib.hid (HD2.out.below HB24.out)
  have HML4 := Lib.hid (HD4.out.vol _ (getA_some HG.out))
  have CD := delf_blk w4 x.2 x.1.m HML4.out b7 o.size (.map (some x.2)) HN74.out (by have := HG7.out; have := HXB.out; have := HBX.out.sz; omega)
  have c70 := cellOf HN73.out 0 (v := .int .i64 (x.1.size : Int)) rfl
  have c71 := cellOf HN73.out 1 (v := .map (some x.2)) rfl
  have f70 := frozenOf HN73.out 0
  have c714 := cellOf HN74.out 1 (v := .map (some x.2)) rfl
  clear hm34 hn74
  go_wp2_with fail
  (try rw [hw4])
  clear hw4 c70 c71 f70 c714
  refine CD.mono ?_
  rintro e w5 ⟨rfl, hm5, hmo5⟩
  dsimp only
  have HMO5 := Lib.hid hmo5
  have HNX : Hid (∀ i, w.heap.size ≤ i → i ∉ [x.2]) := Lib.hid (fun i hi hh => by have := HXB.out; have e := List.mem_singleton.1 hh; omega)
  have HOK5 : Hid (Vl.Ok ⟨x.1.size, x.1.m.filter fun q => decide ((q.1 : Int) < o.size)⟩) := Lib.hid (by
    rw [← drop_size HVOK.out]
    exact dropA_ok HVOK.out _ _)
  have HD5 := Lib.hid (HD4.out.volAt HG.out hm5 hmo5 HOK5.out)
  have HM5 := Lib.hid hm5
  have HN75 := Lib.hid ((hmo5.block b7 (Array.getElem?_eq_some_iff.1 HN74.out).1 (HNX.out _ (by have := HG7.out; have := HBX.out.sz; omega))).trans HN74.out)
  have HX5 := Lib.hid ((hmo5.block _ (Array.getElem?_eq_some_iff.1 HX4.out).1 (HNX.out _ (Nat.le_refl _))).trans HX4.out)
  have HA5 := Lib.hid ((hmo5.block _ (Array.getElem?_eq_some_iff.1 HA4.out).1 (HNX.out _ (Nat.le_succ _))).trans HA4.out)
  have HLA := Lib.hid (Array.getElem?_eq_some_iff.1 HA5.out).1
  have HBW4 := Lib.hid (bthen HBX.out.bel HB24.out)
  have HNF : Hid (∀ i, w.heap.size ≤ i → i ∉ [Ba]) := Lib.hid (fun i hi hh => by
    have h1 : i = Ba := by simpa using hh
    have := HH.out.all.lt
    omega)
  have HOK6 : Hid (Vl.Ok ⟨o.size.toNat, x.1.m.filter fun q => decide ((q.1 : Int) < o.size)⟩) := Lib.hid ⟨HS.out.2, HOK5.out.ris, fun q hq => by
    have h1 : decide ((q.1 : Int) < o.size) = true := (List.mem_filter.1 hq).2
    have h2 := of_decide_eq_true h1
    have h3 := HS.out.1
    show q.1 < o.size.toNat
    omega, HOK5.out.blk⟩
  clear hm5 hmo5 CD
  go_wp2_with fail
  have HSS : Hid (∀ X, Mods [Ba] w5 X → (X.cell? ⟨B, 0, none⟩ = some (.map (some Ba)) ∧ X.cell? ⟨w.heap.size, 1, none⟩ = some (.int .u64 (o.vol : Int)) ∧ X.cell? ⟨b7, 0, none⟩ = some (.int .i64 o.size) ∧ X.cell? ⟨b7, 1, none⟩ = some (.map (some x.2))) ∧ Mods [Ba] w5 X) := Lib.hid (fun X hb => ⟨⟨(World.cell?_of_block (hb.block _ (HD5.out.lt) (by simpa using HD5.out.B_ne))).trans (HD5.out.cell), (World.cell?_of_block (hb.block _ ((Array.getElem?_eq_some_iff.1 HX5.out).1) (HNF.out _ (Nat.le_refl _)))).trans (cellOf HX5.out 1 rfl), (World.cell?_of_block (hb.block _ ((Array.getElem?_eq_some_iff.1 HN75.out).1) (HNF.out _ (by have := HG7.out; have := HBX.out.sz; show w.heap.size ≤ b7; omega)))).trans (cellOf HN75.out 0 rfl), (World.cell?_of_block (hb.block _ ((Array.getElem?_eq_some_iff.1 HN75.out).1) (HNF.out _ (by have := HG7.out; have := HBX.out.sz; show w.heap.size ≤ b7; omega)))).trans (cellOf HN75.out 1 rfl)⟩, hb⟩)
  refine wp_region_held_drew (S := fun X => (X.cell? ⟨B, 0, none⟩ = some (.map (some Ba)) ∧ X.cell? ⟨w.heap.size, 1, none⟩ = some (.int .u64 (o.vol : Int)) ∧ X.cell? ⟨b7, 0, none⟩ = some (.int .i64 o.size) ∧ X.cell? ⟨b7, 1, none⟩ = some (.map (some x.2))) ∧ Mods [Ba] w5 X) (by kernel_rfl) (HSS.out _ (Mods.of_below (Below.refl _ _).drew)) (fun hHeld => ?_)
  have hbe : Below w5.heap.size w5 w5.drew := (Below.refl _ _).drew
  obtain ⟨wd, hwd⟩ : ∃ y, w5.drew = y := ⟨_, rfl⟩
  rw [hwd] at hHeld hbe ⊢
  have HBE := Lib.hid hbe
  have HS0 : Hid (w5.heap.size ≤ wd.heap.size) := Lib.hid HBE.out.size
  clear hwd hbe
  refine wpAnyH_take (i := 0) (v := ?_) rfl (by kernel_rfl) (by kernel_rfl) (by kernel_rfl) (fun _ _ _ h => h) (Or.inl ⟨by rfl, ?_⟩) (by assumption) ?_
  rotate_left
  · (intro w hSw; (try dsimp only at hSw); simp only [List.getElem_toArray, List.getElem_cons_zero, List.getElem_cons_succ]; go_simp; first | done | with_reducible rfl)
  simp only [List.getElem_toArray, List.getElem_cons_zero, List.getElem_cons_succ, Act.put, List.setIfInBounds_toArray, List.set_cons_zero, List.set_cons_succ]
  refine wpAnyH_take (i := 4) (v := ?_) rfl (by kernel_rfl) (by kernel_rfl) (by kernel_rfl) (fun _ _ _ h => h) (Or.inl ⟨by rfl, ?_⟩) (by assumption) ?_
  rotate_left
  · (intro w hSw; (try dsimp only at hSw); simp only [List.getElem_toArray, List.getElem_cons_zero, List.getElem_cons_succ]; go_simp; first | done | with_reducible rfl)
  simp only [List.getElem_toArray, List.getElem_cons_zero, List.getElem_cons_succ, Act.put, List.setIfInBounds_toArray, List.set_cons_zero, List.set_cons_succ]
  refine wpAnyH_take (i := 6) (v := ?_) rfl (by kernel_rfl) (by kernel_rfl) (by kernel_rfl) (fun _ _ _ h => h) (Or.inl ⟨by rfl, ?_⟩) (by assumption) ?_
  rotate_left
  · (intro w hSw; (try dsimp only at hSw); simp only [List.getElem_toArray, List.getElem_cons_zero, List.getElem_cons_succ]; go_simp; first | done | with_reducible rfl)
  simp only [List.getElem_toArray, List.getElem_cons_zero, List.getElem_cons_succ, Act.put, List.setIfInBounds_toArray, List.set_cons_zero, List.set_cons_succ]
  refine wpAnyH_take (i := 1) (v := ?_) rfl (by kernel_rfl) (by kernel_rfl) (by kernel_rfl) (fun _ _ _ h => h) (Or.inl ⟨by rfl, ?_⟩) (by assumption) ?_
  rotate_left
  · (intro w hSw; (try dsimp only at hSw); simp only [List.getElem_toArray, List.getElem_cons_zero, List.getElem_cons_succ]; go_simp; first | done | with_reducible rfl)
  simp only [List.getElem_toArray, List.getElem_cons_zero, List.getElem_cons_succ, Act.put, List.setIfInBounds_toArray, List.set_cons_zero, List.set_cons_succ]
  refine wpAnyH_take (i := 5) (v := ?_) rfl (by kernel_rfl) (by kernel_rfl) (by kernel_rfl) (fun _ _ _ h => h) (Or.inl ⟨by rfl, ?_⟩) (by assumption) ?_
  rotate_left
  · (intro w hSw; (try dsimp only at hSw); simp only [List.getElem_toArray, List.getElem_cons_zero, List.getElem_cons_succ]; go_simp; first | done | with_reducible rfl)
  simp only [List.getElem_toArray, List.getElem_cons_zero, List.getElem_cons_succ, Act.put, List.setIfInBounds_toArray, List.set_cons_zero, List.set_cons_succ]
  refine wpAnyH_take (i := 2) (v := ?_) rfl (by kernel_rfl) (by kernel_rfl) (by kernel_rfl) (fun _ _ _ h => h) (Or.inl ⟨by rfl, ?_⟩) (by assumption) ?_
  rotate_left
  · (intro w hSw; (try dsimp only at hSw); simp only [List.getElem_toArray, List.getElem_cons_zero, List.getElem_cons_succ]; go_simp; first | done | with_reducible rfl)
  simp only [List.getElem_toArray, List.getElem_cons_zero, List.getElem_cons_succ, Act.put, List.setIfInBounds_toArray, List.set_cons_zero, List.set_cons_succ]
  refine wpAnyH_take (i := 3) (v := ?_) rfl (by kernel_rfl) (by kernel_rfl) (by kernel_rfl) (fun _ _ _ h => h) (Or.inl ⟨by rfl, ?_⟩) (by assumption) ?_
  rotate_left
  · (intro w hSw; (try dsimp only at hSw); simp only [List.getElem_toArray, List.getElem_cons_zero, List.getElem_cons_succ]; go_simp; first | done | with_reducible rfl)
  simp only [List.getElem_toArray, List.getElem_cons_zero, List.getElem_cons_succ, Act.put, List.setIfInBounds_toArray, List.set_cons_zero, List.set_cons_succ]
  refine wpAnyH_ready (rs := [7]) (by kernel_rfl) (by simp) ?_
  refine AllReadyH.cons rfl (fun K hK => ?_) (AllReadyH.nil)
  obtain ⟨w6, hup, hml, hmod⟩ := (HD5.out.below HBE.out).all.put undU64 undAll HD5.out.short (wfU (Nat.lt_trans HVOL.out.2 (by decide))) (a := ((⟨o.size.toNat, x.1.m.filter fun q => decide ((q.1 : Int) < o.size)⟩ : Vl), x.2)) (v := .agg #[.int .i64 o.size, .map (some x.2)]) (by rw [← HS.out.1]; exact RVol_mk _ _)
  simp only [List.getElem_toArray, List.getElem_cons_zero, List.getElem_cons_succ]
  go_simp
  refine hK.out _ _ ?_ (fun hHeld => ?_)
  · exact HSS.out _ ((Mods.of_below HBE.out).trans hmod (fun i hi => .inl hi))
  clear hK K
  try simp only [Act.put, List.setIfInBounds_toArray, List.set_cons_zero, List.set_cons_succ]
  have HD6' := (HD5.out.below HBE.out).putAt hml ((HM5.out.below HBE.out).mods hmod (by simpa using HH.out.ne _ (getA_some HG.out))) hmod HVOL.out HOK6.out (HH.out.ge.2.2 _ (getA_some HG.out)) (HH.out.ne _ (getA_some HG.out)) (fun p hp e => HD5.out.apart p hp (o.vol, (⟨x.1.size, x.1.m.filter fun q => decide ((q.1 : Int) < o.size)⟩, x.2)) (mem_insA.2 (.inl rfl)) e)
  rw [putA_putA, ← drop_size HVOK.out] at HD6'
  have HD6 := Lib.hid HD6'
  clear HD6' hml hmod hup
  refine wpAnyH_done (by kernel_rfl) ?_ _
  have HEND := Lib.hid hHeld.2
  have HSE := Lib.hid hHeld.1
  clear hHeld
  have HMZ := Lib.hid HEND.out
  clear HEND HSE HSS HBE
  have hxa := (HMZ.out.block (w.heap.size + 1) HLA.out (HNF.out _ (Nat.le_succ _))).trans HA5.out
  have HXA := Lib.hid hxa
  have e0 := cellOf hxa 0 (v := .int .i64 0) rfl
  have e1 := cellOf hxa 1 (v := .int .i64 0) rfl
  have e2 := cellOf hxa 2 (v := .slice none 0 0) rfl
  have f0 := frozenOf hxa 0
  have f1 := frozenOf hxa 1
  have f2 := frozenOf hxa 2
  clear hxa
  go_wp2_with fail
  obtain ⟨hx4, hm4⟩ := set3 (x := .int .i64 0) (y := .int .i64 0) (z := .slice none 0 0) HXA.out
  refine bodyPost_ret (v := ansE 0 0) (resAns rfl _ _ _ _ _ _ rfl hx4) rfl ⟨rfl, HD6.out.kept hm4 (fun hh => ?_) (fun k hk hh => ?_), ?_⟩
  · have : B = w.heap.size + 1 := by simpa using hh
    have := HH.out.lt
    omega
  · have e : k = w.heap.size + 1 := by simpa using hh
    subst e
    rcases List.mem_cons.1 hk with e2 | hk2
    · have := HH.out.all.lt
      omega
    · obtain ⟨p, hp, he⟩ := List.mem_map.1 hk2
      rcases mem_putA hp with rfl | hp
      · have he2 : x.2 = w.heap.size + 1 := he
        have := HXB.out
        omega
      · have := (HH.out.vol p hp).lt
        omega
  · exact (((Mods.of_below (F := [Ba, x.2]) HBW4.out).trans (HMO5.out.mono (by simp)) (fun i hi => .inl hi)).trans HMZ.out (fun i hi => .inl (by have e := List.mem_singleton.1 hi; rw [e]; simp))).trans hm4 (fun i hi => .inr (by
      have : i = w.heap.size + 1 := by simpa using hi
      omega))
end Go.Proofs.Ythkmihedkddnmaa
