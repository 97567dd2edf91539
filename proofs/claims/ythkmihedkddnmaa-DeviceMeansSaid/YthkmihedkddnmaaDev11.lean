/- Devices: create, walked. -/
import Derived.Test.YthkmihedkddnmaaDev10
namespace Go.Proofs.Ythkmihedkddnmaa
open Go.RowKit Go.Maps Wire Cmd
set_option linter.unusedVariables false
set_option linter.unusedSimpArgs false

/-- A device has at most so many volumes. -/
theorem DevAt.short {n0 : Nat} {w : World} {B Ba : Nat} {l : List (Nat × (Vl × Nat))} (h : DevAt n0 w B Ba l) : l.length < maxLen := by
  have := ris_len_le 0 h.ok.ris (fun p hp => ⟨Nat.zero_le _, (h.ok.nat p hp).2⟩)
  have hlen : (strip l).length = l.length := mapA_len _ _
  unfold maxLen
  omega
/-- What an answer that lies in a box comes out as, at a method's end: 'return api.Answer{}' of an empty answer's box. -/
theorem DevAt.lt_all {n0 : Nat} {w : World} {B Ba : Nat} {l : List (Nat × (Vl × Nat))} (h : DevAt n0 w B Ba l) : ∀ k ∈ dF Ba l, k < w.heap.size := by
  intro k hk
  rcases List.mem_cons.1 hk with rfl | hk
  · exact h.all.lt
  · obtain ⟨p, hp, rfl⟩ := List.mem_map.1 hk
    exact (h.vol p hp).lt
theorem DevAt.B_ne {n0 : Nat} {w : World} {B Ba : Nat} {l : List (Nat × (Vl × Nat))} (h : DevAt n0 w B Ba l) : B ≠ Ba := by
  obtain ⟨es, clock, hes⟩ := h.all.isMap
  exact fun e => map_ne_cells hes h.box e.symm
/-- The two boxes that a method begins with: its operation's, its answer's. -/
structure Boxes (w w2 : World) (C : Array Value) : Prop where
  bel : Below w.heap.size w w2
  sz : w2.heap.size = w.heap.size + 2
  op : w2.heap[w.heap.size]? = some (.cells C 27 (0, 0))
  ans : w2.heap[w.heap.size + 1]? = some (.cells #[.int .i64 0, .int .i64 0, .slice none 0 0] 35 (0, 0))
theorem boxes (w : World) (C : Array Value) : Boxes w ((w.alloc (.cells C 27)).alloc (.cells #[.int .i64 0, .int .i64 0, .slice none 0 0] 35)) C := by
  have h1 := heap_alloc_new w (.cells C 27)
  have h2 := heap_alloc_new (w.alloc (.cells C 27)) (.cells #[.int .i64 0, .int .i64 0, .slice none 0 0] 35)
  have hb := balloc (Below.refl _ (w.alloc (.cells C 27))) (.cells #[.int .i64 0, .int .i64 0, .slice none 0 0] 35)
  refine ⟨bthen (balloc (Below.refl _ _) _) hb, by simp, (hb.block _ (by simp)).trans h1, ?_⟩
  simpa using h2

set_option maxRecDepth 100000 in
set_option maxHeartbeats 3200000 in
theorem dcreate_at (n0 : Nat) (w : World) (B Ba : Nat) (l : List (Nat × (Vl × Nat))) (h : DevAt n0 w B Ba l) (o : Op0) (ao : Option Addr) (cap : Nat) (b : Int) (hn : o.data.length ≤ 9223372036854775807) (hmay : mayO o = true) (hk : o.k = 1) :
    Calls Try.prog 23 #[.pointer (some ⟨B, 0, none⟩), .agg (oC o (.slice ao o.data.length cap)), .int .i64 b] w fun e w' => e = .returned (ansE 0 0) ∧ ∃ b', DevAt n0 w' B Ba (putA o.vol (⟨o.size.toNat, []⟩, b') l) ∧ Mods [Ba] w w' ∧ w.heap.size ≤ b' := by
  have HH := Lib.hid h
  have hbx := boxes w (oC o (.slice ao o.data.length cap))
  have hsize := may_size hmay (.inl hk)
  have HVOL := Lib.hid (may_vol hmay (by omega))
  have HS : Hid (((o.size.toNat : Nat) : Int) = o.size ∧ o.size.toNat ≤ 256) := Lib.hid ⟨by omega, by omega⟩
  have HPV : Hid (partV o = .iface 3 (.int .i64 o.size)) := Lib.hid (by unfold partV; rw [if_pos (.inl hk)])
  obtain ⟨sl, hsl⟩ : ∃ s, Value.slice ao o.data.length cap = s := ⟨_, rfl⟩
  have CP : Hid (∀ X, Calls Try.prog 34 #[.agg (oC o sl)] X fun e w' => e = .returned (.iface 3 (.int .i64 o.size)) ∧ Below X.heap.size X w') := Lib.hid (fun X => by rw [← hsl, ← HPV.out]; exact part13_any o ao cap X hn)
  rw [hsl] at hbx ⊢
  clear hsl hsize h hk hmay hn
  rw [show (oC o sl) = #[.int .i64 o.k, .int .u64 (o.vol : Int), .int .u64 (o.to : Int), .int .i64 o.size, .int .i64 o.pl, .int .i64 o.count, sl] from rfl] at hbx ⊢
  obtain ⟨w2, hw2⟩ : ∃ W, (w.alloc (.cells #[.int .i64 o.k, .int .u64 (o.vol : Int), .int .u64 (o.to : Int), .int .i64 o.size, .int .i64 o.pl, .int .i64 o.count, sl] 27)).alloc (.cells #[.int .i64 0, .int .i64 0, .slice none 0 0] 35) = W := ⟨_, rfl⟩
  rw [hw2] at hbx
  have HBX := Lib.hid hbx
  clear hbx
  have t1 := is_int
  go_enter Try.func23, Try.ntmps23
  go_wp2_with fail
  (try rw [hw2])
  clear hw2
  have HD2 := Lib.hid (HH.out.below HBX.out.bel)
  have HX2 := Lib.hid HBX.out.op
  have HLT := Lib.hid (Array.getElem?_eq_some_iff.1 HX2.out).1
  have HNI : Hid (w.heap.size ∉ [Ba]) := Lib.hid (by have := HH.out.all.lt; simp; omega)
  have HNB : Hid (B ∉ [Ba]) := Lib.hid (by simpa using HD2.out.B_ne)
  have HSS : Hid (∀ X, Mods [Ba] w2 X → (X.cell? ⟨B, 0, none⟩ = some (.map (some Ba)) ∧ X.cell? ⟨w.heap.size, 0, none⟩ = some (.int .i64 o.k) ∧ X.cell? ⟨w.heap.size, 1, none⟩ = some (.int .u64 (o.vol : Int)) ∧ X.cell? ⟨w.heap.size, 2, none⟩ = some (.int .u64 (o.to : Int)) ∧ X.cell? ⟨w.heap.size, 3, none⟩ = some (.int .i64 o.size) ∧ X.cell? ⟨w.heap.size, 4, none⟩ = some (.int .i64 o.pl) ∧ X.cell? ⟨w.heap.size, 5, none⟩ = some (.int .i64 o.count) ∧ X.cell? ⟨w.heap.size, 6, none⟩ = some (sl)) ∧ Mods [Ba] w2 X) := Lib.hid (fun X hb => ⟨⟨(World.cell?_of_block (hb.block _ (HD2.out.lt) (HNB.out))).trans (HD2.out.cell), (World.cell?_of_block (hb.block _ (HLT.out) (HNI.out))).trans (cellOf HX2.out 0 rfl), (World.cell?_of_block (hb.block _ (HLT.out) (HNI.out))).trans (cellOf HX2.out 1 rfl), (World.cell?_of_block (hb.block _ (HLT.out) (HNI.out))).trans (cellOf HX2.out 2 rfl), (World.cell?_of_block (hb.block _ (HLT.out) (HNI.out))).trans (cellOf HX2.out 3 rfl), (World.cell?_of_block (hb.block _ (HLT.out) (HNI.out))).trans (cellOf HX2.out 4 rfl), (World.cell?_of_block (hb.block _ (HLT.out) (HNI.out))).trans (cellOf HX2.out 5 rfl), (World.cell?_of_block (hb.block _ (HLT.out) (HNI.out))).trans (cellOf HX2.out 6 rfl)⟩, hb⟩)
  refine wp_region_held_drew (S := fun X => (X.cell? ⟨B, 0, none⟩ = some (.map (some Ba)) ∧ X.cell? ⟨w.heap.size, 0, none⟩ = some (.int .i64 o.k) ∧ X.cell? ⟨w.heap.size, 1, none⟩ = some (.int .u64 (o.vol : Int)) ∧ X.cell? ⟨w.heap.size, 2, none⟩ = some (.int .u64 (o.to : Int)) ∧ X.cell? ⟨w.heap.size, 3, none⟩ = some (.int .i64 o.size) ∧ X.cell? ⟨w.heap.size, 4, none⟩ = some (.int .i64 o.pl) ∧ X.cell? ⟨w.heap.size, 5, none⟩ = some (.int .i64 o.count) ∧ X.cell? ⟨w.heap.size, 6, none⟩ = some (sl)) ∧ Mods [Ba] w2 X) (by kernel_rfl) (HSS.out _ (Mods.of_below (Below.refl _ _).drew)) (fun hHeld => ?_)
  have hbe : Below w2.heap.size w2 w2.drew := (Below.refl _ _).drew
  obtain ⟨wd, hwd⟩ : ∃ y, w2.drew = y := ⟨_, rfl⟩
  rw [hwd] at hHeld hbe ⊢
  have HBE := Lib.hid hbe
  have HS0 : Hid (w2.heap.size ≤ wd.heap.size) := Lib.hid HBE.out.size
  clear hwd hbe
  refine wpAnyH_take (i := 0) (v := ?_) rfl (by kernel_rfl) (by kernel_rfl) (by kernel_rfl) (fun _ _ _ h => h) (Or.inl ⟨by rfl, ?_⟩) (by assumption) ?_
  rotate_left
  · (intro w hSw; (try dsimp only at hSw); simp only [List.getElem_toArray, List.getElem_cons_zero, List.getElem_cons_succ]; go_simp; first | done | with_reducible rfl)
  simp only [List.getElem_toArray, List.getElem_cons_zero, List.getElem_cons_succ, Act.put, List.setIfInBounds_toArray, List.set_cons_zero, List.set_cons_succ]
  refine wpAnyH_take (i := 4) (v := ?_) rfl (by kernel_rfl) (by kernel_rfl) (by kernel_rfl) (fun _ _ _ h => h) (Or.inl ⟨by rfl, ?_⟩) (by assumption) ?_
  rotate_left
  · (intro w hSw; (try dsimp only at hSw); simp only [List.getElem_toArray, List.getElem_cons_zero, List.getElem_cons_succ]; go_simp; first | done | with_reducible rfl)
  simp only [List.getElem_toArray, List.getElem_cons_zero, List.getElem_cons_succ, Act.put, List.setIfInBounds_toArray, List.set_cons_zero, List.set_cons_succ]
  refine wpAnyH_take (i := 6) (v := ?_) rfl (by kernel_rfl) (by kernel_rfl) (by kernel_rfl) (fun _ _ _ h => h) (Or.inl ⟨by rfl, ?_⟩) (by assumption) ?_
  rotate_left
  · (intro w hSw; (try dsimp only at hSw); simp only [List.getElem_toArray, List.getElem_cons_zero, List.getElem_cons_succ]; go_simp; first | done | with_reducible rfl)
  simp only [List.getElem_toArray, List.getElem_cons_zero, List.getElem_cons_succ, Act.put, List.setIfInBounds_toArray, List.set_cons_zero, List.set_cons_succ]
  refine wpAnyH_take (i := 1) (v := ?_) rfl (by kernel_rfl) (by kernel_rfl) (by kernel_rfl) (fun _ _ _ h => h) (Or.inl ⟨by rfl, ?_⟩) (by assumption) ?_
  rotate_left
  · (intro w hSw; (try dsimp only at hSw); simp only [List.getElem_toArray, List.getElem_cons_zero, List.getElem_cons_succ]; go_simp; first | done | with_reducible rfl)
  simp only [List.getElem_toArray, List.getElem_cons_zero, List.getElem_cons_succ, Act.put, List.setIfInBounds_toArray, List.set_cons_zero, List.set_cons_succ]
  refine wpAnyH_take (i := 5) (v := ?_) rfl (by kernel_rfl) (by kernel_rfl) (by kernel_rfl) (fun _ _ _ h => h) (Or.inl ⟨by rfl, ?_⟩) (by assumption) ?_
  rotate_left
  · (intro w hSw; (try dsimp only at hSw); simp only [List.getElem_toArray, List.getElem_cons_zero, List.getElem_cons_succ]; go_simp; first | done | with_reducible rfl)
  simp only [List.getElem_toArray, List.getElem_cons_zero, List.getElem_cons_succ, Act.put, List.setIfInBounds_toArray, List.set_cons_zero, List.set_cons_succ]
  refine wpAnyH_take (i := 2) (v := ?_) rfl (by kernel_rfl) (by kernel_rfl) (by kernel_rfl) (fun _ _ _ h => h) (Or.inl ⟨by rfl, ?_⟩) (by assumption) ?_
  rotate_left
  · (intro w hSw; (try dsimp only at hSw); simp only [List.getElem_toArray, List.getElem_cons_zero, List.getElem_cons_succ]; go_simp; first | done | with_reducible rfl)
  simp only [List.getElem_toArray, List.getElem_cons_zero, List.getElem_cons_succ, Act.put, List.setIfInBounds_toArray, List.set_cons_zero, List.set_cons_succ]
  refine wpAnyH_take (i := 3) (v := ?_) rfl (by kernel_rfl) (by kernel_rfl) (by kernel_rfl) (fun _ _ _ h => h) (Or.inl ⟨by rfl, ?_⟩) (by assumption) ?_
  rotate_left
  · (intro w hSw; (try dsimp only at hSw); simp only [List.getElem_toArray, List.getElem_cons_zero, List.getElem_cons_succ]; go_simp; first | done | with_reducible rfl)
  simp only [List.getElem_toArray, List.getElem_cons_zero, List.getElem_cons_succ, Act.put, List.setIfInBounds_toArray, List.set_cons_zero, List.set_cons_succ]
  refine wpAnyH_ready (rs := [7, 9]) (by kernel_rfl) (by simp) ?_
  refine AllReadyH.cons rfl (fun K hK => ?_) (AllReadyH.cons rfl (fun K hK => ?_) (AllReadyH.nil))
  · skip
    simp only [List.getElem_toArray, List.getElem_cons_zero, List.getElem_cons_succ]
    go_simp
    refine (CP.out _).mono ?_
    rintro e w3 ⟨rfl, hb3⟩
    dsimp only
    have HBE := Lib.hid (bthen HBE.out hb3)
    have hSp := HSS.out _ (Mods.of_below HBE.out)
    clear hHeld
    refine hK.out _ _ hSp (fun hHeld => ?_)
    clear hSp hK K
    try simp only [Act.put, List.setIfInBounds_toArray, List.set_cons_zero, List.set_cons_succ]
    have HC7 := Lib.hid hb3
    clear hb3
    refine wpAnyH_take (i := 8) (v := ?_) rfl (by kernel_rfl) (by kernel_rfl) (by kernel_rfl) (fun _ _ _ h => h) (Or.inl ⟨by rfl, ?_⟩) (by assumption) ?_
    rotate_left
    · (intro w hSw; (try dsimp only at hSw); simp only [List.getElem_toArray, List.getElem_cons_zero, List.getElem_cons_succ]; go_simp; first | done | with_reducible rfl)
    simp only [List.getElem_toArray, List.getElem_cons_zero, List.getElem_cons_succ, Act.put, List.setIfInBounds_toArray, List.set_cons_zero, List.set_cons_succ]
    refine wpAnyH_ready (rs := [9]) (by kernel_rfl) (by simp) ?_
    refine AllReadyH.cons rfl (fun K hK => ?_) (AllReadyH.nil)
    have hmm := @run_makeMap Try.prog
    simp only [List.getElem_toArray, List.getElem_cons_zero, List.getElem_cons_succ]
    go_simp
    clear hmm
    obtain ⟨b9, hw9⟩ : ∃ b, w3.heap.size = b := ⟨_, rfl⟩
    obtain ⟨y9, hy9⟩ : ∃ y, w3.alloc (.map #[] 0) = y := ⟨_, rfl⟩
    rw [hy9, hw9]
    have hx9 : Below w3.heap.size w3 y9 := by rw [← hy9]; exact balloc (Below.refl _ _) _
    have HN9 : Hid (y9.heap[b9]? = some (.map #[] 0)) := Lib.hid (by rw [← hy9, ← hw9]; exact heap_alloc_new _ _)
    have HG9 : Hid (w2.heap.size ≤ b9) := Lib.hid (by have := HBE.out.size; omega)
    clear hy9 hw9
    have HBE := Lib.hid (bthen HBE.out hx9)
    have hSp := HSS.out _ (Mods.of_below HBE.out)
    clear hHeld
    refine hK.out _ _ hSp (fun hHeld => ?_)
    clear hSp hK K
    try simp only [Act.put, List.setIfInBounds_toArray, List.set_cons_zero, List.set_cons_succ]
    clear hx9
    refine wpAnyH_take (i := 10) (v := ?_) rfl (by kernel_rfl) (by kernel_rfl) (by kernel_rfl) (fun _ _ _ h => h) (Or.inl ⟨by rfl, ?_⟩) (by assumption) ?_
    rotate_left
    · (intro w hSw; (try dsimp only at hSw); simp only [List.getElem_toArray, List.getElem_cons_zero, List.getElem_cons_succ]; go_simp; first | done | with_reducible rfl)
    simp only [List.getElem_toArray, List.getElem_cons_zero, List.getElem_cons_succ, Act.put, List.setIfInBounds_toArray, List.set_cons_zero, List.set_cons_succ]
    refine wpAnyH_ready (rs := [11]) (by kernel_rfl) (by simp) ?_
    refine AllReadyH.cons rfl (fun K hK => ?_) (AllReadyH.nil)
    obtain ⟨w4, hup, hml, hmod⟩ := (HD2.out.below HBE.out).all.put undU64 undAll HH.out.short (wfU (Nat.lt_trans HVOL.out.2 (by decide))) (a := ((⟨o.size.toNat, []⟩ : Vl), b9)) (v := .agg #[.int .i64 o.size, .map (some b9)]) (by rw [← HS.out.1]; exact RVol_mk _ _)
    simp only [List.getElem_toArray, List.getElem_cons_zero, List.getElem_cons_succ]
    go_simp
    refine hK.out _ _ ?_ (fun hHeld => ?_)
    · exact HSS.out _ ((Mods.of_below HBE.out).trans hmod (fun i hi => .inl hi))
    clear hK K
    try simp only [Act.put, List.setIfInBounds_toArray, List.set_cons_zero, List.set_cons_succ]
    have HD4 : Hid (DevAt n0 w4 B Ba (putA o.vol (⟨o.size.toNat, []⟩, b9) l)) := Lib.hid ((HD2.out.below HBE.out).putAt hml (mapL_at_new HN9.out hmod (by have := HG9.out; have := HD2.out.all.lt; simp; omega)) hmod HVOL.out ⟨HS.out.2, List.Pairwise.nil, fun q hq => (by cases hq), fun q hq => (by cases hq)⟩ (by have := HG9.out; have := HD2.out.lt; have := HD2.out.ge.1; omega) (by have := HG9.out; have := HD2.out.all.lt; omega) (fun p hp e => absurd e (by have := HG9.out; have := (HD2.out.vol p hp).lt; omega)))
    clear hml hmod hup
    refine wpAnyH_done (by kernel_rfl) ?_ _
    have HEND := Lib.hid hHeld.2
    have HSE := Lib.hid hHeld.1
    clear hHeld
    have HM5 := Lib.hid HEND.out
    have HN9' := Lib.hid HN9.out
    clear HEND HSE HSS HBE
    have hxa := (HM5.out.block (w.heap.size + 1) (by rw [HBX.out.sz]; omega) (by have := HH.out.all.lt; simp; omega)).trans HBX.out.ans
    have HXA := Lib.hid hxa
    have e0 := cellOf hxa 0 (v := .int .i64 0) rfl
    have e1 := cellOf hxa 1 (v := .int .i64 0) rfl
    have e2 := cellOf hxa 2 (v := .slice none 0 0) rfl
    have f0 := frozenOf hxa 0
    have f1 := frozenOf hxa 1
    have f2 := frozenOf hxa 2
    clear hxa
    go_wp2_with fail
    obtain ⟨hx4, hm4⟩ := set3 (x := .int .i64 0) (y := .int .i64 0) (z := .slice none 0 0) HXA.out
    have hbn : b9 ≠ w.heap.size + 1 := by have := HG9.out; have := HBX.out.sz; omega
    refine bodyPost_ret (v := ansE 0 0) (resAns rfl _ _ _ _ _ _ rfl hx4) rfl ⟨rfl, b9, HD4.out.kept hm4 (fun hh => ?_) (fun k hk hh => ?_), ?_, by have := HG9.out; have := HBX.out.sz; omega⟩
    · have : B = w.heap.size + 1 := by simpa using hh
      have := HH.out.lt
      omega
    · have e : k = w.heap.size + 1 := by simpa using hh
      subst e
      rcases List.mem_cons.1 hk with e2 | hk2
      · have := HH.out.all.lt
        omega
      · obtain ⟨p, hp, he⟩ := List.mem_map.1 hk2
        rcases mem_putA hp with rfl | hp
        · exact hbn he
        · have := (HH.out.vol p hp).lt
          omega
    · exact ((Mods.of_below HBX.out.bel).trans HM5.out (fun i hi => .inl hi)).trans hm4 (fun i hi => .inr (by
        have : i = w.heap.size + 1 := by simpa using hi
        omega))
  · skip
    have hmm := @run_makeMap Try.prog
    simp only [List.getElem_toArray, List.getElem_cons_zero, List.getElem_cons_succ]
    go_simp
    clear hmm
    obtain ⟨b9, hw9⟩ : ∃ b, wd.heap.size = b := ⟨_, rfl⟩
    obtain ⟨y9, hy9⟩ : ∃ y, wd.alloc (.map #[] 0) = y := ⟨_, rfl⟩
    rw [hy9, hw9]
    have hx9 : Below wd.heap.size wd y9 := by rw [← hy9]; exact balloc (Below.refl _ _) _
    have HN9 : Hid (y9.heap[b9]? = some (.map #[] 0)) := Lib.hid (by rw [← hy9, ← hw9]; exact heap_alloc_new _ _)
    have HG9 : Hid (w2.heap.size ≤ b9) := Lib.hid (by have := HBE.out.size; omega)
    clear hy9 hw9
    have HBE := Lib.hid (bthen HBE.out hx9)
    have hSp := HSS.out _ (Mods.of_below HBE.out)
    clear hHeld
    refine hK.out _ _ hSp (fun hHeld => ?_)
    clear hSp hK K
    try simp only [Act.put, List.setIfInBounds_toArray, List.set_cons_zero, List.set_cons_succ]
    clear hx9
    refine wpAnyH_ready (rs := [7]) (by kernel_rfl) (by simp) ?_
    refine AllReadyH.cons rfl (fun K hK => ?_) (AllReadyH.nil)
    simp only [List.getElem_toArray, List.getElem_cons_zero, List.getElem_cons_succ]
    go_simp
    refine (CP.out _).mono ?_
    rintro e w3 ⟨rfl, hb3⟩
    dsimp only
    have HBE := Lib.hid (bthen HBE.out hb3)
    have hSp := HSS.out _ (Mods.of_below HBE.out)
    clear hHeld
    refine hK.out _ _ hSp (fun hHeld => ?_)
    clear hSp hK K
    try simp only [Act.put, List.setIfInBounds_toArray, List.set_cons_zero, List.set_cons_succ]
    have HN9 := Lib.hid ((hb3.block b9 (Array.getElem?_eq_some_iff.1 HN9.out).1).trans HN9.out)
    have HC7 := Lib.hid hb3
    clear hb3
    refine wpAnyH_take (i := 8) (v := ?_) rfl (by kernel_rfl) (by kernel_rfl) (by kernel_rfl) (fun _ _ _ h => h) (Or.inl ⟨by rfl, ?_⟩) (by assumption) ?_
    rotate_left
    · (intro w hSw; (try dsimp only at hSw); simp only [List.getElem_toArray, List.getElem_cons_zero, List.getElem_cons_succ]; go_simp; first | done | with_reducible rfl)
    simp only [List.getElem_toArray, List.getElem_cons_zero, List.getElem_cons_succ, Act.put, List.setIfInBounds_toArray, List.set_cons_zero, List.set_cons_succ]
    refine wpAnyH_take (i := 10) (v := ?_) rfl (by kernel_rfl) (by kernel_rfl) (by kernel_rfl) (fun _ _ _ h => h) (Or.inl ⟨by rfl, ?_⟩) (by assumption) ?_
    rotate_left
    · (intro w hSw; (try dsimp only at hSw); simp only [List.getElem_toArray, List.getElem_cons_zero, List.getElem_cons_succ]; go_simp; first | done | with_reducible rfl)
    simp only [List.getElem_toArray, List.getElem_cons_zero, List.getElem_cons_succ, Act.put, List.setIfInBounds_toArray, List.set_cons_zero, List.set_cons_succ]
    refine wpAnyH_ready (rs := [11]) (by kernel_rfl) (by simp) ?_
    refine AllReadyH.cons rfl (fun K hK => ?_) (AllReadyH.nil)
    obtain ⟨w4, hup, hml, hmod⟩ := (HD2.out.below HBE.out).all.put undU64 undAll HH.out.short (wfU (Nat.lt_trans HVOL.out.2 (by decide))) (a := ((⟨o.size.toNat, []⟩ : Vl), b9)) (v := .agg #[.int .i64 o.size, .map (some b9)]) (by rw [← HS.out.1]; exact RVol_mk _ _)
    simp only [List.getElem_toArray, List.getElem_cons_zero, List.getElem_cons_succ]
    go_simp
    refine hK.out _ _ ?_ (fun hHeld => ?_)
    · exact HSS.out _ ((Mods.of_below HBE.out).trans hmod (fun i hi => .inl hi))
    clear hK K
    try simp only [Act.put, List.setIfInBounds_toArray, List.set_cons_zero, List.set_cons_succ]
    have HD4 : Hid (DevAt n0 w4 B Ba (putA o.vol (⟨o.size.toNat, []⟩, b9) l)) := Lib.hid ((HD2.out.below HBE.out).putAt hml (mapL_at_new HN9.out hmod (by have := HG9.out; have := HD2.out.all.lt; simp; omega)) hmod HVOL.out ⟨HS.out.2, List.Pairwise.nil, fun q hq => (by cases hq), fun q hq => (by cases hq)⟩ (by have := HG9.out; have := HD2.out.lt; have := HD2.out.ge.1; omega) (by have := HG9.out; have := HD2.out.all.lt; omega) (fun p hp e => absurd e (by have := HG9.out; have := (HD2.out.vol p hp).lt; omega)))
    clear hml hmod hup
    refine wpAnyH_done (by kernel_rfl) ?_ _
    have HEND := Lib.hid hHeld.2
    have HSE := Lib.hid hHeld.1
    clear hHeld
    have HM5 := Lib.hid HEND.out
    have HN9' := Lib.hid HN9.out
    clear HEND HSE HSS HBE
    have hxa := (HM5.out.block (w.heap.size + 1) (by rw [HBX.out.sz]; omega) (by have := HH.out.all.lt; simp; omega)).trans HBX.out.ans
    have HXA := Lib.hid hxa
    have e0 := cellOf hxa 0 (v := .int .i64 0) rfl
    have e1 := cellOf hxa 1 (v := .int .i64 0) rfl
    have e2 := cellOf hxa 2 (v := .slice none 0 0) rfl
    have f0 := frozenOf hxa 0
    have f1 := frozenOf hxa 1
    have f2 := frozenOf hxa 2
    clear hxa
    go_wp2_with fail
    obtain ⟨hx4, hm4⟩ := set3 (x := .int .i64 0) (y := .int .i64 0) (z := .slice none 0 0) HXA.out
    have hbn : b9 ≠ w.heap.size + 1 := by have := HG9.out; have := HBX.out.sz; omega
    refine bodyPost_ret (v := ansE 0 0) (resAns rfl _ _ _ _ _ _ rfl hx4) rfl ⟨rfl, b9, HD4.out.kept hm4 (fun hh => ?_) (fun k hk hh => ?_), ?_, by have := HG9.out; have := HBX.out.sz; omega⟩
    · have : B = w.heap.size + 1 := by simpa using hh
      have := HH.out.lt
      omega
    · have e : k = w.heap.size + 1 := by simpa using hh
      subst e
      rcases List.mem_cons.1 hk with e2 | hk2
      · have := HH.out.all.lt
        omega
      · obtain ⟨p, hp, he⟩ := List.mem_map.1 hk2
        rcases mem_putA hp with rfl | hp
        · exact hbn he
        · have := (HH.out.vol p hp).lt
          omega
    · exact ((Mods.of_below HBX.out.bel).trans HM5.out (fun i hi => .inl hi)).trans hm4 (fun i hi => .inr (by
        have : i = w.heap.size + 1 := by simpa using hi
        omega))
end Go.Proofs.Ythkmihedkddnmaa
