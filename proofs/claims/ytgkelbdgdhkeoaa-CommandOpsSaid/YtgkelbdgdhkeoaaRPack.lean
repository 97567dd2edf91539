/- The reference's Pack, walked. -/
import Derived.Deep.RegionHeld3
import Derived.Test.YtgkelbdgdhkeoaaAre
import Derived.Test.YtgkelbdgdhkeoaaWire5
import Derived.Test.YtgkelbdgdhkeoaaHeld
namespace Go.Proofs.Ytgkelbdgdhkeoaa
open Go.RowKit
set_option linter.unusedVariables false
set_option linter.unusedSimpArgs false
open Wire

theorem lay_wid {c : UInt8} {v : V} (h : wid c = 0) : lay c v = none := by
  have hn : isNum c ≠ true := fun e => by have := wid_num e; omega
  have h63 : c ≠ 63 := by rintro rfl; exact absurd h (by decide)
  have h42 : c ≠ 42 := by rintro rfl; exact absurd h (by decide)
  have h35 : c ≠ 35 := by rintro rfl; exact absurd h (by decide)
  unfold lay
  rw [if_neg (fun e : isNum c = true ∧ _ => hn e.1), if_neg h63, if_neg (fun e : c = 42 ∧ _ => h42 e.1), if_neg h35]
  simp
theorem pack_may (s : List UInt8) : ∀ l, may s = false → pack s l = none := by
  induction s with
  | nil => intro l h; cases h
  | cons c s ih =>
    intro l h
    cases l with
    | nil => rfl
    | cons v l =>
      rw [may_cons, Bool.and_eq_false_iff] at h
      rw [pack]
      rcases h with h | h
      · rw [lay_wid (by simpa using h)]; rfl
      · rw [ih l h]
        cases lay c v <;> rfl
theorem pack_length (s : List UInt8) : ∀ l, s.length ≠ l.length → pack s l = none := by
  induction s with
  | nil => intro l h; cases l with
    | nil => exact absurd rfl h
    | cons v l => rfl
  | cons c s ih =>
    intro l h
    cases l with
    | nil => rfl
    | cons v l =>
      rw [pack, ih l (by simpa using h)]
      cases lay c v <;> rfl

theorem zsz2 : Try.zeroCells136.size = 260 := by kernel_rfl
theorem rC_one {w : World} {v : V} {sl : Value} {n : Nat} {xs : List Value} (hrd : Rd w 1 sl n xs) : ∀ u ∈ rC v sl, u.oneCell' = true := by
  intro u hu
  simp only [rC, List.mem_cons] at hu
  rcases hu with rfl | rfl | rfl | rfl | hu
  · rfl
  · rfl
  · rfl
  · obtain ⟨_, _, rfl, _⟩ := hrd; rfl
  · exact bV_one _ u hu

/-- What a round knows of memory: the value in its block; what has been packed. -/
structure RP (B : Nat) (w : World) (vb : Nat) (x : V) (sl v' : Value) (acc : List UInt8) (W : World) : Prop where
  below : Below B w W
  rng : W.rangeAt vb 0 (rC x sl)
  lt : vb < W.heap.size
  rd : Rd W 1 sl x.b.length (bV x.b)
  own : W.ownsRow B 5 1 v' acc.length (bV acc)
  base : B ≤ W.heap.size
theorem cell_far {w w' : World} {v : Value} {b o : Nat} (hg : w.grownBy w' v.ownBlock) (hl : b < w.heap.size) (ha : ∀ j ∈ ob v, j ≠ b) : w'.cell? ⟨b, o, none⟩ = w.cell? ⟨b, o, none⟩ :=
  World.cell?_of_block (hg.block b hl (fun e => ha b (by unfold ob; rw [Option.mem_toList]; exact e.symm) rfl))
theorem RP.mono {B : Nat} {w : World} {vb : Nat} {x : V} {sl v' : Value} {acc : List UInt8} {W W' : World} (h : RP B w vb x sl v' acc W) (hb : Below W.heap.size W W') : RP B w vb x sl v' acc W' :=
  ⟨h.below.trans (hb.mono h.base), rangeAt_below h.rng h.lt hb, Nat.lt_of_lt_of_le h.lt hb.size, h.rd.below hb, ownsRow_below h.own hb, Nat.le_trans h.base hb.size⟩

/-- Cells in the midst of a block, read as a slice. -/
theorem rd_range {w : World} {b o n : Nat} {l : List UInt8} (h : w.rangeAt b o (bV l)) (hl : b < w.heap.size) (hn : l.length = n) (h1 : n ≤ 1000000) : Rd w 1 (.slice (some ⟨b, o, none⟩) n n) n (bV l) :=
  ⟨_, _, rfl, by simp [bV_len, hn], by unfold maxLen; omega, ⟨(fun h => by cases h), Nat.le_refl _, by unfold maxLen; omega⟩, fun j u hj => ⟨b, o, rfl, hl, h j u hj⟩⟩

set_option maxRecDepth 100000 in
set_option maxHeartbeats 12800000 in
theorem rpack_big (s : ByteArray) (ao : Option Addr) (n cap : Nat) (l : List V) (w : World) (hv : RVs w ao n cap l) (hn : n ≤ 40) (hs : s.size ≤ 40) (hl : ∀ x ∈ l, x.b.length ≤ 1000000) :
    Calls Try.prog 93 #[.string s, .slice ao n cap] w (PackP w (pack (chs s) l)) := by
  have HV := Lib.hid hv
  have HL3 := Lib.hid hl
  have hnm : n ≤ cap ∧ cap ≤ 9223372036854775807 := by obtain ⟨_, h2, h3, _⟩ := hv; unfold maxLen at h3; exact ⟨h2, h3⟩
  have CY := rmay_any s w (by omega)
  have HLL := Lib.hid hv.1
  obtain ⟨B, hB⟩ : ∃ B, w.heap.size = B := ⟨_, rfl⟩
  have HB := Lib.hid hB
  clear hv hl hB
  cases hy : may (chs s) with
  | false =>
    rw [hy] at CY
    have HE : Hid (pack (chs s) l = none) := Lib.hid (pack_may _ _ hy)
    clear hy
    go_enter Try.func93, Try.ntmps93
    go_wp2_with fail
    refine CY.mono ?_
    rintro e w1 ⟨rfl, rfl⟩
    go_wp2_with fail
    go_ret2
    exact PackP.none_of HE.out rfl (Below.refl _ _)
  | true =>
  rw [hy] at CY
  have HY := Lib.hid hy
  clear hy
  by_cases hln : n = s.size
  · have g1 : ((n : Int) != (s.size : Int)) = false := by subst hln; simp
    have g2 : ((s.size : Int) != (s.size : Int)) = false := by simp
    have HLN := Lib.hid hln
    clear hln
    go_enter Try.func93, Try.ntmps93
    go_wp2_with fail
    refine CY.mono ?_
    rintro e w1 ⟨rfl, rfl⟩
    clear CY
    go_wp2_with fail
    clear g1 g2
    go_loopw [6, 7] (fun o i wr => ∃ (k : Nat) (v' : Value) (acc : List UInt8), k ≤ n ∧ i = .int .i64 (k : Int) ∧ v' = o ∧ wr.ownsRow B 5 1 v' acc.length (bV acc) ∧ Below B w wr ∧ acc.length ≤ k * 1000260 ∧ pack (chs s) l = (pack ((chs s).drop k) (l.drop k)).map (acc ++ ·)) (fun _ i _ => n - (intOf i).toNat)
    case atStart => exact ⟨0, _, [], by omega, rfl, rfl, World.ownsRow_nil _ _ _ _, Below.refl _ _, by simp, by simp⟩
    case round =>
      obtain ⟨k, v', acc, hk, rfl, rfl, ho, hb, hacc, hpk⟩ := hrel
      have HO := Lib.hid ho
      have HBW := Lib.hid hb
      have HPK := Lib.hid hpk
      clear ho hb hpk
      by_cases hlt : k < n
      · obtain ⟨x, hx⟩ : ∃ x, l[k]? = some x := ⟨_, List.getElem?_eq_getElem (by rw [HLL.out]; exact hlt)⟩
        have hks : k < s.size := by rw [← HLN.out]; exact hlt
        obtain ⟨hok, b, off, sl, rfl, hbl, hr, hrd0⟩ := HV.out.2.2.2.2 k x hx
        have HRD0 := Lib.hid hrd0
        have hbW : Below w.heap.size w wr := by rw [HB.out]; exact HBW.out
        replace hr := rangeAt_below hr hbl hbW
        replace hbl : b < wr.heap.size := Nat.lt_of_lt_of_le hbl hbW.size
        have hrd := hrd0.below hbW
        clear hbW hrd0
        have hi : (Try.prog.info? 136).map (·.size) = some (rC x sl).length := by rw [rC_len hok.x]; exact infoRV
        have HR := Lib.hid (And.intro hr hi)
        have hst : (storeCells ⟨wr.heap.size, 0, none⟩ (rC x sl).toArray.toList).run Try.prog ((wr.alloc (.cells Try.zeroCells136 136)).drew) = .ok () ((wr.alloc (.cells (rC x sl).toArray 136)).drew) :=
          run_storeNew (P := Try.prog) wr.drew 136 Try.zeroCells136 (rC x sl).toArray (by rw [zsz2, List.size_toArray, rC_len hok.x]) (by simpa using rC_one hrd)
        have hrs : (rC x sl).toArray.size = 260 := by rw [List.size_toArray, rC_len hok.x]
        generalize hRR : (rC x sl).toArray = R at *
        go_upto_region 7 with fail
        go_cut [8, 9] (fun c v wx => c = .int .u8 ((s[k]'hks).toNat : Int) ∧ v = .pointer (some ⟨wr.heap.size, 0, none⟩) ∧ wx = (wr.alloc (.cells R 136)).drew)
        case first =>
          refine wp_region_held_drew (S := fun w' => w'.rangeAt b (off + k * 260) (rC x sl)) (by kernel_rfl) ?_ (fun hHeld => ?_)
          · exact hr
          refine wpAnyH_take (i := 0) (v := ?_) rfl (by kernel_rfl) (by kernel_rfl) (by kernel_rfl) (fun _ _ _ h => h) (Or.inl ⟨by rfl, ?_⟩) (by assumption) ?_
          rotate_left
          · (intro w hSw; (try dsimp only at hSw); simp only [List.getElem_toArray, List.getElem_cons_zero, List.getElem_cons_succ]; go_simp; first | done | with_reducible rfl)
          simp only [List.getElem_toArray, List.getElem_cons_zero, List.getElem_cons_succ, Act.put, List.setIfInBounds_toArray, List.set_cons_zero, List.set_cons_succ]
          refine wpAnyH_take (i := 1) (v := ?_) rfl (by kernel_rfl) (by kernel_rfl) (by kernel_rfl) (fun _ _ _ h => h) (Or.inl ⟨by rfl, ?_⟩) (by assumption) ?_
          rotate_left
          · (intro w hSw; (try dsimp only at hSw); simp only [List.getElem_toArray, List.getElem_cons_zero, List.getElem_cons_succ]; go_simp; first | done | with_reducible rfl)
          simp only [List.getElem_toArray, List.getElem_cons_zero, List.getElem_cons_succ, Act.put, List.setIfInBounds_toArray, List.set_cons_zero, List.set_cons_succ]
          refine wpAnyH_take (i := 2) (v := ?_) rfl (by kernel_rfl) (by kernel_rfl) (by kernel_rfl) (fun _ _ _ h => h) (Or.inl ⟨by rfl, ?_⟩) (by assumption) ?_
          rotate_left
          · (intro w hSw; (try dsimp only at hSw); simp only [List.getElem_toArray, List.getElem_cons_zero, List.getElem_cons_succ]; go_simp; first | done | with_reducible rfl)
          simp only [List.getElem_toArray, List.getElem_cons_zero, List.getElem_cons_succ, Act.put, List.setIfInBounds_toArray, List.set_cons_zero, List.set_cons_succ]
          refine wpAnyH_take (i := 3) (v := ?_) rfl (by kernel_rfl) (by kernel_rfl) (by kernel_rfl) (fun _ _ _ h => h) (Or.inl ⟨by rfl, ?_⟩) (by assumption) ?_
          rotate_left
          · (intro w hSw; (try dsimp only at hSw); simp only [List.getElem_toArray, List.getElem_cons_zero, List.getElem_cons_succ]; go_simp; first | done | with_reducible rfl)
          simp only [List.getElem_toArray, List.getElem_cons_zero, List.getElem_cons_succ, Act.put, List.setIfInBounds_toArray, List.set_cons_zero, List.set_cons_succ]
          refine wpAnyH_take (i := 4) (v := ?_) rfl (by kernel_rfl) (by kernel_rfl) (by kernel_rfl) (fun _ _ _ h => h) (Or.inl ⟨by rfl, ?_⟩) (by assumption) ?_
          rotate_left
          · (intro w hSw; (try dsimp only at hSw); simp only [List.getElem_toArray, List.getElem_cons_zero, List.getElem_cons_succ]; go_simp; first | done | with_reducible rfl)
          simp only [List.getElem_toArray, List.getElem_cons_zero, List.getElem_cons_succ, Act.put, List.setIfInBounds_toArray, List.set_cons_zero, List.set_cons_succ]
          refine wpAnyH_take (i := 5) (v := ?_) rfl (by kernel_rfl) (by kernel_rfl) (by kernel_rfl) (fun _ _ _ h => h) (Or.inl ⟨by rfl, ?_⟩) (by assumption) ?_
          rotate_left
          · (intro w hSw; (try dsimp only at hSw); simp only [List.getElem_toArray, List.getElem_cons_zero, List.getElem_cons_succ]; go_simp; first | done | with_reducible rfl)
          simp only [List.getElem_toArray, List.getElem_cons_zero, List.getElem_cons_succ, Act.put, List.setIfInBounds_toArray, List.set_cons_zero, List.set_cons_succ]
          refine wpAnyH_take (i := 6) (v := _) rfl (by kernel_rfl) (by kernel_rfl) (by kernel_rfl) (fun _ _ _ h => h) (yieldsIf_load_mid (by rfl) 136 _ rfl (b) (off + k * 260) rfl (rC x sl) _ (fun w hw => hw) (Try.underlying136) rfl (hi)) (by assumption) ?_
          simp only [List.getElem_toArray, List.getElem_cons_zero, List.getElem_cons_succ, Act.put, List.setIfInBounds_toArray, List.set_cons_zero, List.set_cons_succ]
          refine wpAnyH_ready (rs := [7]) (by kernel_rfl) (by simp) ?_
          refine AllReadyH.cons rfl (fun K hK => ?_) AllReadyH.nil
          simp only [List.getElem_toArray, List.getElem_cons_zero, List.getElem_cons_succ]
          go_simp
          refine hK.out _ _ ?_ (fun hHeld => ?_)
          · exact World.rangeAt_alloc hr _
          clear hK K
          try simp only [Act.put, List.setIfInBounds_toArray, List.set_cons_zero, List.set_cons_succ]
          refine wpAnyH_take (i := 8) (v := ?_) rfl (by kernel_rfl) (by kernel_rfl) (by kernel_rfl) (fun _ _ _ h => h) (Or.inl ⟨by rfl, ?_⟩) (by assumption) ?_
          rotate_left
          · (intro w hSw; (try dsimp only at hSw); simp only [List.getElem_toArray, List.getElem_cons_zero, List.getElem_cons_succ]; go_simp; first | done | with_reducible rfl)
          simp only [List.getElem_toArray, List.getElem_cons_zero, List.getElem_cons_succ, Act.put, List.setIfInBounds_toArray, List.set_cons_zero, List.set_cons_succ]
          refine wpAnyH_ready (rs := [9]) (by kernel_rfl) (by simp) ?_
          refine AllReadyH.cons rfl (fun K hK => ?_) AllReadyH.nil
          simp only [List.getElem_toArray, List.getElem_cons_zero, List.getElem_cons_succ]
          go_simp
          refine hK.out _ _ ?_ (fun hHeld => ?_)
          · exact World.rangeAt_alloc hr _
          clear hK K
          try simp only [Act.put, List.setIfInBounds_toArray, List.set_cons_zero, List.set_cons_succ]
          refine wpAnyH_done (by kernel_rfl) ?_ _
          go_wp2_with fail
          go_meet
          exact ⟨rfl, rfl, rfl⟩
        case rest =>
          obtain ⟨rfl, rfl, rfl⟩ := hcut
          have hst0 : RP B w wr.heap.size x sl v' acc (wr.alloc (.cells R 136)).drew := by
            subst hRR
            have h1 := HO.out
            have h2 := HBW.out
            have h3 : Below wr.heap.size wr (wr.alloc (.cells (rC x sl).toArray 136)).drew := (balloc (Below.refl _ wr) _).drew
            exact ⟨h2.trans (h3.mono (by rw [← HB.out] at h2 ⊢; exact h2.size)), rC_box wr _ x sl, by simp, hrd.below h3, ownsRow_below h1 h3, Nat.le_trans (by rw [← HB.out] at h2 ⊢; exact h2.size) h3.size⟩
          have HSt := Lib.hid hst0
          have HOK := Lib.hid hok
          have hd1 := chs_drop hks
          have hd2 : l.drop k = x :: l.drop (k + 1) := by
            rw [List.drop_eq_getElem_cons (by rw [HLL.out]; exact hlt)]
            rw [List.getElem?_eq_getElem (by rw [HLL.out]; exact hlt)] at hx
            rw [Option.some.inj hx]
          have hw0 : wid (s[k]'hks) ≠ 0 := by
            have h1 := HY.out
            unfold may at h1
            have h2 := List.all_eq_true.1 h1 (s[k]'hks) (by
              have : (s[k]'hks) ∈ (chs s).drop k := by rw [hd1]; simp
              exact List.mem_of_mem_drop this)
            simpa using h2
          have hbl3 := HL3.out x (List.mem_of_getElem? hx)
          have hap : ∀ j ∈ ob v', j ≠ wr.heap.size := fun j hj => by have := ownsRow_lt HO.out j hj; omega
          have HAP := Lib.hid hap
          clear hap
          clear hst hrs hst0 hok hRR
          generalize (wr.alloc (.cells R 136)).drew = W at HSt ⊢
          generalize hvb : wr.heap.size = vb at *
          generalize (s[k]'hks) = c at *
          have HN : Hid (lay c x = none → pack (chs s) l = none) := Lib.hid (fun h => by rw [HPK.out, hd1, hd2, pack, h]; rfl)
          have HS1 : Hid (∀ a, lay c x = some a → pack (chs s) l = (pack ((chs s).drop (k + 1)) (l.drop (k + 1))).map ((acc ++ a) ++ ·)) := Lib.hid (fun a h => by
            rw [HPK.out, hd1, hd2, pack, h]
            simp only [Option.bind_some, Option.map_map]
            congr 1
            funext z
            simp [Function.comp])
          obtain ⟨k0, k1, k2, k3, k4⟩ := rC_cells HSt.out.rng
          simp only [Nat.zero_add] at k0 k1 k2 k3 k4
          have HK4 := Lib.hid k4
          have CS := fun W => size_any c W
          clear hd1 hd2 hvb hbl hr hi hx HPK HO HBW k4
          rcases letter_cases c with ⟨hw, hsz, hnum, n63, n42, n35⟩ | hc | hc | hc | ⟨hw1, _⟩
          · rw [hsz] at CS
            have hz1 := wid_num hnum
            have HNUM := Lib.hid (And.intro hnum hz1)
            have c63 : ((c.toNat : Int) == 63) = false := letter_ne n63
            have c42 : ((c.toNat : Int) == 42) = false := letter_ne n42
            have c35 : ((c.toNat : Int) == 35) = false := letter_ne n35
            have HLF : Hid (∀ h56 : x.letter = 56, lay c x = if x.n < 256 ^ wid c then some (low x.n (wid c)) else none) := Lib.hid (fun h56 => by
              unfold lay
              rw [if_pos h56, hnum]
              simp)
            have HLN2 : Hid (x.letter ≠ 56 → lay c x = none) := Lib.hid (fun h56 => by
              unfold lay
              rw [if_neg h56, if_neg n63, if_neg (fun e : c = 42 ∧ _ => n42 e.1), if_neg n35]
              simp)
            generalize (c.toNat : Int) = ci at *
            generalize wid c = z at *
            have gz : decide (0 < z) = true := by simp; omega
            clear hsz hnum n63 n42 n35 hw hw0
            by_cases h56 : x.letter = 56
            · have g56 : ((x.letter.toNat : Int) == 56) = true := by rw [h56]; rfl
              have HL := Lib.hid (HLF.out h56)
              clear h56 HLF HLN2
              generalize (x.letter.toNat : Int) = q at *
              by_cases hf : x.n < 256 ^ z
              · have CF := fun W => fits_any x.n z W HOK.out.n (by omega)
                have hq : (x.n / 256 ^ z == 0) = true := by rw [Nat.div_eq_of_lt hf]; rfl
                simp only [hq] at CF
                have HE : Hid (lay c x = some (low x.n z)) := Lib.hid (by rw [HL.out, if_pos hf])
                have CL := fun W => rlow_any x.n z W HOK.out.n (by omega)
                clear hf hq HL
                go_wp2_with fail
                go_quiet ((first
                  | (go_at_call 132; exact Calls.quiet_of_same ((CS _).mono fun _ _ ⟨a, b⟩ => ⟨a, b.symm⟩))
                  | (go_at_call 133; exact Calls.quiet_of_same ((CF _).mono fun _ _ ⟨a, b⟩ => ⟨a, b.symm⟩))))
                rename_i nq
                have hst2 := HSt.out.mono ((below_drewN (Below.refl _ W) nq).drew)
                have hbz : acc.length + z ≤ 140737488355328 := by have : k * 1000260 ≤ 40 * 1000260 := Nat.mul_le_mul_right _ (by omega)
                                                                  omega
                have hb8 : (low x.n z).length = z := low_len _ _
                have HB8 := Lib.hid hb8
                have hal : acc.length + z ≤ (k + 1) * 1000260 := by rw [Nat.add_mul]; omega
                clear hb8
                go_wp2_with fail
                refine wp_region_held_drew (S := fun X => X.cell? ⟨vb, 1, none⟩ = some (.int .u64 (x.n : Int))) (by kernel_rfl) ?_ (fun hHeld => ?_)
                · exact (rC_cells hst2.rng).2.1
                refine wpAnyH_take (i := 0) (v := ?_) rfl (by kernel_rfl) (by kernel_rfl) (by kernel_rfl) (fun _ _ _ h => h) (Or.inl ⟨by rfl, ?_⟩) (by assumption) ?_
                rotate_left
                · (intro w hSw; (try dsimp only at hSw); simp only [List.getElem_toArray, List.getElem_cons_zero, List.getElem_cons_succ]; go_simp; first | done | with_reducible rfl)
                simp only [List.getElem_toArray, List.getElem_cons_zero, List.getElem_cons_succ, Act.put, List.setIfInBounds_toArray, List.set_cons_zero, List.set_cons_succ]
                refine wpAnyH_take (i := 1) (v := ?_) rfl (by kernel_rfl) (by kernel_rfl) (by kernel_rfl) (fun _ _ _ h => h) (Or.inl ⟨by rfl, ?_⟩) (by assumption) ?_
                rotate_left
                · (intro w hSw; (try dsimp only at hSw); simp only [List.getElem_toArray, List.getElem_cons_zero, List.getElem_cons_succ]; go_simp; first | done | with_reducible rfl)
                simp only [List.getElem_toArray, List.getElem_cons_zero, List.getElem_cons_succ, Act.put, List.setIfInBounds_toArray, List.set_cons_zero, List.set_cons_succ]
                refine wpAnyH_take (i := 2) (v := ?_) rfl (by kernel_rfl) (by kernel_rfl) (by kernel_rfl) (fun _ _ _ h => h) (Or.inl ⟨by rfl, ?_⟩) (by assumption) ?_
                rotate_left
                · (intro w hSw; (try dsimp only at hSw); simp only [List.getElem_toArray, List.getElem_cons_zero, List.getElem_cons_succ]; go_simp; first | done | with_reducible rfl)
                simp only [List.getElem_toArray, List.getElem_cons_zero, List.getElem_cons_succ, Act.put, List.setIfInBounds_toArray, List.set_cons_zero, List.set_cons_succ]
                refine wpAnyH_take (i := 3) (v := ?_) rfl (by kernel_rfl) (by kernel_rfl) (by kernel_rfl) (fun _ _ _ h => h) (Or.inl ⟨by rfl, ?_⟩) (by assumption) ?_
                rotate_left
                · (intro w hSw; (try dsimp only at hSw); simp only [List.getElem_toArray, List.getElem_cons_zero, List.getElem_cons_succ]; go_simp; first | done | with_reducible rfl)
                simp only [List.getElem_toArray, List.getElem_cons_zero, List.getElem_cons_succ, Act.put, List.setIfInBounds_toArray, List.set_cons_zero, List.set_cons_succ]
                refine wpAnyH_ready (rs := [4]) (by kernel_rfl) (by simp) ?_
                refine AllReadyH.cons rfl (fun K hK => ?_) AllReadyH.nil
                simp only [List.getElem_toArray, List.getElem_cons_zero, List.getElem_cons_succ]
                go_simp
                refine (CS _).mono ?_
                rintro e w2 ⟨rfl, rfl⟩
                dsimp only
                refine hK.out _ _ ?_ (fun hHeld => ?_)
                · exact hHeld
                clear hK K
                try simp only [Act.put, List.setIfInBounds_toArray, List.set_cons_zero, List.set_cons_succ]
                refine wpAnyH_ready (rs := [5]) (by kernel_rfl) (by simp) ?_
                refine AllReadyH.cons rfl (fun K hK => ?_) AllReadyH.nil
                simp only [List.getElem_toArray, List.getElem_cons_zero, List.getElem_cons_succ]
                go_simp
                refine (CL _).mono ?_
                rintro e w2 ⟨v2, rfl, ho2, hb2⟩
                dsimp only
                refine hK.out _ _ ?_ (fun hHeld => ?_)
                · exact (rC_cells (hst2.mono hb2).rng).2.1
                clear hK K
                try simp only [Act.put, List.setIfInBounds_toArray, List.set_cons_zero, List.set_cons_succ]
                have hst3 := hst2.mono hb2
                refine wpAnyH_ready (rs := [6]) (by kernel_rfl) (by simp) ?_
                refine AllReadyH.cons rfl (fun K hK => ?_) AllReadyH.nil
                simp only [List.getElem_toArray, List.getElem_cons_zero, List.getElem_cons_succ]
                rw [if_pos (by rfl)]
                refine wp_apps _ _ 24 rfl B 5 _ 1 1 Try.underlying24 infoByte rfl (by decide) (by decide) _ acc.length (bV acc) (by rfl) hst3.own _ z (bV (low x.n z)) (by rfl) (Rd.of_own ho2) (bV_one _) (by omega) hst3.base ?_
                intro v5 w5 ho5 hb5 hg5 hs5 hn5
                refine hK.out _ _ ?_ (fun hHeld => ?_)
                · exact (cell_far hg5 hst3.lt HAP.out).trans (rC_cells hst3.rng).2.1
                clear hK K
                try simp only [Act.put, List.setIfInBounds_toArray, List.set_cons_zero, List.set_cons_succ]
                refine wpAnyH_take (i := 7) (v := ?_) rfl (by kernel_rfl) (by kernel_rfl) (by kernel_rfl) (fun _ _ _ h => h) (Or.inl ⟨by rfl, ?_⟩) (by assumption) ?_
                rotate_left
                · (intro w hSw; (try dsimp only at hSw); simp only [List.getElem_toArray, List.getElem_cons_zero, List.getElem_cons_succ]; go_simp; first | done | with_reducible rfl)
                simp only [List.getElem_toArray, List.getElem_cons_zero, List.getElem_cons_succ, Act.put, List.setIfInBounds_toArray, List.set_cons_zero, List.set_cons_succ]
                refine wpAnyH_done (by kernel_rfl) ?_ _
                have HO5 : Hid (w5.ownsRow B 5 1 v5 (acc ++ low x.n z).length (bV (acc ++ low x.n z))) := Lib.hid (by rw [bV_app, List.length_append, HB8.out]; exact ho5)
                have HB5 := Lib.hid (hst3.below.trans hb5)
                have HLA : Hid ((acc ++ low x.n z).length ≤ (k + 1) * 1000260) := Lib.hid (by rw [List.length_append, HB8.out]; exact hal)
                clear ho5 hb5 hg5 hs5 hn5 hst3 hst2 ho2 hb2 hHeld
                go_wp2_with fail
                go_roundw
                case rel => exact ⟨k + 1, v5, acc ++ low x.n z, by omega, by go_num, rfl, HO5.out, HB5.out, HLA.out, HS1.out _ HE.out⟩
                case measure => simp [intOf]; omega
              · have CF := fun W => fits_any x.n z W HOK.out.n (by omega)
                have hq : (x.n / 256 ^ z == 0) = false := by
                  rw [beq_eq_false_iff_ne]
                  have := Nat.div_pos (Nat.le_of_not_lt hf) (Nat.pow_pos (n := z) (show 0 < 256 by omega))
                  omega
                simp only [hq] at CF
                have HE : Hid (pack (chs s) l = none) := Lib.hid (HN.out (by rw [HL.out, if_neg hf]))
                clear hf hq HL
                go_wp2_with fail
                go_quiet ((first
                  | (go_at_call 132; exact Calls.quiet_of_same ((CS _).mono fun _ _ ⟨a, b⟩ => ⟨a, b.symm⟩))
                  | (go_at_call 133; exact Calls.quiet_of_same ((CF _).mono fun _ _ ⟨a, b⟩ => ⟨a, b.symm⟩))))
                go_wp2_with fail
                go_ret2
                exact PackP.none_of HE.out rfl (by rw [HB.out]; exact below_drewN HSt.out.below _)
            · have g56 : ((x.letter.toNat : Int) == 56) = false := letter_ne h56
              have HE : Hid (pack (chs s) l = none) := Lib.hid (HN.out (HLN2.out h56))
              clear h56
              generalize (x.letter.toNat : Int) = q at *
              go_wp2_with fail
              go_quiet ((go_at_call 132; exact Calls.quiet_of_same ((CS _).mono fun _ _ ⟨a, b⟩ => ⟨a, b.symm⟩)))
              go_wp2_with fail
              go_ret2
              exact PackP.none_of HE.out rfl (by rw [HB.out]; exact below_drewN HSt.out.below _)
          · have hz : szN c = 0 := by rw [hc]; rfl
            have CS0 : ∀ W, Calls Try.prog 132 #[.int .u8 (c.toNat : Int)] W fun e w' => e = .returned (.int .i64 0) ∧ W = w' := fun W => by simpa [hz] using size_any c W
            have c63 : ((c.toNat : Int) == 63) = true := by rw [hc]; rfl
            have c42 : ((c.toNat : Int) == 42) = false := by rw [hc]; rfl
            have c35 : ((c.toNat : Int) == 35) = false := by rw [hc]; rfl
            have HL1 : Hid (x.letter = 63 → lay c x = some [if x.yes then 1 else 0]) := Lib.hid (fun h => by
              unfold lay
              rw [if_neg (by rw [h]; decide), if_pos h, if_pos hc])
            have HLN2 : Hid (x.letter ≠ 63 → lay c x = none) := Lib.hid (fun h => by
              unfold lay
              rw [hc, if_neg (fun e : isNum 63 = true ∧ _ => by cases e.1), if_neg h, if_neg (fun e : (63 : UInt8) = 42 ∧ _ => absurd e.1 (by decide)), if_neg (show (63 : UInt8) ≠ 35 by decide)]
              simp)
            generalize (c.toNat : Int) = ci at *
            clear CS hz hc hw0
            by_cases hl : x.letter = 63
            · have g : ((x.letter.toNat : Int) == 63) = true := by rw [hl]; rfl
              have HL := Lib.hid (HL1.out hl)
              have hal : acc.length + 1 ≤ (k + 1) * 1000260 := by rw [Nat.add_mul]; omega
              have hac : acc.length + 1 ≤ 140737488355328 := by have : k * 1000260 ≤ 40 * 1000260 := Nat.mul_le_mul_right _ (by omega)
                                                                omega
              clear hl HLN2 HL1
              generalize (x.letter.toNat : Int) = q at *
              cases hyy : x.yes
              · rw [hyy] at k2
                have HE : Hid (lay c x = some [0]) := Lib.hid (by rw [HL.out, hyy]; rfl)
                clear hyy
                go_wp2_with fail
                go_quiet ((go_at_call 132; exact Calls.quiet_of_same ((CS0 _).mono fun _ _ ⟨a, b⟩ => ⟨a, b.symm⟩)))
                rename_i nq
                have hst2 := HSt.out.mono (below_drewN (Below.refl _ W) nq)
                have HS2 := Lib.hid hst2
                have hown := hst2.own
                have hbse := hst2.base
                clear hst2
                go_wp2_with (at_builtin; go_must (refine wpList_app rfl _ _ 24 rfl B 5 _ 1 1 Try.underlying24 infoByte rfl (by decide) (by decide) _ acc.length _ rfl hown rfl rfl (by simp [Value.oneCell']) (by omega) hbse ?_); intro v5 w5 ho5 hb5 hg5 hs5 hn5)
                have HO5 : Hid (w5.ownsRow B 5 1 v5 (acc ++ [0]).length (bV (acc ++ [0]))) := Lib.hid (by rw [bV_app, List.length_append]; exact ho5)
                have HB5 := Lib.hid (HS2.out.below.trans hb5)
                have HLA : Hid ((acc ++ [0]).length ≤ (k + 1) * 1000260) := Lib.hid (by rw [List.length_append]; exact hal)
                clear ho5 hb5 hg5 hs5 hn5 hown hbse
                go_wp2_with fail
                go_roundw
                case rel => exact ⟨k + 1, v5, acc ++ [0], by omega, by go_num, rfl, HO5.out, HB5.out, HLA.out, HS1.out _ HE.out⟩
                case measure => simp [intOf]; omega
              · rw [hyy] at k2
                have HE : Hid (lay c x = some [1]) := Lib.hid (by rw [HL.out, hyy]; rfl)
                clear hyy
                go_wp2_with fail
                go_quiet ((go_at_call 132; exact Calls.quiet_of_same ((CS0 _).mono fun _ _ ⟨a, b⟩ => ⟨a, b.symm⟩)))
                rename_i nq
                have hst2 := HSt.out.mono (below_drewN (Below.refl _ W) nq)
                have HS2 := Lib.hid hst2
                have hown := hst2.own
                have hbse := hst2.base
                clear hst2
                go_wp2_with (at_builtin; go_must (refine wpList_app rfl _ _ 24 rfl B 5 _ 1 1 Try.underlying24 infoByte rfl (by decide) (by decide) _ acc.length _ rfl hown rfl rfl (by simp [Value.oneCell']) (by omega) hbse ?_); intro v5 w5 ho5 hb5 hg5 hs5 hn5)
                have HO5 : Hid (w5.ownsRow B 5 1 v5 (acc ++ [1]).length (bV (acc ++ [1]))) := Lib.hid (by rw [bV_app, List.length_append]; exact ho5)
                have HB5 := Lib.hid (HS2.out.below.trans hb5)
                have HLA : Hid ((acc ++ [1]).length ≤ (k + 1) * 1000260) := Lib.hid (by rw [List.length_append]; exact hal)
                clear ho5 hb5 hg5 hs5 hn5 hown hbse
                go_wp2_with fail
                go_roundw
                case rel => exact ⟨k + 1, v5, acc ++ [1], by omega, by go_num, rfl, HO5.out, HB5.out, HLA.out, HS1.out _ HE.out⟩
                case measure => simp [intOf]; omega
            · have g : ((x.letter.toNat : Int) == 63) = false := letter_ne hl
              have HE : Hid (pack (chs s) l = none) := Lib.hid (HN.out (HLN2.out hl))
              clear hl HLN2 HL1
              generalize (x.letter.toNat : Int) = q at *
              go_wp2_with fail
              go_quiet ((go_at_call 132; exact Calls.quiet_of_same ((CS0 _).mono fun _ _ ⟨a, b⟩ => ⟨a, b.symm⟩)))
              go_wp2_with fail
              go_ret2
              exact PackP.none_of HE.out rfl (by rw [HB.out]; exact below_drewN HSt.out.below _)
          · have hz : szN c = 0 := by rw [hc]; rfl
            have CS0 : ∀ W, Calls Try.prog 132 #[.int .u8 (c.toNat : Int)] W fun e w' => e = .returned (.int .i64 0) ∧ W = w' := fun W => by simpa [hz] using size_any c W
            have c63 : ((c.toNat : Int) == 63) = false := by rw [hc]; rfl
            have c42 : ((c.toNat : Int) == 42) = true := by rw [hc]; rfl
            have c35 : ((c.toNat : Int) == 35) = false := by rw [hc]; rfl
            have HL1 : Hid (x.letter = 42 → lay c x = some (low x.b.length 4 ++ x.b)) := Lib.hid (fun h => by
              unfold lay
              rw [if_neg (by rw [h]; decide), if_neg (by rw [h]; decide), if_pos h, if_pos ⟨hc, by omega⟩])
            have HLN2 : Hid (x.letter ≠ 42 → lay c x = none) := Lib.hid (fun h => by
              unfold lay
              rw [hc, if_neg (fun e : isNum 42 = true ∧ _ => by cases e.1), if_neg (show (42 : UInt8) ≠ 63 by decide), if_neg h, if_neg (show (42 : UInt8) ≠ 35 by decide)]
              simp)
            generalize (c.toNat : Int) = ci at *
            clear CS hz hc hw0
            by_cases hl : x.letter = 42
            · have g : ((x.letter.toNat : Int) == 42) = true := by rw [hl]; rfl
              have HL := Lib.hid (HL1.out hl)
              have HR0 := HRD0
              obtain ⟨ao1, cap1, rfl, _, _, ⟨_, q1, q2⟩, _⟩ := HRD0.out
              unfold maxLen at q2
              have hal : acc.length + (4 + x.b.length) ≤ (k + 1) * 1000260 := by rw [Nat.add_mul]; omega
              have hac : acc.length + 4 + x.b.length ≤ 140737488355328 := by have : k * 1000260 ≤ 40 * 1000260 := Nat.mul_le_mul_right _ (by omega)
                                                                             omega
              clear hl HLN2 HL1
              generalize (x.letter.toNat : Int) = q at *
              generalize hxl : x.b.length = L at *
              have HXL := Lib.hid hxl
              have CL : ∀ W, Calls Try.prog 122 #[.int .u64 (L : Int), .int .i64 4] W fun e w' => ∃ v', e = .returned v' ∧ w'.ownsRow W.heap.size 5 1 v' 4 (bV (low L 4)) ∧ Below W.heap.size W w' := fun W => rlow_any L 4 W (by omega) (by omega)
              clear hxl
              go_wp2_with fail
              go_quiet ((go_at_call 132; exact Calls.quiet_of_same ((CS0 _).mono fun _ _ ⟨a, b⟩ => ⟨a, b.symm⟩)))
              rename_i nq
              have hst2 := HSt.out.mono ((below_drewN (Below.refl _ W) nq).drew)
              have HS2 := Lib.hid hst2
              clear hst2
              go_wp2_with fail
              have hst2 := HS2.out
              have hwr : IntKind.u64.wrap (L : Int) = (L : Int) := by rw [wrap_u64_nat, Nat.mod_eq_of_lt (by omega)]
              refine wp_region_held_drew (S := fun X => X.cell? ⟨vb, 3, none⟩ = some (.slice ao1 L cap1)) (by kernel_rfl) ?_ (fun hHeld => ?_)
              · exact (rC_cells hst2.rng).2.2.2.1
              refine wpAnyH_take (i := 0) (v := ?_) rfl (by kernel_rfl) (by kernel_rfl) (by kernel_rfl) (fun _ _ _ h => h) (Or.inl ⟨by rfl, ?_⟩) (by assumption) ?_
              rotate_left
              · (intro w hSw; (try dsimp only at hSw); simp only [List.getElem_toArray, List.getElem_cons_zero, List.getElem_cons_succ]; go_simp; first | done | with_reducible rfl)
              simp only [List.getElem_toArray, List.getElem_cons_zero, List.getElem_cons_succ, Act.put, List.setIfInBounds_toArray, List.set_cons_zero, List.set_cons_succ]
              refine wpAnyH_take (i := 1) (v := ?_) rfl (by kernel_rfl) (by kernel_rfl) (by kernel_rfl) (fun _ _ _ h => h) (Or.inl ⟨by rfl, ?_⟩) (by assumption) ?_
              rotate_left
              · (intro w hSw; (try dsimp only at hSw); simp only [List.getElem_toArray, List.getElem_cons_zero, List.getElem_cons_succ]; go_simp; first | done | with_reducible rfl)
              simp only [List.getElem_toArray, List.getElem_cons_zero, List.getElem_cons_succ, Act.put, List.setIfInBounds_toArray, List.set_cons_zero, List.set_cons_succ]
              refine wpAnyH_take (i := 2) (v := ?_) rfl (by kernel_rfl) (by kernel_rfl) (by kernel_rfl) (fun _ _ _ h => h) (Or.inl ⟨by rfl, ?_⟩) (by assumption) ?_
              rotate_left
              · (intro w hSw; (try dsimp only at hSw); simp only [List.getElem_toArray, List.getElem_cons_zero, List.getElem_cons_succ]; go_simp; first | done | with_reducible rfl)
              simp only [List.getElem_toArray, List.getElem_cons_zero, List.getElem_cons_succ, Act.put, List.setIfInBounds_toArray, List.set_cons_zero, List.set_cons_succ]
              refine wpAnyH_take (i := 3) (v := ?_) rfl (by kernel_rfl) (by kernel_rfl) (by kernel_rfl) (fun _ _ _ h => h) (Or.inl ⟨by rfl, ?_⟩) (by assumption) ?_
              rotate_left
              · (intro w hSw; (try dsimp only at hSw); simp only [List.getElem_toArray, List.getElem_cons_zero, List.getElem_cons_succ]; go_simp; first | done | with_reducible rfl)
              simp only [List.getElem_toArray, List.getElem_cons_zero, List.getElem_cons_succ, Act.put, List.setIfInBounds_toArray, List.set_cons_zero, List.set_cons_succ]
              refine wpAnyH_take (i := 4) (v := ?_) rfl (by kernel_rfl) (by kernel_rfl) (by kernel_rfl) (fun _ _ _ h => h) (Or.inl ⟨by rfl, ?_⟩) (by assumption) ?_
              rotate_left
              · (intro w hSw; (try dsimp only at hSw); simp only [List.getElem_toArray, List.getElem_cons_zero, List.getElem_cons_succ]; go_simp; first | done | with_reducible rfl)
              simp only [List.getElem_toArray, List.getElem_cons_zero, List.getElem_cons_succ, Act.put, List.setIfInBounds_toArray, List.set_cons_zero, List.set_cons_succ]
              refine wpAnyH_take (i := 7) (v := ?_) rfl (by kernel_rfl) (by kernel_rfl) (by kernel_rfl) (fun _ _ _ h => h) (Or.inl ⟨by rfl, ?_⟩) (by assumption) ?_
              rotate_left
              · (intro w hSw; (try dsimp only at hSw); simp only [List.getElem_toArray, List.getElem_cons_zero, List.getElem_cons_succ]; go_simp; first | done | with_reducible rfl)
              simp only [List.getElem_toArray, List.getElem_cons_zero, List.getElem_cons_succ, Act.put, List.setIfInBounds_toArray, List.set_cons_zero, List.set_cons_succ]
              refine wpAnyH_take (i := 8) (v := ?_) rfl (by kernel_rfl) (by kernel_rfl) (by kernel_rfl) (fun _ _ _ h => h) (Or.inl ⟨by rfl, ?_⟩) (by assumption) ?_
              rotate_left
              · (intro w hSw; (try dsimp only at hSw); simp only [List.getElem_toArray, List.getElem_cons_zero, List.getElem_cons_succ]; go_simp; first | done | with_reducible rfl)
              simp only [List.getElem_toArray, List.getElem_cons_zero, List.getElem_cons_succ, Act.put, List.setIfInBounds_toArray, List.set_cons_zero, List.set_cons_succ]
              refine wpAnyH_ready (rs := [5]) (by kernel_rfl) (by simp) ?_
              refine AllReadyH.cons rfl (fun K hK => ?_) AllReadyH.nil
              simp only [List.getElem_toArray, List.getElem_cons_zero, List.getElem_cons_succ]
              go_simp
              refine (CL _).mono ?_
              rintro e w2 ⟨v2, rfl, ho2, hb2⟩
              dsimp only
              refine hK.out _ _ ?_ (fun hHeld => ?_)
              · exact (rC_cells (hst2.mono hb2).rng).2.2.2.1
              clear hK K
              try simp only [Act.put, List.setIfInBounds_toArray, List.set_cons_zero, List.set_cons_succ]
              clear hwr
              have hst3 := hst2.mono hb2
              refine wpAnyH_ready (rs := [6]) (by kernel_rfl) (by simp) ?_
              refine AllReadyH.cons rfl (fun K hK => ?_) AllReadyH.nil
              simp only [List.getElem_toArray, List.getElem_cons_zero, List.getElem_cons_succ]
              rw [if_pos (by rfl)]
              refine wp_apps _ _ 24 rfl B 5 _ 1 1 Try.underlying24 infoByte rfl (by decide) (by decide) _ acc.length (bV acc) (by rfl) hst3.own _ 4 (bV (low L 4)) (by rfl) (Rd.of_own ho2) (bV_one _) (by omega) hst3.base ?_
              intro v5 w5 ho5 hb5 hg5 hs5 hn5
              refine hK.out _ _ ?_ (fun hHeld => ?_)
              · exact (cell_far hg5 hst3.lt HAP.out).trans (rC_cells hst3.rng).2.2.2.1
              clear hK K
              try simp only [Act.put, List.setIfInBounds_toArray, List.set_cons_zero, List.set_cons_succ]
              have hb05 := hst3.below.trans hb5
              have hap5 : ∀ j ∈ ob v5, j ≠ vb := fun j hj => by
                rcases (Chg.of_grown hg5 hs5).2 j hj with h | h
                · exact HAP.out j h
                · have := hst3.lt; omega
              have hrd5 := HR0.out.below (by rw [HB.out]; exact hb05)
              have hl5 : vb < w5.heap.size := Nat.lt_of_lt_of_le hst3.lt hg5.size
              have hb5s : B ≤ w5.heap.size := Nat.le_trans hst3.base hg5.size
              have hk5 : w5.cell? ⟨vb, 3, none⟩ = some (.slice ao1 L cap1) := (cell_far hg5 hst3.lt HAP.out).trans (rC_cells hst3.rng).2.2.2.1
              refine wpAnyH_ready (rs := [9]) (by kernel_rfl) (by simp) ?_
              refine AllReadyH.cons rfl (fun K hK => ?_) AllReadyH.nil
              simp only [List.getElem_toArray, List.getElem_cons_zero, List.getElem_cons_succ]
              rw [if_pos (by rfl)]
              refine wp_apps _ _ 24 rfl B 5 _ 1 1 Try.underlying24 infoByte rfl (by decide) (by decide) _ (acc.length + 4) (bV acc ++ bV (low L 4)) (by rfl) ho5 _ L (bV x.b) (by rfl) hrd5 (bV_one _) (by omega) hb5s ?_
              intro v6 w6 ho6 hb6 hg6 hs6 hn6
              refine hK.out _ _ ?_ (fun hHeld => ?_)
              · exact (cell_far hg6 hl5 hap5).trans hk5
              clear hK K
              try simp only [Act.put, List.setIfInBounds_toArray, List.set_cons_zero, List.set_cons_succ]
              refine wpAnyH_take (i := 10) (v := ?_) rfl (by kernel_rfl) (by kernel_rfl) (by kernel_rfl) (fun _ _ _ h => h) (Or.inl ⟨by rfl, ?_⟩) (by assumption) ?_
              rotate_left
              · (intro w hSw; (try dsimp only at hSw); simp only [List.getElem_toArray, List.getElem_cons_zero, List.getElem_cons_succ]; go_simp; first | done | with_reducible rfl)
              simp only [List.getElem_toArray, List.getElem_cons_zero, List.getElem_cons_succ, Act.put, List.setIfInBounds_toArray, List.set_cons_zero, List.set_cons_succ]
              refine wpAnyH_done (by kernel_rfl) ?_ _
              have h4 : (low L 4).length = 4 := low_len _ _
              have HE : Hid (lay c x = some (low L 4 ++ x.b)) := HL
              have HO6 : Hid (w6.ownsRow B 5 1 v6 (acc ++ (low L 4 ++ x.b)).length (bV (acc ++ (low L 4 ++ x.b)))) := Lib.hid (by rw [bV_app, bV_app, List.length_append, List.length_append, h4, HXL.out, ← Nat.add_assoc, ← List.append_assoc]; exact ho6)
              have HB6 := Lib.hid (hb05.trans hb6)
              have HLA : Hid ((acc ++ (low L 4 ++ x.b)).length ≤ (k + 1) * 1000260) := Lib.hid (by rw [List.length_append, List.length_append, h4, HXL.out]; exact hal)
              clear ho5 hb5 hg5 hs5 hn5 ho6 hb6 hg6 hs6 hn6 hst3 hst2 ho2 hb2 hHeld hb05 hap5 hrd5 hl5 hb5s hk5 h4
              go_wp2_with fail
              go_roundw
              case rel => exact ⟨k + 1, v6, acc ++ (low L 4 ++ x.b), by omega, by go_num, rfl, HO6.out, HB6.out, HLA.out, HS1.out _ HE.out⟩
              case measure => simp [intOf]; omega
            · have g : ((x.letter.toNat : Int) == 42) = false := letter_ne hl
              have HE : Hid (pack (chs s) l = none) := Lib.hid (HN.out (HLN2.out hl))
              clear hl HLN2 HL1
              generalize (x.letter.toNat : Int) = q at *
              go_wp2_with fail
              go_quiet ((go_at_call 132; exact Calls.quiet_of_same ((CS0 _).mono fun _ _ ⟨a, b⟩ => ⟨a, b.symm⟩)))
              go_wp2_with fail
              go_ret2
              exact PackP.none_of HE.out rfl (by rw [HB.out]; exact below_drewN HSt.out.below _)
          · have hz : szN c = 0 := by rw [hc]; rfl
            have CS0 : ∀ W, Calls Try.prog 132 #[.int .u8 (c.toNat : Int)] W fun e w' => e = .returned (.int .i64 0) ∧ W = w' := fun W => by simpa [hz] using size_any c W
            have c63 : ((c.toNat : Int) == 63) = false := by rw [hc]; rfl
            have c42 : ((c.toNat : Int) == 42) = false := by rw [hc]; rfl
            have c35 : ((c.toNat : Int) == 35) = true := by rw [hc]; rfl
            have HL1 : Hid (x.letter = 35 → lay c x = some x.x) := Lib.hid (fun h => by
              unfold lay
              rw [if_neg (by rw [h]; decide), if_neg (by rw [h]; decide), if_neg (by rw [h]; decide), if_pos h, if_pos hc])
            have HLN2 : Hid (x.letter ≠ 35 → lay c x = none) := Lib.hid (fun h => by
              unfold lay
              rw [hc, if_neg (fun e : isNum 35 = true ∧ _ => by cases e.1), if_neg (show (35 : UInt8) ≠ 63 by decide), if_neg (fun e : (35 : UInt8) = 42 ∧ _ => absurd e.1 (by decide)), if_neg h]
              simp)
            generalize (c.toNat : Int) = ci at *
            clear CS hz hc hw0
            by_cases hl : x.letter = 35
            · have g : ((x.letter.toNat : Int) == 35) = true := by rw [hl]; rfl
              have HE := Lib.hid (HL1.out hl)
              have hal : acc.length + 256 ≤ (k + 1) * 1000260 := by rw [Nat.add_mul]; omega
              have hac : acc.length + 256 ≤ 140737488355328 := by have : k * 1000260 ≤ 40 * 1000260 := Nat.mul_le_mul_right _ (by omega)
                                                                  omega
              clear hl HLN2 HL1
              generalize (x.letter.toNat : Int) = q at *
              go_wp2_with fail
              go_quiet ((go_at_call 132; exact Calls.quiet_of_same ((CS0 _).mono fun _ _ ⟨a, b⟩ => ⟨a, b.symm⟩)))
              rename_i nq
              have hst2 := HSt.out.mono (below_drewN (Below.refl _ W) nq)
              have HS2 := Lib.hid hst2
              have hown := hst2.own
              have hbse := hst2.base
              have hrx := rd_range (rC_cells hst2.rng).2.2.2.2 hst2.lt HOK.out.x (by omega)
              have HRX := Lib.hid hrx
              clear hst2 hrx
              go_wp2_with (at_builtin; go_must (refine wpList_apps rfl _ _ 24 rfl B 5 _ 1 1 Try.underlying24 infoByte rfl (by decide) (by decide) _ acc.length _ rfl hown _ 256 _ rfl HRX.out (bV_one _) (by omega) hbse ?_); intro v5 w5 ho5 hb5 hg5 hs5 hn5)
              have HO5 : Hid (w5.ownsRow B 5 1 v5 (acc ++ x.x).length (bV (acc ++ x.x))) := Lib.hid (by rw [bV_app, List.length_append, HOK.out.x]; exact ho5)
              have HB5 := Lib.hid (HS2.out.below.trans hb5)
              have HLA : Hid ((acc ++ x.x).length ≤ (k + 1) * 1000260) := Lib.hid (by rw [List.length_append, HOK.out.x]; exact hal)
              clear ho5 hb5 hg5 hs5 hn5 hown hbse
              go_wp2_with fail
              go_roundw
              case rel => exact ⟨k + 1, v5, acc ++ x.x, by omega, by go_num, rfl, HO5.out, HB5.out, HLA.out, HS1.out _ HE.out⟩
              case measure => simp [intOf]; omega
            · have g : ((x.letter.toNat : Int) == 35) = false := letter_ne hl
              have HE : Hid (pack (chs s) l = none) := Lib.hid (HN.out (HLN2.out hl))
              clear hl HLN2 HL1
              generalize (x.letter.toNat : Int) = q at *
              go_wp2_with fail
              go_quiet ((go_at_call 132; exact Calls.quiet_of_same ((CS0 _).mono fun _ _ ⟨a, b⟩ => ⟨a, b.symm⟩)))
              go_wp2_with fail
              go_ret2
              exact PackP.none_of HE.out rfl (by rw [HB.out]; exact below_drewN HSt.out.below _)
          · exact absurd hw1 hw0
      · obtain rfl : k = n := by omega
        have HE : Hid (pack (chs s) l = some acc) := Lib.hid (by
          rw [HPK.out, List.drop_eq_nil_of_le (by rw [chs_len, ← HLN.out]; exact Nat.le_refl _), List.drop_eq_nil_of_le (by rw [HLL.out]; exact Nat.le_refl _)]
          simp [pack])
        go_wp2_with fail
        go_ret2
        exact PackP.some_of HE.out rfl (by rw [HB.out]; exact HO.out) (by rw [HB.out]; exact HBW.out)
  · have HE : Hid (pack (chs s) l = none) := Lib.hid (pack_length _ _ (by rw [chs_len, HLL.out]; omega))
    have g1 : ((n : Int) != (s.size : Int)) = true := by rw [bne_iff_ne]; omega
    clear hln
    go_enter Try.func93, Try.ntmps93
    go_wp2_with fail
    refine CY.mono ?_
    rintro e w1 ⟨rfl, rfl⟩
    go_wp2_with fail
    go_ret2
    exact PackP.none_of HE.out rfl (Below.refl _ _)
theorem rpack_any (s : ByteArray) (ao : Option Addr) (n cap : Nat) (l : List V) (w : World) (hv : RVs w ao n cap l) (hn : n ≤ 40) (hs : s.size ≤ 40) (hl : ∀ x ∈ l, x.b.length ≤ 3000) :
    Calls Try.prog 93 #[.string s, .slice ao n cap] w (PackP w (pack (chs s) l)) := rpack_big s ao n cap l w hv hn hs (fun x hx => Nat.le_trans (hl x hx) (by decide))
end Go.Proofs.Ytgkelbdgdhkeoaa
