/- wire.lift, walked. -/
import Derived.Test.YtgkelbdgdhkeoaaPack
namespace Go.Proofs.Ytgkelbdgdhkeoaa
open Go.RowKit
set_option linter.unusedVariables false
set_option linter.unusedSimpArgs false
open Wire

/-- A value as the program answers it: its bytes in new memory. -/
def AnyO (base : Nat) (w : World) (u : Value) (v : V) : Prop :=
  (v.letter = 56 ∧ u = .iface 23 (.int .u64 (v.n : Int)) ∧ v.n < 18446744073709551616) ∨
  (v.letter = 63 ∧ u = .iface 4 (.bool v.yes)) ∨
  (v.letter = 42 ∧ ∃ sl, u = .iface 24 sl ∧ w.ownsRow base 5 1 sl v.b.length (bV v.b)) ∨
  (v.letter = 35 ∧ u = .iface 77 (bA v.x) ∧ v.x.length = 256)
theorem AnyO.any {base : Nat} {w : World} {u : Value} {v : V} (h : AnyO base w u v) : AnyV w u v := by
  rcases h with h | h | ⟨h, sl, h1, h2⟩ | h
  · exact .inl h
  · exact .inr (.inl h)
  · exact .inr (.inr (.inl ⟨h, sl, h1, Rd.of_own h2⟩))
  · exact .inr (.inr (.inr (.inl h)))
theorem AnyO.below {base : Nat} {w w' : World} {u : Value} {v : V} (h : AnyO base w u v) (hb : Below w.heap.size w w') : AnyO base w' u v := by
  rcases h with h | h | ⟨h, sl, h1, h2⟩ | h
  · exact .inl h
  · exact .inr (.inl h)
  · exact .inr (.inr (.inl ⟨h, sl, h1, ownsRow_below h2 hb⟩))
  · exact .inr (.inr (.inr h))
theorem AnyO.iface {base : Nat} {w : World} {u : Value} {v : V} (h : AnyO base w u v) : ∃ t y, u = .iface t y := by
  rcases h with ⟨_, h, _⟩ | ⟨_, h⟩ | ⟨_, _, h, _⟩ | ⟨_, h, _⟩ <;> exact ⟨_, _, h⟩

/-- What lift leaves. -/
def LiftP (w : World) (o : Option (V × Nat)) (e : Ending) (w' : World) : Prop :=
  Below w.heap.size w w' ∧ match o with
    | some (x, k) => ∃ u, e = .returned (.tuple #[u, .int .i64 (k : Int)]) ∧ AnyO w.heap.size w' u x
    | none => e = .returned (.tuple #[.nilIface, .int .i64 0])
theorem LiftP.none_of {w w' : World} {o : Option (V × Nat)} {e : Ending} (ho : o = none) (he : e = .returned (.tuple #[.nilIface, .int .i64 0])) (hb : Below w.heap.size w w') : LiftP w o e w' := by
  subst ho; exact ⟨hb, he⟩
theorem LiftP.some_of {w w' : World} {o : Option (V × Nat)} {x : V} {k : Nat} {u : Value} {e : Ending} (ho : o = some (x, k)) (he : e = .returned (.tuple #[u, .int .i64 (k : Int)])) (ha : AnyO w.heap.size w' u x) (hb : Below w.heap.size w w') : LiftP w o e w' := by
  subst ho; exact ⟨hb, u, he, ha⟩

theorem run_cutH {P : Program} (w : World) (t : TypeId) (ao : Option Addr) (n cap size : Nat) (ht : P.underlying t = some (.slice (P.elem t))) (hs : ∀ w, (sizeOf (P.elem t)).run P w = .ok size w) (h : Int) (h0 : 0 ≤ h) (h1 : h ≤ cap) :
    (Instr.slice t (.slice ao n cap) none (some (.int .i64 h)) none).run P w = .ok (.slice (cutA ao cap 0 size) h.toNat cap) w := by
  rw [run_slice_h w t ao n cap ht .i64 h h0 h1, hs]
  rfl
theorem szBytes (w : World) : (sizeOf (Try.prog.elem 24)).run Try.prog w = .ok 1 w := by kernel_rfl
theorem undBytes : Try.prog.underlying 24 = some (.slice (Try.prog.elem 24)) := by kernel_rfl

/-- The first bytes of a slice. -/
theorem Rd.head {w : World} {n cap : Nat} {ao : Option Addr} {bs : List UInt8} (h : Rd w 1 (.slice ao n cap) n (bV bs)) {k : Nat} (hk : k ≤ n) : Rd w 1 (.slice (cutA ao cap 0 1) k cap) k (bV (bs.take k)) := by
  have := h.cut (Nat.zero_le k) hk
  simpa [bV] using this
theorem Rd.mid {w : World} {n cap : Nat} {ao : Option Addr} {bs : List UInt8} (h : Rd w 1 (.slice ao n cap) n (bV bs)) {l k : Nat} (hl : l ≤ k) (hk : k ≤ n) : Rd w 1 (.slice (cutA ao cap l 1) (k - l) (cap - l)) (k - l) (bV ((bs.drop l).take (k - l))) := by
  have := h.cut hl hk
  simpa [bV] using this
theorem sum_take_lt (bs : List UInt8) (k : Nat) (hk : k ≤ 8) : sum (bs.take k) < 18446744073709551616 := by
  refine Nat.lt_of_lt_of_le (sum_lt _) ?_
  have : 256 ^ (bs.take k).length ≤ 256 ^ 8 := Nat.pow_le_pow_right (by omega) (by rw [List.length_take]; omega)
  exact Nat.le_trans this (by decide)

set_option maxRecDepth 100000 in
set_option maxHeartbeats 3200000 in
theorem lift_num (c : UInt8) (hc : isNum c = true) {w : World} {v : Value} {m : Nat} {bs : List UInt8} (hrd : Rd w 1 v m (bV bs)) (hm : m ≤ 100000000) :
    Calls Try.prog 135 #[.int .i32 (c.toNat : Int), v] w (LiftP w (lift c bs)) := by
  obtain ⟨k, hk, hk1, hk8⟩ : ∃ k, widI (c.toNat : Int) = k ∧ 1 ≤ k ∧ k ≤ 8 := by
    refine ⟨_, rfl, ?_⟩
    simp only [isNum, Bool.or_eq_true, beq_iff_eq] at hc
    rcases hc with ((rfl | rfl) | rfl) | rfl <;> decide
  have h63 : c ≠ 63 := by rintro rfl; cases hc
  have h42 : c ≠ 42 := by rintro rfl; cases hc
  have h35 : c ≠ 35 := by rintro rfl; cases hc
  have hlen : bs.length = m := by obtain ⟨_, _, _, hl, _⟩ := hrd; simpa [bV] using hl
  have HSP : Hid (lift c bs = if m < k then none else some (num (sum (bs.take k)), k)) := Lib.hid (by
    unfold lift wid
    rw [hlen, hk, if_neg h63, if_neg h42, if_neg h35])
  have HS := Lib.hid (sum_take_lt bs k hk8)
  have CW := width_any (c.toNat : Int) w (by omega) (by have := c.toNat_lt; omega)
  rw [hk] at CW
  have g63 : ((c.toNat : Int) == 63) = false := by
    rw [beq_eq_false_iff_ne]; intro h; exact h63 (UInt8.toNat_inj.1 (by simp only [UInt8.reduceToNat]; omega))
  have g42 : ((c.toNat : Int) == 42) = false := by
    rw [beq_eq_false_iff_ne]; intro h; exact h42 (UInt8.toNat_inj.1 (by simp only [UInt8.reduceToNat]; omega))
  have g35 : ((c.toNat : Int) == 35) = false := by
    rw [beq_eq_false_iff_ne]; intro h; exact h35 (UInt8.toNat_inj.1 (by simp only [UInt8.reduceToNat]; omega))
  have hcr := c.toNat_lt
  generalize (c.toNat : Int) = r at *
  have HRD := Lib.hid hrd
  obtain ⟨ao, cap, rfl, _, _, ⟨_, hc1, hc2⟩, _⟩ := hrd
  have HCH := Lib.hid (fun hkm : k ≤ m => high_any _ k (bs.take k) w (HRD.out.head hkm) hk8)
  clear hlen hk h63 h42 h35 hc hcr
  by_cases hlt : m < k
  · have HE : Hid (lift c bs = none) := Lib.hid (by rw [HSP.out, if_pos hlt])
    go_enter Try.func135, Try.ntmps135
    go_wp2_with fail
    refine CW.mono ?_
    rintro e w1 ⟨rfl, rfl⟩
    go_wp2_with fail
    go_ret2
    exact LiftP.none_of HE.out rfl (Below.refl _ _)
  · have hcut := fun W => run_cutH (P := Try.prog) W 24 ao m cap 1 undBytes szBytes (k : Int) (by omega) (by omega)
    have HE : Hid (lift c bs = some (num (sum (bs.take k)), k)) := Lib.hid (by rw [HSP.out, if_neg hlt])
    have CH := HCH.out (by omega)
    simp only [Int.toNat_natCast] at hcut
    go_enter Try.func135, Try.ntmps135
    go_wp2_with fail
    refine CW.mono ?_
    rintro e w1 ⟨rfl, rfl⟩
    go_wp2_with fail
    refine CH.mono ?_
    rintro e w2 ⟨rfl, hb⟩
    have HB := Lib.hid hb
    clear hb CH CW
    go_wp2_with fail
    go_ret2
    exact LiftP.some_of HE.out rfl (.inl ⟨rfl, rfl, HS.out⟩) HB.out

set_option maxRecDepth 100000 in
set_option maxHeartbeats 3200000 in
theorem lift_flag {w : World} {v : Value} {m : Nat} {bs : List UInt8} (hrd : Rd w 1 v m (bV bs)) (hm : m ≤ 100000000) :
    Calls Try.prog 135 #[.int .i32 63, v] w (LiftP w (lift 63 bs)) := by
  have hlen : bs.length = m := by obtain ⟨_, _, _, hl, _⟩ := hrd; simpa [bV] using hl
  have CW := width_any 63 w (by omega) (by omega)
  rw [show widI 63 = 1 from rfl] at CW
  have HRD := Lib.hid hrd
  obtain ⟨ao, cap, rfl, _, _, ⟨_, hc1, hc2⟩, hcell⟩ := hrd
  cases bs with
  | nil =>
    obtain rfl : m = 0 := by simpa using hlen.symm
    have HE : Hid (lift 63 [] = none) := Lib.hid rfl
    clear hcell hlen
    go_enter Try.func135, Try.ntmps135
    go_wp2_with fail
    refine CW.mono ?_
    rintro e w1 ⟨rfl, rfl⟩
    go_wp2_with fail
    go_ret2
    exact LiftP.none_of HE.out rfl (Below.refl _ _)
  | cons b0 bs =>
    obtain ⟨b, off, rfl, hbl, hce⟩ := hcell 0 _ (bV_get rfl)
    rw [Nat.add_zero] at hce
    have hm1 : 1 ≤ m := by simp at hlen; omega
    have hb0 := b0.toNat_lt
    have HSP : Hid (lift 63 (b0 :: bs) = if 1 < b0.toNat then none else some (flag (b0 == 1), 1)) := Lib.hid (by
      unfold lift
      rw [if_neg (by rw [show wid 63 = 1 from rfl]; simp), if_pos rfl]
      rfl)
    have HQ : Hid ((b0 == 1) = ((b0.toNat : Int) == 1)) := Lib.hid (by
      rw [Bool.eq_iff_iff, beq_iff_eq, beq_iff_eq]
      constructor
      · rintro rfl; rfl
      · intro h; exact UInt8.toNat_inj.1 (by simp only [UInt8.reduceToNat]; omega))
    generalize (b0.toNat) = q at *
    clear hcell hlen
    by_cases hq : 1 < q
    · have HE : Hid (lift 63 (b0 :: bs) = none) := Lib.hid (by rw [HSP.out, if_pos hq])
      go_enter Try.func135, Try.ntmps135
      go_wp2_with fail
      refine CW.mono ?_
      rintro e w1 ⟨rfl, rfl⟩
      go_wp2_with fail
      go_ret2
      exact LiftP.none_of HE.out rfl (Below.refl _ _)
    · have HE : Hid (lift 63 (b0 :: bs) = some (flag (b0 == 1), 1)) := Lib.hid (by rw [HSP.out, if_neg hq])
      go_enter Try.func135, Try.ntmps135
      go_wp2_with fail
      refine CW.mono ?_
      rintro e w1 ⟨rfl, rfl⟩
      go_wp2_with fail
      go_ret2
      exact LiftP.some_of HE.out rfl (.inr (.inl ⟨rfl, by rw [HQ.out]; rfl⟩)) (Below.refl _ _)

set_option maxRecDepth 100000 in
set_option maxHeartbeats 3200000 in
theorem lift_blob {w : World} {v : Value} {m : Nat} {bs : List UInt8} (hrd : Rd w 1 v m (bV bs)) (hm : m ≤ 100000000) :
    Calls Try.prog 135 #[.int .i32 42, v] w (LiftP w (lift 42 bs)) := by
  have hlen : bs.length = m := by obtain ⟨_, _, _, hl, _⟩ := hrd; simpa [bV] using hl
  have CW := width_any 42 w (by omega) (by omega)
  rw [show widI 42 = 4 from rfl] at CW
  have HRD := Lib.hid hrd
  obtain ⟨ao, cap, rfl, _, _, ⟨_, hc1, hc2⟩, _⟩ := hrd
  by_cases hlt : m < 4
  · have HE : Hid (lift 42 bs = none) := Lib.hid (by unfold lift; rw [if_pos (by rw [hlen]; exact hlt)])
    clear hlen
    go_enter Try.func135, Try.ntmps135
    go_wp2_with fail
    refine CW.mono ?_
    rintro e w1 ⟨rfl, rfl⟩
    go_wp2_with fail
    go_ret2
    exact LiftP.none_of HE.out rfl (Below.refl _ _)
  · have HSP : Hid (lift 42 bs = if 16777216 < sum (bs.take 4) ∨ m - 4 < sum (bs.take 4) then none else some (blob ((bs.drop 4).take (sum (bs.take 4))), 4 + sum (bs.take 4))) := Lib.hid (by
      unfold lift
      rw [if_neg (by rw [hlen]; exact hlt), if_neg (by decide), if_pos rfl, hlen])
    have CH := high_any _ 4 (bs.take 4) w (HRD.out.head (by omega)) (by omega)
    have hcut := fun W => run_cutH (P := Try.prog) W 24 ao m cap 1 undBytes szBytes (4 : Int) (by omega) (by omega)
    have hs8 := sum_take_lt bs 4 (by omega)
    have HL := Lib.hid hlen
    simp only [Int.reduceToNat] at hcut
    generalize sum (bs.take 4) = s at *
    clear hlen
    by_cases hbig : 16777216 < s
    · have HE : Hid (lift 42 bs = none) := Lib.hid (by rw [HSP.out, if_pos (.inl hbig)])
      go_enter Try.func135, Try.ntmps135
      go_wp2_with fail
      refine CW.mono ?_
      rintro e w1 ⟨rfl, rfl⟩
      go_wp2_with fail
      refine CH.mono ?_
      rintro e w2 ⟨rfl, hb⟩
      have HB := Lib.hid hb
      clear hb CH CW
      go_wp2_with fail
      go_ret2
      exact LiftP.none_of HE.out rfl HB.out
    · by_cases hsh : m - 4 < s
      · have HE : Hid (lift 42 bs = none) := Lib.hid (by rw [HSP.out, if_pos (.inr hsh)])
        go_enter Try.func135, Try.ntmps135
        go_wp2_with fail
        refine CW.mono ?_
        rintro e w1 ⟨rfl, rfl⟩
        go_wp2_with fail
        refine CH.mono ?_
        rintro e w2 ⟨rfl, hb⟩
        have HB := Lib.hid hb
        clear hb CH CW
        go_wp2_with fail
        go_ret2
        exact LiftP.none_of HE.out rfl HB.out
      · have HE : Hid (lift 42 bs = some (blob ((bs.drop 4).take s), 4 + s)) := Lib.hid (by rw [HSP.out, if_neg (by omega)])
        have hcut2 := fun W => run_cut (P := Try.prog) W 24 ao m cap 1 undBytes szBytes (4 : Int) (4 + s : Int) (by omega) (by omega) (by omega)
        rw [show ((4 : Int) + (s : Int)).toNat = 4 + s by omega] at hcut2
        simp only [Int.reduceToNat] at hcut2
        have hrm := HRD.out.mid (show 4 ≤ 4 + s by omega) (show 4 + s ≤ m by omega)
        rw [show 4 + s - 4 = s by omega] at hrm
        have HRM := Lib.hid hrm
        have HBL : Hid (((bs.drop 4).take s).length = s) := Lib.hid (by rw [List.length_take, List.length_drop, HL.out]; omega)
        clear hrm
        go_enter Try.func135, Try.ntmps135
        go_wp2_with fail
        refine CW.mono ?_
        rintro e w1 ⟨rfl, rfl⟩
        go_wp2_with fail
        refine CH.mono ?_
        rintro e w2 ⟨rfl, hb⟩
        have HB := Lib.hid hb
        have hr2 := HRM.out.below hb
        have CC := clone8 _ s _ w2 hr2 (by omega)
        clear hb CH CW hr2
        go_wp2_with fail
        refine CC.mono ?_
        rintro e w3 ⟨v3, rfl, ho3, hb3⟩
        have HO3 := Lib.hid ho3
        have HB3 := Lib.hid hb3
        clear CC ho3 hb3
        go_wp2_with fail
        go_ret2
        refine LiftP.some_of HE.out rfl (.inr (.inr (.inl ⟨rfl, v3, rfl, ?_⟩))) (HB.out.trans (HB3.out.mono HB.out.size))
        have := HO3.out
        have hl : (blob ((bs.drop 4).take s)).b.length = s := HBL.out
        rw [hl]
        exact ownsRow_base this HB.out.size

set_option maxRecDepth 100000 in
set_option maxHeartbeats 3200000 in
theorem lift_blk {w : World} {v : Value} {m : Nat} {bs : List UInt8} (hrd : Rd w 1 v m (bV bs)) (hm : m ≤ 100000000) :
    Calls Try.prog 135 #[.int .i32 35, v] w (LiftP w (lift 35 bs)) := by
  have hlen : bs.length = m := by obtain ⟨_, _, _, hl, _⟩ := hrd; simpa [bV] using hl
  have CW := width_any 35 w (by omega) (by omega)
  rw [show widI 35 = 256 from rfl] at CW
  have HRD := Lib.hid hrd
  obtain ⟨ao, cap, rfl, _, _, ⟨_, hc1, hc2⟩, hcell⟩ := hrd
  by_cases hlt : m < 256
  · have HE : Hid (lift 35 bs = none) := Lib.hid (by unfold lift; rw [if_pos (by rw [hlen]; exact hlt)])
    clear hlen hcell
    go_enter Try.func135, Try.ntmps135
    go_wp2_with fail
    refine CW.mono ?_
    rintro e w1 ⟨rfl, rfl⟩
    go_wp2_with fail
    go_ret2
    exact LiftP.none_of HE.out rfl (Below.refl _ _)
  · have HE : Hid (lift 35 bs = some (blk (bs.take 256), 256)) := Lib.hid (by
      unfold lift
      rw [if_neg (by rw [hlen]; exact hlt), if_neg (by decide), if_neg (by decide), if_pos rfl])
    have h256 : (bs.take 256).length = 256 := by rw [List.length_take, hlen]; omega
    have H256 := Lib.hid h256
    obtain ⟨b, off, rfl⟩ : ∃ b off, ao = some ⟨b, off, none⟩ := by
      obtain ⟨b, off, h, _, _⟩ := hcell 0 _ (bV_get (List.getElem?_eq_getElem (by omega)))
      exact ⟨b, off, h⟩
    have hra : w.rangeAt b off (bV (bs.take 256)) := fun j u hj => by
      have hj1 : (bV bs)[j]? = some u := by
        unfold bV at hj ⊢
        rw [List.map_take, List.getElem?_take] at hj
        split at hj
        · exact hj
        · cases hj
      obtain ⟨b', off', e, _, hce⟩ := hcell j u hj1
      obtain ⟨rfl, rfl⟩ : b = b' ∧ off = off' := by simpa using e
      exact hce
    have hcut := fun W => run_cutH (P := Try.prog) W 24 (some ⟨b, off, none⟩) m cap 1 undBytes szBytes (256 : Int) (by omega) (by omega)
    have hca : cutA (some ⟨b, off, none⟩) cap 0 1 = some ⟨b, off, none⟩ := by
      unfold cutA
      split
      · rfl
      · simp [Addr.add_lit]
    rw [hca] at hcut
    simp only [Int.reduceToNat] at hcut
    have hi : (Try.prog.info? 77).map (·.size) = some (bV (bs.take 256)).length := by rw [bV_len, h256]; kernel_rfl
    have HIR := Lib.hid (And.intro hra hi)
    have hat := fun W => run_arrayAt (P := Try.prog) (w := W) 77 _ 256 (some ⟨b, off, none⟩) 256 cap Try.underlying77 (Nat.le_refl _)
    generalize hgl : bV (bs.take 256) = L at *
    clear hlen hcell h256 hra hca hi
    go_enter Try.func135, Try.ntmps135
    go_wp2_with fail
    refine CW.mono ?_
    rintro e w1 ⟨rfl, rfl⟩
    go_wp2_with fail
    refine wp_load_mid 77 _ rfl b off rfl L _ HIR.out.1 Try.underlying77 rfl HIR.out.2 ?_
    generalize hgc : L.toArray = C
    go_wp2_with fail
    go_ret2
    subst hgc
    subst hgl
    exact LiftP.some_of HE.out rfl (.inr (.inr (.inr ⟨rfl, rfl, H256.out⟩))) (Below.refl _ _)

theorem lift_any (c : UInt8) (hc : wid c ≠ 0) {w : World} {v : Value} {m : Nat} {bs : List UInt8} (hrd : Rd w 1 v m (bV bs)) (hm : m ≤ 100000000) :
    Calls Try.prog 135 #[.int .i32 (c.toNat : Int), v] w (LiftP w (lift c bs)) := by
  by_cases h1 : isNum c = true
  · exact lift_num c h1 hrd hm
  by_cases h2 : c = 63
  · subst h2; exact lift_flag hrd hm
  by_cases h3 : c = 42
  · subst h3; exact lift_blob hrd hm
  by_cases h4 : c = 35
  · subst h4; exact lift_blk hrd hm
  exfalso
  apply hc
  simp only [isNum, Bool.or_eq_true, beq_iff_eq, not_or] at h1
  have e : ∀ k : UInt8, c ≠ k → ((c.toNat : Int) ≠ (k.toNat : Int)) := fun k h hh => h (byteI.1 hh)
  have e1 := e 49 h1.1.1.1
  have e2 := e 50 h1.1.1.2
  have e3 := e 52 h1.1.2
  have e4 := e 56 h1.2
  have e5 := e 63 h2
  have e6 := e 42 h3
  have e7 := e 35 h4
  simp only [UInt8.reduceToNat, Int.cast_ofNat_Int] at e1 e2 e3 e4 e5 e6 e7
  unfold wid widI
  simp [e1, e2, e3, e4, e5, e6, e7]
end Go.Proofs.Ytgkelbdgdhkeoaa
