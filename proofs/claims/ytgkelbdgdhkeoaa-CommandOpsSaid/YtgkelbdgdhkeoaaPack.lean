/- wire.Pack, walked. -/
import Derived.Test.YtgkelbdgdhkeoaaLay
namespace Go.Proofs.Ytgkelbdgdhkeoaa
open Go.RowKit
set_option linter.unusedVariables false
set_option linter.unusedSimpArgs false
open Wire

/-- Values as the program takes them, in a slice. -/
def Anys (w : World) (ao : Option Addr) (n cap : Nat) (vs : List V) : Prop :=
  vs.length = n ∧ n ≤ cap ∧ cap ≤ maxLen ∧ ∀ j v, vs[j]? = some v → ∃ b off x, ao = some ⟨b, off, none⟩ ∧ b < w.heap.size ∧ w.cell? ⟨b, off + j, none⟩ = some x ∧ AnyV w x v
theorem Anys.below {w w' : World} {ao : Option Addr} {n cap : Nat} {vs : List V} (h : Anys w ao n cap vs) (hb : Below w.heap.size w w') : Anys w' ao n cap vs := by
  obtain ⟨h1, h2, h3, h4⟩ := h
  refine ⟨h1, h2, h3, fun j v hj => ?_⟩
  obtain ⟨b, off, x, e, hl, hc, ha⟩ := h4 j v hj
  exact ⟨b, off, x, e, Nat.lt_of_lt_of_le hl hb.size, (hb.cell (p := ⟨b, off + j, none⟩) hl).trans hc, ha.below hb⟩
theorem Anys.head {w : World} {ao : Option Addr} {n cap : Nat} {v : V} {vs : List V} (h : Anys w ao n cap (v :: vs)) : ∃ b off x, ao = some ⟨b, off, none⟩ ∧ b < w.heap.size ∧ w.cell? ⟨b, off, none⟩ = some x ∧ AnyV w x v := by
  obtain ⟨b, off, x, e, hl, hc, ha⟩ := h.2.2.2 0 v rfl
  exact ⟨b, off, x, e, hl, by simpa using hc, ha⟩
theorem Anys.tail {w : World} {ao : Option Addr} {n cap : Nat} {v : V} {vs : List V} (h : Anys w ao (n + 1) cap (v :: vs)) : Anys w (cutA ao cap 1 1) n (cap - 1) vs := by
  obtain ⟨h1, h2, h3, h4⟩ := h
  refine ⟨by simpa using h1, by omega, by omega, fun j u hj => ?_⟩
  obtain ⟨b, off, x, rfl, hl, hc, ha⟩ := h4 (j + 1) u (by simpa using hj)
  have hn : cap ≠ 1 := by
    have hlen : j < vs.length := (List.getElem?_eq_some_iff.1 hj).1
    simp at h1
    omega
  refine ⟨b, off + 1, x, ?_, hl, ?_, ha⟩
  · unfold cutA
    rw [if_neg hn]
    simp [Addr.add_lit]
  · rw [← hc]; congr 1; simp only [Addr.mk.injEq, true_and, and_true]; omega

theorem lay_len {c : UInt8} {v : V} {bs : List UInt8} (h : lay c v = some bs) (hx : v.letter = 35 → v.x.length = 256) : bs.length ≤ 260 + v.b.length := by
  unfold lay at h
  split at h
  · split at h
    · obtain rfl := Option.some.inj h
      rw [low_len]
      have := widI_le (c.toNat : Int)
      unfold wid; omega
    · cases h
  split at h
  · split at h
    · obtain rfl := Option.some.inj h; simp; omega
    · cases h
  split at h
  · split at h
    · obtain rfl := Option.some.inj h; simp [low_len]; try omega
    · cases h
  split at h
  · split at h
    · obtain rfl := Option.some.inj h; have := hx (by assumption); omega
    · cases h
  · cases h

theorem run_cutL {P : Program} (w : World) (t : TypeId) (ao : Option Addr) (n cap size : Nat) (ht : P.underlying t = some (.slice (P.elem t))) (hs : ∀ w, (sizeOf (P.elem t)).run P w = .ok size w) (l : Int) (h0 : 0 ≤ l) (h1 : l ≤ n) :
    (Instr.slice t (.slice ao n cap) (some (.int .i64 l)) none none).run P w = .ok (.slice (cutA ao cap l.toNat size) (n - l.toNat) (cap - l.toNat)) w := by
  rw [run_slice_l w t ao n cap ht .i64 l h0 h1, hs]
  rfl

/-- What Pack leaves. -/
def PackP (w : World) (o : Option (List UInt8)) (e : Ending) (w' : World) : Prop :=
  Below w.heap.size w w' ∧ match o with
    | some bs => ∃ v', e = .returned (.tuple #[v', .int .i64 0]) ∧ w'.ownsRow w.heap.size 5 1 v' bs.length (bV bs)
    | none => e = .returned (.tuple #[.slice none 0 0, .int .i64 2])
theorem PackP.none_of {w w' : World} {o : Option (List UInt8)} {e : Ending} (ho : o = none) (he : e = .returned (.tuple #[.slice none 0 0, .int .i64 2])) (hb : Below w.heap.size w w') : PackP w o e w' := by
  subst ho; exact ⟨hb, he⟩
theorem PackP.some_of {w w' : World} {o : Option (List UInt8)} {bs : List UInt8} {v' : Value} {e : Ending} (ho : o = some bs) (he : e = .returned (.tuple #[v', .int .i64 0])) (hr : w'.ownsRow w.heap.size 5 1 v' bs.length (bV bs)) (hb : Below w.heap.size w w') : PackP w o e w' := by
  subst ho; exact ⟨hb, v', he, hr⟩
theorem pack_left (s : List UInt8) : pack s [] = if s = [] then some [] else none := by cases s <;> simp [pack]

theorem szAny (w : World) : (sizeOf (Try.prog.elem 126)).run Try.prog w = .ok 1 w := by kernel_rfl
theorem undAny : Try.prog.underlying 126 = some (.slice (Try.prog.elem 126)) := by kernel_rfl

set_option maxRecDepth 100000 in
set_option maxHeartbeats 6400000 in
theorem pack_any (s : ByteArray) {w : World} {ao : Option Addr} {n cap : Nat} {vs : List V} (hv : Anys w ao n cap vs) (L : Nat) (hl : ∀ v ∈ vs, v.b.length ≤ L) (hL : L ≤ 40000000) (hs : s.size * (L + 260) ≤ 40000000) (hcap : ao = none → cap = 0) :
    Calls Try.prog 83 #[.string s, .slice ao n cap] w (PackP w (pack (chs s) vs)) := by
  have HV := Lib.hid hv
  have HLL := Lib.hid hl
  have hs1 : s.size ≤ 1000000 := by
    have : s.size * 260 ≤ s.size * (L + 260) := Nat.mul_le_mul_left _ (by omega)
    omega
  have hnm : n ≤ cap ∧ cap ≤ 9223372036854775807 := by obtain ⟨_, h2, h3, _⟩ := hv; unfold maxLen at h3; exact ⟨h2, h3⟩
  obtain ⟨B, hB⟩ : ∃ B, w.heap.size = B := ⟨_, rfl⟩
  have HI : Hid (((w.alloc (.cells #[] 5)).iter s 0).heap[B + 1]? = some (.stringIter s 0) ∧ Below B w ((w.alloc (.cells #[] 5)).iter s 0) ∧ ((w.alloc (.cells #[] 5)).iter s 0).ownsRow B 5 1 (.slice (some ⟨B, 0, none⟩) 0 0) 0 []) := Lib.hid (by
    have h1 := World.iter_heap (w.alloc (.cells #[] 5)) s 0
    simp only [World.size_alloc, hB] at h1
    have h2 : Below w.heap.size w (w.alloc (.cells #[] 5)) := balloc (Below.refl _ w) _
    have h3 : Below w.heap.size w ((w.alloc (.cells #[] 5)).iter s 0) := balloc h2 _
    have h4 : (w.alloc (.cells #[] 5)).ownsRow w.heap.size 5 1 (.slice (some ⟨w.heap.size, 0, none⟩) 0 0) 0 [] := World.ownsRow_made w #[] 0 (Nat.le_refl _) (by decide) rfl
    have h5 := h4.alloc (.stringIter s 0)
    rw [hB] at h3 h5
    exact ⟨h1, h3, h5⟩)
  clear hv hl
  go_enter Try.func83, Try.ntmps83
  go_wp2_with fail
  generalize (w.alloc (.cells #[] 5)).iter s 0 = w1 at HI ⊢
  have HB := Lib.hid hB
  clear hB
  go_loopg [6, 7, 16] s.size (fun g o l u wr => ∃ (pos q cq : Nat) (A : Option Addr) (v' : Value) (acc : List UInt8) (lt : List V), pos ≤ s.size ∧ g = s.size - pos ∧ wr.heap[B + 1]? = some (.stringIter s pos) ∧ v' = o ∧ wr.ownsRow B 5 1 v' acc.length (bV acc) ∧ (∀ j ∈ ob v', j ≠ B + 1) ∧ B + 1 < wr.heap.size ∧
    l = .slice A q cq ∧ Anys w A q cq lt ∧ q ≤ n ∧ q ≤ cq ∧ cq ≤ cap ∧ (∀ v ∈ lt, v ∈ vs) ∧ Below B w wr ∧ acc.length ≤ pos * (L + 260) ∧ pack (chs s) vs = (pack ((chs s).drop pos) lt).map (acc ++ ·))
  case atStart =>
    refine ⟨0, n, cap, ao, _, [], vs, by omega, by omega, HI.out.1, rfl, HI.out.2.2, ?_, (Array.getElem?_eq_some_iff.1 HI.out.1).1, rfl, HV.out, Nat.le_refl _, hnm.1, Nat.le_refl _, fun v h => h, HI.out.2.1, by simp, ?_⟩
    · intro j hj; rw [ob_some] at hj; simp at hj; omega
    · simp
  case round =>
    obtain ⟨pos, q, cq, A, v', acc, lt, hp, hg, hh, rfl, ho, hob, hbl, rfl, han, hq, hqc, hcc, hmem, hb, hacc, hpk⟩ := hrel
    have HG := Lib.hid hg
    have HP := Lib.hid hpk
    have HO := Lib.hid ho
    have HAN := Lib.hid han
    have HM := Lib.hid hmem
    have HBW := Lib.hid hb
    have HOB := Lib.hid hob
    have hql : lt.length = q := han.1
    have HQL := Lib.hid hql
    clear hg hpk ho han hmem hob hql
    by_cases hlt : pos < s.size
    · have hdr := chs_drop hlt
      have hle := decode_le s pos
      have h0 : (0 : Int) ≤ ((Utf8.decode s pos).1 : Int) := by omega
      have hnx := fun ty => Lib.run_next_any_at (P := Try.prog) wr (B + 1) s pos ty hh hlt
      have HD := Lib.hid hdr
      have hbi := Lib.below_iterAt hb (show B ≤ B + 1 by omega) s (pos + (Utf8.decode s pos).2)
      have HBI := Lib.hid hbi
      clear hdr hb hbi
      by_cases hq0 : q = 0
      · subst hq0
        have HE : Hid (pack (chs s) vs = none) := Lib.hid (by
          have : lt = [] := List.eq_nil_of_length_eq_zero HQL.out
          rw [HP.out, HD.out, this]; rfl)
        clear hh
        go_wp2_with fail
        go_ret2
        exact PackP.none_of HE.out rfl (by rw [HB.out]; exact HBI.out)
      · obtain ⟨q, rfl⟩ : ∃ q', q = q' + 1 := ⟨q - 1, by omega⟩
        obtain ⟨v, lt, rfl⟩ : ∃ v l, lt = v :: l := by
          cases lt with
          | nil => have := HQL.out; simp at this
          | cons v l => exact ⟨v, l, rfl⟩
        obtain ⟨b, off, x, rfl, hbx, hcell, hav⟩ := HAN.out.head
        have htl := HAN.out.tail
        have HTL := Lib.hid htl
        have hvl := HLL.out v (HM.out v (by simp))
        have hq1 : (((q + 1 : Nat) : Int) == 0) = false := by simp; omega
        have hgx : v.letter = 35 → v.x.length = 256 := by
          intro h35
          rcases hav with ⟨h, _⟩ | ⟨h, _⟩ | ⟨h, _⟩ | ⟨_, _, h⟩ | ⟨_, _, _, h, _⟩
          · rw [h35] at h; cases h
          · rw [h35] at h; cases h
          · rw [h35] at h; cases h
          · exact h
          · exact absurd h35 h
        have HGX := Lib.hid hgx
        have hmm : acc.length ≤ 40000000 := by
          have : pos * (L + 260) ≤ s.size * (L + 260) := Nat.mul_le_mul_right _ hp
          omega
        -- the world behind the iterator's step
        have hown : (wr.iterAt (B + 1) s (pos + (Utf8.decode s pos).2)).ownsRow B 5 1 v' acc.length (bV acc) := ownsRow_at HO.out (fun j hj => Lib.iterAt_other _ _ _ _ _ (HOB.out j hj))
        have CL := lay_any (w0 := w) (by rw [HB.out]; exact HBI.out) (by rw [HB.out]; exact hown) (by omega) ((Utf8.decode s pos).1 : Int) h0 (by omega) v hav (by omega)
        have hcw : (wr.iterAt (B + 1) s (pos + (Utf8.decode s pos).2)).cell? ⟨b, off, none⟩ = some x := (HBI.out.cell (p := ⟨b, off, none⟩) (by rw [← HB.out]; exact hbx)).trans hcell
        have HHN := Lib.hid (Lib.iterAt_heap wr (B + 1) s pos (pos + (Utf8.decode s pos).2) hh)
        have hsz : (wr.iterAt (B + 1) s (pos + (Utf8.decode s pos).2)).heap.size = wr.heap.size := Lib.iterAt_size _ _ _ _
        have HSZ := Lib.hid hsz
        have hcut := fun W => run_cutL (P := Try.prog) W 126 (some ⟨b, off, none⟩) (q + 1) cq 1 undAny szAny 1 (by omega) (by omega)
        simp only [Nat.add_sub_cancel, Int.toNat_one] at hcut
        have hOW := Lib.hid hown
        clear htl hav hgx hh hcell hown hsz hq0
        rw [HB.out] at CL
        go_wp2_with fail
        refine CL.mono ?_
        intro e w2 hP
        obtain ⟨v1, hm1, hP⟩ := hP
        have hb2 : Below B (wr.iterAt (B + 1) s (pos + (Utf8.decode s pos).2)) w2 := hm1.below (fun j hj => ownsRow_ge HO.out j hj) (Nat.le_trans (Nat.le_of_lt (Nat.lt_of_succ_lt hbl)) (Nat.le_of_eq HSZ.out.symm))
        have HB2 := Lib.hid (HBI.out.trans hb2)
        cases hlay : layI ((Utf8.decode s pos).1 : Int) v with
        | none =>
          rw [hlay] at hP
          subst hP
          have HE : Hid (pack (chs s) vs = none) := Lib.hid (by
            rw [HP.out, HD.out]
            by_cases ha : (s[pos]'hlt).toNat < 128
            · rw [decode_ascii s pos hlt ha] at hlay
              rw [pack, ← layI_byte, hlay]; rfl
            · rw [pack, ← layI_byte, layI_far (by omega)]; rfl)
          clear hlay hm1 hb2 CL hcut
          go_wp2_with fail
          go_ret2
          exact PackP.none_of HE.out rfl (by rw [HB.out]; exact HB2.out)
        | some bs =>
          rw [hlay] at hP
          obtain ⟨rfl, ho2, hc2⟩ := hP
          have ha : (s[pos]'hlt).toNat < 128 := by
            rcases Nat.lt_or_ge (s[pos]'hlt).toNat 128 with h | h
            · exact h
            · have := (decode_high s pos hlt h).1
              rw [layI_far (by omega)] at hlay; cases hlay
          have hdec := decode_ascii s pos hlt ha
          have hlc : lay (s[pos]'hlt) v = some bs := by rw [hdec] at hlay; rw [← layI_byte]; exact hlay
          have hbs := lay_len hlc HGX.out
          have HNX : Hid (pack (chs s) vs = (pack ((chs s).drop (pos + 1)) lt).map ((acc ++ bs) ++ ·)) := Lib.hid (by
            rw [HP.out, HD.out, pack, hlc]
            simp only [Option.bind_some, Option.map_map]
            congr 1
            funext z
            simp [Function.comp])
          have HO2 : Hid (w2.ownsRow B 5 1 v1 (acc ++ bs).length (bV (acc ++ bs))) := Lib.hid (by rw [List.length_append]; exact ho2)
          have hob1 : ∀ j ∈ ob v1, j ≠ B + 1 := fun j hj => by
            rcases hc2.2 j hj with h | h
            · exact HOB.out j h
            · rw [HSZ.out] at h; omega
          have HOB1 := Lib.hid hob1
          have hh2 : w2.heap[B + 1]? = some (.stringIter s (pos + 1)) := by
            have h1 := hm1.block (B + 1) (by rw [HSZ.out]; exact hbl) (fun hj => HOB.out _ hj rfl)
            rw [h1, HHN.out, hdec]
          have HH2 := Lib.hid hh2
          have HS2 : Hid (B + 1 < w2.heap.size) := Lib.hid (by have := hc2.size; rw [HSZ.out] at this; omega)
          have HAC : Hid ((acc ++ bs).length ≤ (pos + 1) * (L + 260)) := Lib.hid (by rw [List.length_append, Nat.add_mul]; omega)
          clear hlay hm1 hb2 CL ho2 hc2 hdec hlc hob1 hh2
          go_wp2_with fail
          go_quiet (fail)
          go_wp2_with fail
          go_roundg (s.size - (pos + 1))
          case rel =>
            refine ⟨pos + 1, q, cq - 1, _, v1, acc ++ bs, lt, by omega, rfl, HH2.out, rfl, (ownsRow_below HO2.out (below_drewN (Below.refl _ _) _)), HOB1.out, ?_, rfl, HTL.out, by omega, by omega, by omega, fun u hu => HM.out u (by simp [hu]), below_drewN HB2.out _, HAC.out, HNX.out⟩
            simpa using HS2.out
          case measure => have := HG.out; omega
    · obtain rfl : pos = s.size := by omega
      have hnx := fun ty => Lib.run_next_end_at (P := Try.prog) wr (B + 1) s s.size ty hh (by omega)
      have hde : (chs s).drop s.size = [] := List.drop_eq_nil_of_le (by rw [chs_len]; exact Nat.le_refl _)
      have HDE := Lib.hid hde
      clear hde hb
      by_cases hq0 : q = 0
      · subst hq0
        have HE : Hid (pack (chs s) vs = some acc) := Lib.hid (by
          have : lt = [] := List.eq_nil_of_length_eq_zero HQL.out
          rw [HP.out, HDE.out, this]; simp [pack])
        go_wp2_with fail
        go_ret2
        exact PackP.some_of HE.out rfl (by rw [HB.out]; exact HO.out) (by rw [HB.out]; exact HBW.out)
      · have HE : Hid (pack (chs s) vs = none) := Lib.hid (by
          rw [HP.out, HDE.out]
          cases lt with
          | nil => have := HQL.out; simp at this; omega
          | cons v l => rfl)
        have hqp : 0 < q := by omega
        clear hq0
        go_wp2_with fail
        go_ret2
        exact PackP.none_of HE.out rfl (by rw [HB.out]; exact HBW.out)
end Go.Proofs.Ytgkelbdgdhkeoaa
