/- Unhex, the program's and the reference's, walked. -/
import Derived.Deep.LoopGhost
import Derived.Test.YtgkelbdgdhkeoaaHexR
import Derived.Test.YtgkelbdgdhkeoaaChg
import Derived.Test.YtgkelbdgdhkeoaaWire1
namespace Go.Proofs.Ytgkelbdgdhkeoaa
open Go.RowKit
set_option linter.unusedVariables false
set_option linter.unusedSimpArgs false
open Hex Wire

/-- What Unhex leaves. -/
def UnhexP (w : World) (o : Option (List UInt8)) (e : Ending) (w' : World) : Prop :=
  Below w.heap.size w w' ∧ match o with
    | some bs => ∃ v', e = .returned (.tuple #[v', .bool true]) ∧ w'.ownsRow w.heap.size 5 1 v' bs.length (bV bs)
    | none => e = .returned (.tuple #[.slice none 0 0, .bool false])
theorem UnhexP.none_of {w w' : World} {o : Option (List UInt8)} {e : Ending} (ho : o = none) (he : e = .returned (.tuple #[.slice none 0 0, .bool false])) (hb : Below w.heap.size w w') : UnhexP w o e w' := by
  subst ho; exact ⟨hb, he⟩
theorem UnhexP.some_of {w w' : World} {o : Option (List UInt8)} {bs : List UInt8} {v' : Value} {e : Ending} (ho : o = some bs) (he : e = .returned (.tuple #[v', .bool true])) (hr : w'.ownsRow w.heap.size 5 1 v' bs.length (bV bs)) (hb : Below w.heap.size w w') : UnhexP w o e w' := by
  subst ho; exact ⟨hb, v', he, hr⟩
/-- What is left, with a first digit that was read, or none (-1). -/
def unhexS (h : Int) (s : List UInt8) : Option (List UInt8) := if h < 0 then unhex s else unhexH h.toNat s

set_option maxRecDepth 100000 in
set_option maxHeartbeats 6400000 in
theorem unhex_any (s : ByteArray) (w : World) (hs : s.size ≤ 1000000) : Calls Try.prog 37 #[.string s] w (UnhexP w (unhex (chs s))) := by
  obtain ⟨B, hB⟩ : ∃ B, w.heap.size = B := ⟨_, rfl⟩
  have HI : Hid (((w.alloc (.cells #[] 5)).iter s 0).heap[B + 1]? = some (.stringIter s 0) ∧ Below B w ((w.alloc (.cells #[] 5)).iter s 0) ∧ ((w.alloc (.cells #[] 5)).iter s 0).ownsRow B 5 1 (.slice (some ⟨B, 0, none⟩) 0 0) 0 []) := Lib.hid (by
    have h1 := World.iter_heap (w.alloc (.cells #[] 5)) s 0
    simp only [World.size_alloc, hB] at h1
    have h2 : Below w.heap.size w (w.alloc (.cells #[] 5)) := balloc (Below.refl _ w) _
    have h3 : Below w.heap.size w ((w.alloc (.cells #[] 5)).iter s 0) := balloc h2 _
    have h4 : (w.alloc (.cells #[] 5)).ownsRow w.heap.size 5 1 (.slice (some ⟨w.heap.size, 0, none⟩) 0 0) 0 [] := World.ownsRow_made w #[] 0 (Nat.le_refl _) (by decide) rfl
    have h5 := h4.alloc (.stringIter s 0)
    rw [hB] at h3 h5
    exact ⟨h1, h3, h5⟩)
  go_enter Try.func37, Try.ntmps37
  go_wp2_with fail
  generalize (w.alloc (.cells #[] 5)).iter s 0 = w1 at HI ⊢
  have HB := Lib.hid hB
  clear hB
  go_loopg [4, 5] s.size (fun g h o wr => ∃ (pos : Nat) (hf : Int) (v' : Value) (acc : List UInt8), pos ≤ s.size ∧ g = s.size - pos ∧ h = .int .i64 hf ∧ -1 ≤ hf ∧ hf ≤ 15 ∧ wr.heap[B + 1]? = some (.stringIter s pos) ∧ v' = o ∧ wr.ownsRow B 5 1 v' acc.length (bV acc) ∧ (∀ j ∈ ob v', j ≠ B + 1) ∧ B + 1 < wr.heap.size ∧ Below B w wr ∧ acc.length ≤ pos ∧ unhex (chs s) = (unhexS hf ((chs s).drop pos)).map (acc ++ ·))
  case atStart =>
    refine ⟨0, -1, _, [], by omega, by omega, rfl, by omega, by omega, HI.out.1, rfl, HI.out.2.2, ?_, (Array.getElem?_eq_some_iff.1 HI.out.1).1, HI.out.2.1, by simp, ?_⟩
    · intro j hj; rw [ob_some] at hj; simp at hj; omega
    · simp [unhexS]
  case round =>
    obtain ⟨pos, hf, v', acc, hp, hg, rfl, hf1, hf2, hh, rfl, ho, hob, hbl, hb, hacc, hun⟩ := hrel
    have HG := Lib.hid hg
    have HUN := Lib.hid hun
    have HO := Lib.hid ho
    have HBW := Lib.hid hb
    have HOB := Lib.hid hob
    clear hg hun ho hob
    by_cases hlt : pos < s.size
    · have hdr := chs_drop hlt
      have hle := decode_le s pos
      have h0 : (0 : Int) ≤ ((Utf8.decode s pos).1 : Int) := by omega
      have hnx := fun ty => Lib.run_next_any_at (P := Try.prog) wr (B + 1) s pos ty hh hlt
      have HD := Lib.hid hdr
      have hbi := Lib.below_iterAt hb (show B ≤ B + 1 by omega) s (pos + (Utf8.decode s pos).2)
      have HBI := Lib.hid hbi
      have CI := idxH_any ((Utf8.decode s pos).1 : Int) (wr.iterAt (B + 1) s (pos + (Utf8.decode s pos).2)) h0 (by omega)
      have hown : (wr.iterAt (B + 1) s (pos + (Utf8.decode s pos).2)).ownsRow B 5 1 v' acc.length (bV acc) := ownsRow_at HO.out (fun j hj => Lib.iterAt_other _ _ _ _ _ (HOB.out j hj))
      have HOW := Lib.hid hown
      have HHN := Lib.hid (Lib.iterAt_heap wr (B + 1) s pos (pos + (Utf8.decode s pos).2) hh)
      have HSZ := Lib.hid (Lib.iterAt_size wr (B + 1) s (pos + (Utf8.decode s pos).2))
      have HBS : Hid (B ≤ (wr.iterAt (B + 1) s (pos + (Utf8.decode s pos).2)).heap.size) := Lib.hid (by have := HBI.out.size; rw [HB.out] at this; exact this)
      clear hdr hb hbi hh hown
      by_cases hd : dgI ((Utf8.decode s pos).1 : Int) < 0
      · have hdm : dgI ((Utf8.decode s pos).1 : Int) = -1 := by have := dgI_bd ((Utf8.decode s pos).1 : Int); omega
        have HE : Hid (unhex (chs s) = none) := Lib.hid (by
          have hbad : ¬ dg (s[pos]'hlt) ≤ 15 := by
            by_cases ha : (s[pos]'hlt).toNat < 128
            · rw [decode_ascii s pos hlt ha, dgI_byte] at hdm
              intro h; rw [if_pos h] at hdm; omega
            · unfold dg; rw [if_neg (by omega), if_neg (by omega)]; omega
          rw [HUN.out, HD.out]
          unfold unhexS
          by_cases hn : hf < 0
          · rw [if_pos hn, unhex_bad hbad]; rfl
          · rw [if_neg hn, unhexH, if_neg hbad]; rfl)
        rw [hdm] at CI
        clear hd hdm
        go_wp2_with fail
        refine CI.mono ?_
        rintro e w2 ⟨rfl, hb2⟩
        have HB2 := Lib.hid (HBI.out.trans (hb2.mono HBS.out))
        go_wp2_with fail
        go_ret2
        exact UnhexP.none_of HE.out rfl (by rw [HB.out]; exact HB2.out)
      · have ha : (s[pos]'hlt).toNat < 128 := by
          rcases Nat.lt_or_ge (s[pos]'hlt).toNat 128 with h | h
          · exact h
          · have := (decode_high s pos hlt h).1
            rw [dgI_far (by omega)] at hd; omega
        have hdec := decode_ascii s pos hlt ha
        obtain ⟨d, hdd⟩ : ∃ d, dg (s[pos]'hlt) = d := ⟨_, rfl⟩
        have hd15 : d ≤ 15 ∧ dgI ((Utf8.decode s pos).1 : Int) = (d : Int) := by
          rw [hdec, dgI_byte, hdd] at hd ⊢
          by_cases h : d ≤ 15
          · rw [if_pos h]; exact ⟨h, rfl⟩
          · rw [if_neg h] at hd; exact absurd (by omega) hd
        obtain ⟨hd1, hd2⟩ := hd15
        rw [hd2] at CI
        have hd3 : ¬ ((d : Int) < 0) := by omega
        have hih : Hid ((wr.iterAt (B + 1) s (pos + (Utf8.decode s pos).2)).heap[B + 1]? = some (.stringIter s (pos + 1))) := Lib.hid (by rw [HHN.out, hdec])
        have HDD := Lib.hid hdd
        clear hd hd2 hdec hdd
        by_cases hn : hf < 0
        · have HNX : Hid (unhex (chs s) = (unhexS (d : Int) ((chs s).drop (pos + 1))).map (acc ++ ·)) := Lib.hid (by
            rw [HUN.out, HD.out]
            unfold unhexS
            rw [if_pos hn, if_neg (by omega), unhex_first (by rw [HDD.out]; exact hd1), HDD.out]; rfl)
          go_wp2_with fail
          refine CI.mono ?_
          rintro e w2 ⟨rfl, hb2⟩
          have HB2 := Lib.hid (HBI.out.trans (hb2.mono HBS.out))
          have HO2 := Lib.hid (ownsRow_below HOW.out hb2)
          have HI2 : Hid (w2.heap[B + 1]? = some (.stringIter s (pos + 1))) := Lib.hid ((hb2.block (B + 1) (by rw [HSZ.out]; exact hbl)).trans hih.out)
          have HS2 : Hid (B + 1 < w2.heap.size) := Lib.hid (by have := hb2.size; rw [HSZ.out] at this; omega)
          clear hb2 CI hnx
          go_wp2_with fail
          go_roundg (s.size - (pos + 1))
          case rel => exact ⟨pos + 1, _, v', acc, by omega, rfl, rfl, by omega, by omega, HI2.out, rfl, HO2.out, HOB.out, HS2.out, HB2.out, by omega, HNX.out⟩
          case measure => have := HG.out; omega
        · obtain ⟨h, rfl⟩ : ∃ h : Nat, hf = (h : Int) := ⟨hf.toNat, by omega⟩
          have HNX : Hid (unhex (chs s) = (unhexS (-1) ((chs s).drop (pos + 1))).map ((acc ++ [UInt8.ofNat (16 * h + d)]) ++ ·)) := Lib.hid (by
            rw [HUN.out, HD.out]
            unfold unhexS
            rw [if_neg hn, if_pos (by omega), unhexH, HDD.out, if_pos hd1, Option.map_map]
            congr 1
            funext z
            simp [Function.comp])
          have hcl : (16 * (h : Int) + (d : Int)) < 256 := by omega
          have hcv : (Value.int .u8 (16 * (h : Int) + (d : Int))) = .int .u8 ((UInt8.ofNat (16 * h + d)).toNat : Int) := by
            congr 1
            rw [UInt8.toNat_ofNat']
            omega
          have HCV := Lib.hid hcv
          have hacc2 : acc.length + 1 ≤ 140737488355328 := by omega
          clear hcv hn
          go_wp2_with fail
          refine CI.mono ?_
          rintro e w2 ⟨rfl, hb2⟩
          have HB2 := Lib.hid (HBI.out.trans (hb2.mono HBS.out))
          have ho2 := ownsRow_below HOW.out hb2
          have HI2 : Hid (w2.heap[B + 1]? = some (.stringIter s (pos + 1))) := Lib.hid ((hb2.block (B + 1) (by rw [HSZ.out]; exact hbl)).trans hih.out)
          have HS2 : Hid (B + 1 < w2.heap.size) := Lib.hid (by have := hb2.size; rw [HSZ.out] at this; omega)
          have hsz2 : B ≤ w2.heap.size := Nat.le_trans HBS.out hb2.size
          clear hb2 CI hnx
          go_wp2_with (at_builtin; go_must (refine wpList_app rfl _ _ 24 rfl B 5 _ 1 1 Try.underlying24 infoByte rfl (by decide) (by decide) v' acc.length (bV acc) rfl ho2 rfl rfl (by simp [Value.oneCell']) (by omega) hsz2 ?_); intro v5 w5 ho5 hb5 hg5 hs5 hn5)
          have HO5 : Hid (w5.ownsRow B 5 1 v5 (acc ++ [UInt8.ofNat (16 * h + d)]).length (bV (acc ++ [UInt8.ofNat (16 * h + d)]))) := Lib.hid (by
            rw [bV_app, List.length_append]
            have e : bV [UInt8.ofNat (16 * h + d)] = [Value.int .u8 (16 * (h : Int) + (d : Int))] := by rw [HCV.out]; rfl
            rw [e]; exact ho5)
          have HB5 := Lib.hid (HB2.out.trans hb5)
          have HI5 : Hid (w5.heap[B + 1]? = some (.stringIter s (pos + 1))) := Lib.hid ((hg5.block (B + 1) HS2.out (fun e => HOB.out (B + 1) (by unfold ob; rw [Option.mem_toList]; exact e.symm) rfl)).trans HI2.out)
          have HS5 : Hid (B + 1 < w5.heap.size) := Lib.hid (Nat.lt_of_lt_of_le HS2.out hg5.size)
          have HOB5 : Hid (∀ j ∈ ob v5, j ≠ B + 1) := Lib.hid (fun j hj => by
            rcases (Chg.of_grown hg5 hs5).2 j hj with h1 | h1
            · exact HOB.out j h1
            · have := HS2.out; omega)
          have HAL : Hid ((acc ++ [UInt8.ofNat (16 * h + d)]).length ≤ pos + 1) := Lib.hid (by rw [List.length_append, List.length_singleton]; omega)
          clear ho5 hb5 hg5 hs5 hn5 ho2
          go_wp2_with fail
          go_roundg (s.size - (pos + 1))
          case rel => exact ⟨pos + 1, _, v5, _, by omega, rfl, rfl, by omega, by omega, HI5.out, rfl, HO5.out, HOB5.out, HS5.out, HB5.out, HAL.out, HNX.out⟩
          case measure => have := HG.out; omega
    · obtain rfl : pos = s.size := by omega
      have hnx := fun ty => Lib.run_next_end_at (P := Try.prog) wr (B + 1) s s.size ty hh (by omega)
      have hde : (chs s).drop s.size = [] := List.drop_eq_nil_of_le (by rw [chs_len]; exact Nat.le_refl _)
      have HDE := Lib.hid hde
      clear hde hb
      by_cases hn : hf < 0
      · have HE : Hid (unhex (chs s) = some acc) := Lib.hid (by
          rw [HUN.out, HDE.out]; unfold unhexS; rw [if_pos hn]; simp [unhex])
        go_wp2_with fail
        go_ret2
        exact UnhexP.some_of HE.out rfl (by rw [HB.out]; exact HO.out) (by rw [HB.out]; exact HBW.out)
      · have HE : Hid (unhex (chs s) = none) := Lib.hid (by
          rw [HUN.out, HDE.out]; unfold unhexS; rw [if_neg hn]; rfl)
        go_wp2_with fail
        go_ret2
        exact UnhexP.none_of HE.out rfl (by rw [HB.out]; exact HBW.out)
end Go.Proofs.Ytgkelbdgdhkeoaa
