/- Decimal, the program's and the reference's, walked. -/
import Derived.Deep.LoopGhost
import Derived.Deep.DeepCutAuto
import Derived.BigQuiet
import Derived.Deep.QuietTactic
import Derived.Lib.OthersKept
import Derived.Lib.QuoteLoop
import Derived.Test.YtgkelbdgdhkeoaaDec0
import Derived.Test.YtgkelbdgdhkeoaaChg
import Derived.Test.YtgkelbdgdhkeoaaWire1
namespace Go.Proofs.Ytgkelbdgdhkeoaa
open Go.RowKit
set_option linter.unusedVariables false
set_option linter.unusedSimpArgs false
open Dec Wire

/-- What Decimal leaves. -/
def DecP (w : World) (o : Option Nat) (e : Ending) (w' : World) : Prop :=
  Below w.heap.size w w' ∧ match o with
    | some n => e = .returned (.tuple #[.int .u64 (n : Int), .bool true])
    | none => e = .returned (.tuple #[.int .u64 0, .bool false])
theorem DecP.none_of {w w' : World} {o : Option Nat} {e : Ending} (ho : o = none) (he : e = .returned (.tuple #[.int .u64 0, .bool false])) (hb : Below w.heap.size w w') : DecP w o e w' := by
  subst ho; exact ⟨hb, he⟩
theorem DecP.some_of {w w' : World} {o : Option Nat} {n : Nat} {e : Ending} (ho : o = some n) (he : e = .returned (.tuple #[.int .u64 (n : Int), .bool true])) (hb : Below w.heap.size w w') : DecP w o e w' := by
  subst ho; exact ⟨hb, he⟩

set_option maxRecDepth 100000 in
set_option maxHeartbeats 6400000 in
theorem rdec_any (s : ByteArray) (most : Nat) (hm : most < 2 ^ 64) (w : World) (hs : s.size ≤ 1000000) : Calls Try.prog 40 #[.string s, .int .u64 (most : Int)] w (DecP w (dec (chs s) most)) := by
  have hml : (most : Int) ≤ 18446744073709551615 := by omega
  have HM := Lib.hid hm
  clear hm
  by_cases h0 : s.size = 0
  · have HE : Hid (dec (chs s) most = none) := Lib.hid (by
      have : chs s = [] := List.eq_nil_of_length_eq_zero (by rw [chs_len]; exact h0)
      rw [this]; exact dec_empty _)
    have he : s.toList = [] := by
      have : (chs s) = [] := List.eq_nil_of_length_eq_zero (by rw [chs_len]; exact h0)
      rw [ByteArray.toList_eq]; exact this
    clear h0
    go_enter Try.func40, Try.ntmps40
    go_wp2_with fail
    go_ret2
    exact DecP.none_of HE.out rfl (Below.refl _ _)
  have hp : 0 < s.size := by omega
  have hne : s.toList.isEmpty = false := by
    rw [ByteArray.toList_eq]
    cases h : s.data.toList with
    | nil => have := chs_len s; unfold chs at this; rw [h] at this; simp at this; omega
    | cons a b => rfl
  have hne2 : ¬ (s.toList = []) := by
    intro h; rw [h] at hne; simp at hne
  clear h0
  by_cases hz : 1 < s.size ∧ (s[0]'hp).toNat = 48
  · have HE : Hid (dec (chs s) most = none) := Lib.hid (dec_zero (by rw [chs_len]; exact hz.1) (by
      have h1 := chs_get hp
      have h2 : (s[0]'hp) = 48 := UInt8.toNat_inj.1 (by rw [hz.2]; rfl)
      rw [h2] at h1
      cases h3 : chs s with
      | nil => rw [h3] at h1; simp at h1
      | cons a b => rw [h3] at h1; simpa using h1))
    obtain ⟨hz1, hz2⟩ := hz
    have g1 : (((s[0]'hp).toNat : Int) == 48) = true := by rw [hz2]; rfl
    have g2 : (1 : Int) < (s.size : Int) := by omega
    clear hz2
    go_enter Try.func40, Try.ntmps40
    go_wp2_with fail
    go_ret2
    exact DecP.none_of HE.out rfl (Below.refl _ _)
  have hnz : ¬ (1 < (chs s).length ∧ (chs s).headD 0 = 48) := by
    rintro ⟨a, b⟩
    rw [chs_len] at a
    refine hz ⟨a, ?_⟩
    have h1 := chs_get hp
    cases h3 : chs s with
    | nil => rw [h3] at h1; simp at h1
    | cons x y =>
      rw [h3] at h1 b
      have : x = (s[0]'hp) := by simpa using h1
      rw [← this]
      have : x = 48 := by simpa using b
      rw [this]; rfl
  have HNZ := Lib.hid hnz
  have hne0 : chs s ≠ [] := by intro h; have := chs_len s; rw [h] at this; simp at this; omega
  have HNE := Lib.hid hne0
  have g1 : 1 < s.size → (((s[0]'hp).toNat : Int) == 48) = false := fun h => by
    rw [beq_eq_false_iff_ne]; intro e; exact hz ⟨h, by omega⟩
  clear hnz hz hne0
  have key : ∀ (g : decide ((1 : Int) < (s.size : Int)) = true → (((s[0]'hp).toNat : Int) == 48) = false), True := fun _ => trivial
  clear key
  by_cases h1 : 1 < s.size
  · have g2 := g1 h1
    clear g1
    by_cases h20 : 20 < s.size
    · have HE : Hid (dec (chs s) most = none) := Lib.hid (dec_long HM.out (by rw [chs_len]; exact h20))
      go_enter Try.func40, Try.ntmps40
      go_wp2_with fail
      go_ret2
      exact DecP.none_of HE.out rfl (Below.refl _ _)
    · go_enter Try.func40, Try.ntmps40
      go_wp2_with fail
      go_loop [6, 7] (fun n i => ∃ k : Nat, k ≤ s.size ∧ i = .int .i64 (k : Int) ∧ n = .int .u64 (decV ((chs s).take k) : Int) ∧ ((chs s).take k).all isD = true ∧ decV ((chs s).take k) < 2 ^ 64) (fun _ i => s.size - (intOf i).toNat)
      case atStart => exact ⟨0, by omega, rfl, rfl, rfl, (by show (0 : Nat) < 2 ^ 64; decide)⟩
      case round =>
        obtain ⟨k, hk, rfl, rfl, hall, hlt64⟩ := hrel
        have HALL := Lib.hid hall
        have HLT := Lib.hid hlt64
        have hn64 : (decV ((chs s).take k) : Int) ≤ 18446744073709551615 := by omega
        clear hall hlt64
        by_cases hlt : k < s.size
        · have hget := chs_get hlt
          have hsn := take_snoc' hget
          have hdv : decV ((chs s).take (k + 1)) = 10 * decV ((chs s).take k) + ((s[k]'hlt).toNat - 48) := by rw [hsn]; exact decV_snoc _ _
          by_cases hd : 48 ≤ (s[k]'hlt).toNat ∧ (s[k]'hlt).toNat ≤ 57
          · obtain ⟨hd1, hd2⟩ := hd
            have HALL2 : Hid (((chs s).take (k + 1)).all isD = true) := Lib.hid (by rw [hsn]; exact all_snoc HALL.out (by unfold isD; simp; omega))
            have HDV := Lib.hid hdv
            by_cases hbig : (18446744073709551615 - ((s[k]'hlt).toNat - 48)) / 10 < decV ((chs s).take k)
            · have HE : Hid (dec (chs s) most = none) := Lib.hid (dec_much (k + 1) (by have := HM.out; rw [hdv]; omega))
              clear hdv hsn hget
              generalize decV ((chs s).take k) = nv at *
              have hb2 : (18446744073709551615 - (((s[k]'hlt).toNat : Int) - 48)) / 10 < (nv : Int) := by omega
              go_wp2_with fail
              go_ret2
              exact DecP.none_of HE.out rfl (Below.refl _ _)
            · have HLT2 : Hid (decV ((chs s).take (k + 1)) < 2 ^ 64) := Lib.hid (by rw [hdv]; omega)
              clear hdv hsn hget
              have hfin : Hid ((decV ((chs s).take (k + 1)) : Int) = 10 * (decV ((chs s).take k) : Int) + (((s[k]'hlt).toNat : Int) - 48)) := Lib.hid (by rw [HDV.out]; omega)
              generalize decV ((chs s).take k) = nv at *
              have hb2 : ¬ ((18446744073709551615 - (((s[k]'hlt).toNat : Int) - 48)) / 10 < (nv : Int)) := by omega
              have hb3 : 10 * (nv : Int) + (((s[k]'hlt).toNat : Int) - 48) ≤ 18446744073709551615 := by omega
              go_wp2_with fail
              go_round
              case rel => exact ⟨k + 1, by omega, by go_num, by rw [hfin.out], HALL2.out, HLT2.out⟩
              case measure => simp [intOf]; omega
          · have HE : Hid (dec (chs s) most = none) := Lib.hid (dec_digit hget (by
              unfold isD
              by_cases h : 48 ≤ (s[k]'hlt).toNat
              · rw [decide_eq_true h, decide_eq_false (fun h2 => hd ⟨h, h2⟩)]; rfl
              · rw [decide_eq_false h]; rfl))
            clear hdv hsn hget
            generalize decV ((chs s).take k) = nv at *
            by_cases h48 : (s[k]'hlt).toNat < 48
            · clear hd
              go_wp2_with fail
              go_ret2
              exact DecP.none_of HE.out rfl (Below.refl _ _)
            · have h57 : 57 < (s[k]'hlt).toNat := by omega
              clear hd
              go_wp2_with fail
              go_ret2
              exact DecP.none_of HE.out rfl (Below.refl _ _)
        · obtain rfl : k = s.size := by omega
          have htk : (chs s).take s.size = chs s := List.take_of_length_le (by rw [chs_len]; exact Nat.le_refl _)
          by_cases hmm : most < decV (chs s)
          · have HE : Hid (dec (chs s) most = none) := Lib.hid (dec_much s.size (by rw [htk]; exact hmm))
            rw [htk]
            have hmm2 : (most : Int) < (decV (chs s) : Int) := by omega
            clear htk
            generalize decV (chs s) = nv at *
            go_wp2_with fail
            go_ret2
            exact DecP.none_of HE.out rfl (Below.refl _ _)
          · have HE : Hid (dec (chs s) most = some (decV (chs s))) := Lib.hid (dec_some HNE.out HNZ.out (by have := HALL.out; rw [htk] at this; exact this) (by omega))
            rw [htk]
            have hmm2 : ¬ ((most : Int) < (decV (chs s) : Int)) := by omega
            clear htk
            generalize decV (chs s) = nv at *
            go_wp2_with fail
            go_ret2
            exact DecP.some_of HE.out rfl (Below.refl _ _)
  · have h20 : ¬ (20 < s.size) := by omega
    clear g1
    go_enter Try.func40, Try.ntmps40
    go_wp2_with fail
    go_loop [6, 7] (fun n i => ∃ k : Nat, k ≤ s.size ∧ i = .int .i64 (k : Int) ∧ n = .int .u64 (decV ((chs s).take k) : Int) ∧ ((chs s).take k).all isD = true ∧ decV ((chs s).take k) < 2 ^ 64) (fun _ i => s.size - (intOf i).toNat)
    case atStart => exact ⟨0, by omega, rfl, rfl, rfl, (by show (0 : Nat) < 2 ^ 64; decide)⟩
    case round =>
      obtain ⟨k, hk, rfl, rfl, hall, hlt64⟩ := hrel
      have HALL := Lib.hid hall
      have HLT := Lib.hid hlt64
      have hn64 : (decV ((chs s).take k) : Int) ≤ 18446744073709551615 := by omega
      clear hall hlt64
      by_cases hlt : k < s.size
      · have hget := chs_get hlt
        have hsn := take_snoc' hget
        have hdv : decV ((chs s).take (k + 1)) = 10 * decV ((chs s).take k) + ((s[k]'hlt).toNat - 48) := by rw [hsn]; exact decV_snoc _ _
        by_cases hd : 48 ≤ (s[k]'hlt).toNat ∧ (s[k]'hlt).toNat ≤ 57
        · obtain ⟨hd1, hd2⟩ := hd
          have HALL2 : Hid (((chs s).take (k + 1)).all isD = true) := Lib.hid (by rw [hsn]; exact all_snoc HALL.out (by unfold isD; simp; omega))
          have HDV := Lib.hid hdv
          by_cases hbig : (18446744073709551615 - ((s[k]'hlt).toNat - 48)) / 10 < decV ((chs s).take k)
          · have HE : Hid (dec (chs s) most = none) := Lib.hid (dec_much (k + 1) (by have := HM.out; rw [hdv]; omega))
            clear hdv hsn hget
            generalize decV ((chs s).take k) = nv at *
            have hb2 : (18446744073709551615 - (((s[k]'hlt).toNat : Int) - 48)) / 10 < (nv : Int) := by omega
            go_wp2_with fail
            go_ret2
            exact DecP.none_of HE.out rfl (Below.refl _ _)
          · have HLT2 : Hid (decV ((chs s).take (k + 1)) < 2 ^ 64) := Lib.hid (by rw [hdv]; omega)
            clear hdv hsn hget
            have hfin : Hid ((decV ((chs s).take (k + 1)) : Int) = 10 * (decV ((chs s).take k) : Int) + (((s[k]'hlt).toNat : Int) - 48)) := Lib.hid (by rw [HDV.out]; omega)
            generalize decV ((chs s).take k) = nv at *
            have hb2 : ¬ ((18446744073709551615 - (((s[k]'hlt).toNat : Int) - 48)) / 10 < (nv : Int)) := by omega
            have hb3 : 10 * (nv : Int) + (((s[k]'hlt).toNat : Int) - 48) ≤ 18446744073709551615 := by omega
            go_wp2_with fail
            go_round
            case rel => exact ⟨k + 1, by omega, by go_num, by rw [hfin.out], HALL2.out, HLT2.out⟩
            case measure => simp [intOf]; omega
        · have HE : Hid (dec (chs s) most = none) := Lib.hid (dec_digit hget (by
            unfold isD
            by_cases h : 48 ≤ (s[k]'hlt).toNat
            · rw [decide_eq_true h, decide_eq_false (fun h2 => hd ⟨h, h2⟩)]; rfl
            · rw [decide_eq_false h]; rfl))
          clear hdv hsn hget
          generalize decV ((chs s).take k) = nv at *
          by_cases h48 : (s[k]'hlt).toNat < 48
          · clear hd
            go_wp2_with fail
            go_ret2
            exact DecP.none_of HE.out rfl (Below.refl _ _)
          · have h57 : 57 < (s[k]'hlt).toNat := by omega
            clear hd
            go_wp2_with fail
            go_ret2
            exact DecP.none_of HE.out rfl (Below.refl _ _)
      · obtain rfl : k = s.size := by omega
        have htk : (chs s).take s.size = chs s := List.take_of_length_le (by rw [chs_len]; exact Nat.le_refl _)
        by_cases hmm : most < decV (chs s)
        · have HE : Hid (dec (chs s) most = none) := Lib.hid (dec_much s.size (by rw [htk]; exact hmm))
          rw [htk]
          have hmm2 : (most : Int) < (decV (chs s) : Int) := by omega
          clear htk
          generalize decV (chs s) = nv at *
          go_wp2_with fail
          go_ret2
          exact DecP.none_of HE.out rfl (Below.refl _ _)
        · have HE : Hid (dec (chs s) most = some (decV (chs s))) := Lib.hid (dec_some HNE.out HNZ.out (by have := HALL.out; rw [htk] at this; exact this) (by omega))
          rw [htk]
          have hmm2 : ¬ ((most : Int) < (decV (chs s) : Int)) := by omega
          clear htk
          generalize decV (chs s) = nv at *
          go_wp2_with fail
          go_ret2
          exact DecP.some_of HE.out rfl (Below.refl _ _)

/-- May a text be a number's by its beginning? -/
def goodS (s : List UInt8) : Bool := decide (s ≠ [] ∧ ¬ (1 < s.length ∧ s.headD 0 = 48))
theorem goodS_no {s : List UInt8} {most : Nat} (h : goodS s = false) : dec s most = none := by
  unfold goodS at h
  unfold dec
  rw [if_neg]
  rintro ⟨a, b, _⟩
  rw [decide_eq_false_iff_not] at h
  exact h ⟨a, b⟩
theorem goodS_yes {s : List UInt8} (h : goodS s = true) : s ≠ [] ∧ ¬ (1 < s.length ∧ s.headD 0 = 48) := by
  unfold goodS at h
  exact of_decide_eq_true h

set_option maxRecDepth 100000 in
set_option maxHeartbeats 6400000 in
theorem dec_any (s : ByteArray) (most : Nat) (hm : most < 2 ^ 64) (w : World) (hs : s.size ≤ 1000000) : Calls Try.prog 39 #[.string s, .int .u64 (most : Int)] w (DecP w (dec (chs s) most)) := by
  have hml : (most : Int) ≤ 18446744073709551615 := by omega
  have HM := Lib.hid hm
  clear hm
  go_enter Try.func39, Try.ntmps39
  go_upto_region 1 with fail
  go_cut [6, 7] (fun n g wx => ∃ W, W = wx ∧ n = .int .u64 0 ∧ g = .bool (goodS (chs s)) ∧ Below w.heap.size w W)
  case first =>
    by_cases hz : s = ⟨#[48]⟩
    · subst hz
      have hg : true = goodS (chs ⟨#[48]⟩) := by decide
      have HG := Lib.hid hg
      clear hg
      go_quiet (fail)
      go_wp2_with fail
      go_meet
      exact ⟨_, rfl, rfl, by rw [← HG.out], below_drewN (Below.refl _ _) _⟩
    · by_cases h0 : s.size = 0
      · have hnil : chs s = [] := List.eq_nil_of_length_eq_zero (by rw [chs_len]; exact h0)
        have HG : Hid (false = goodS (chs s)) := Lib.hid (by rw [hnil]; decide)
        have he : s = ⟨#[]⟩ := by
          apply ByteArray.ext
          have : s.data.toList = [] := hnil
          exact Array.toList_eq_nil_iff.1 this
        subst he
        clear hz h0 hnil
        go_quiet (fail)
        go_wp2_with fail
        go_meet
        exact ⟨_, rfl, rfl, by rw [← HG.out], below_drewN (Below.refl _ _) _⟩
      · have hp : 0 < s.size := by omega
        have hl : s.toList = chs s := ByteArray.toList_eq s
        have hb1 : (s.toList == [48]) = false := by
          rw [beq_eq_false_iff_ne]
          intro h
          apply hz
          apply ByteArray.ext
          apply Array.toList_inj.1
          rw [hl] at h
          exact h
        have hne0 : chs s ≠ [] := by intro h; have := chs_len s; rw [h] at this; simp at this; omega
        have hb2 : s.toList.isEmpty = false := by
          rw [hl]; cases h : chs s with
          | nil => exact absurd h hne0
          | cons a b => rfl
        have hb3 : ¬ (s.toList = []) := by rw [hl]; exact hne0
        have HG : Hid ((((s[0]'hp).toNat : Int) != 48) = goodS (chs s)) := Lib.hid (by
          have h1 := chs_get hp
          cases h3 : chs s with
          | nil => exact absurd h3 hne0
          | cons x y =>
            rw [h3] at h1
            have hx : x = (s[0]'hp) := by simpa using h1
            have h4 : x = 48 → 1 < (x :: y).length := fun e => by
              cases y with
              | nil =>
                rw [hl, h3, e] at hb1
                simp at hb1
              | cons a b => simp
            rw [← hx]
            unfold goodS
            by_cases e : x = 48
            · have h5 := h4 e
              subst e
              rw [decide_eq_false (by rintro ⟨_, h⟩; exact h ⟨h5, rfl⟩)]
              decide
            · rw [decide_eq_true ⟨by simp, fun h => e (by simpa using h.2)⟩]
              rw [bne_iff_ne]
              intro h
              exact e (UInt8.toNat_inj.1 (by simp only [UInt8.reduceToNat]; omega)))
        clear hz h0 hl hne0
        go_quiet (fail)
        go_wp2_with fail
        go_meet
        exact ⟨_, rfl, rfl, by rw [← HG.out], below_drewN (Below.refl _ _) _⟩
  case rest =>
    obtain ⟨wx, rfl, rfl, rfl, hb⟩ := hcut
    obtain ⟨K, hK⟩ : ∃ K, wx.heap.size = K := ⟨_, rfl⟩
    have HI : Hid ((wx.iter s 0).heap[K]? = some (.stringIter s 0) ∧ Below w.heap.size w (wx.iter s 0)) := Lib.hid ⟨hK ▸ World.iter_heap wx s 0, balloc hb _⟩
    have HKS : Hid (w.heap.size ≤ K) := Lib.hid (by rw [← hK]; exact hb.size)
    go_wp2_with fail
    generalize wx.iter s 0 = w1 at HI ⊢
    clear hK hb
    go_loopg [6, 7] s.size (fun g n gd wr => ∃ (pos : Nat) (nn : Int) (gb : Bool), pos ≤ s.size ∧ g = s.size - pos ∧ n = .int .u64 nn ∧ gd = .bool gb ∧ wr.heap[K]? = some (.stringIter s pos) ∧ Below w.heap.size w wr ∧
      (gb = true → goodS (chs s) = true ∧ nn = (decV ((chs s).take pos) : Int) ∧ ((chs s).take pos).all isD = true ∧ decV ((chs s).take pos) ≤ most) ∧ (gb = false → dec (chs s) most = none))
    case atStart => exact ⟨0, 0, _, by omega, by omega, rfl, rfl, HI.out.1, HI.out.2, fun h => ⟨h, rfl, rfl, Nat.zero_le _⟩, fun h => goodS_no h⟩
    case round =>
      obtain ⟨pos, nn, gb, hp, hg, rfl, rfl, hh, hb, hyes, hno⟩ := hrel
      have HG := Lib.hid hg
      have HYES := Lib.hid hyes
      have HNO := Lib.hid hno
      have HBW := Lib.hid hb
      clear hg hyes hno
      by_cases hlt : pos < s.size
      · have hle := decode_le s pos
        have hwd : 1 ≤ (Utf8.decode s pos).2 ∧ (Utf8.decode s pos).2 ≤ s.size - pos := ⟨Lib.width_pos s pos, by rw [Lib.decode_at]; exact Lib.decodeN_width_le _ _ _ _ _ (by omega)⟩
        have hnx := fun ty => Lib.run_next_any_at (P := Try.prog) wr K s pos ty hh hlt
        have HBI := Lib.hid (Lib.below_iterAt hb HKS.out s (pos + (Utf8.decode s pos).2))
        have HHN := Lib.hid (Lib.iterAt_heap wr K s pos (pos + (Utf8.decode s pos).2) hh)
        have h0 : (0 : Int) ≤ ((Utf8.decode s pos).1 : Int) := by omega
        have hmx : ((Utf8.decode s pos).1 : Int) ≤ 2147483647 := by omega
        have HWD := Lib.hid hwd
        have HDR := Lib.hid (fun h : (s[pos]'hlt).toNat < 128 => decode_ascii s pos hlt h)
        have HDH := Lib.hid (fun h : 128 ≤ (s[pos]'hlt).toNat => (decode_high s pos hlt h).1)
        clear hb hh hle hwd
        cases gb with
        | false =>
          have HE := Lib.hid (HNO.out rfl)
          go_wp2_with fail
          all_goals
            go_roundg (s.size - (pos + (Utf8.decode s pos).2))
            case rel => exact ⟨pos + (Utf8.decode s pos).2, _, false, by have := HWD.out; omega, rfl, rfl, rfl, HHN.out, HBI.out, (fun h => by cases h), fun _ => HE.out⟩
            case measure => have := HG.out; have := HWD.out; omega
        | true =>
          obtain ⟨hgs, rfl, hall, hmost⟩ := HYES.out rfl
          have HALL := Lib.hid hall
          have hget := chs_get hlt
          have HGET := Lib.hid hget
          have hsn := take_snoc' hget
          have HDV : Hid (decV ((chs s).take (pos + 1)) = 10 * decV ((chs s).take pos) + ((s[pos]'hlt).toNat - 48)) := Lib.hid (by rw [hsn]; exact decV_snoc _ _)
          have HSN := Lib.hid hsn
          clear hall hget hsn
          by_cases hd : 48 ≤ ((Utf8.decode s pos).1 : Int) ∧ ((Utf8.decode s pos).1 : Int) ≤ 57
          · have ha : (s[pos]'hlt).toNat < 128 := by
              rcases Nat.lt_or_ge (s[pos]'hlt).toNat 128 with h | h
              · exact h
              · have := HDH.out h; omega
            have hdec := HDR.out ha
            have hd1 : 48 ≤ (s[pos]'hlt).toNat ∧ (s[pos]'hlt).toNat ≤ 57 := by rw [hdec] at hd; exact ⟨by have := hd.1; omega, by have := hd.2; omega⟩
            have HALL2 : Hid (((chs s).take (pos + 1)).all isD = true) := Lib.hid (by rw [HSN.out]; exact all_snoc HALL.out (by unfold isD; simp; omega))
            have hdv := HDV.out
            have HPB := Lib.hid hdv
            clear hd
            simp only [hdec] at HBI HHN hnx h0 hmx
            obtain ⟨hq1, hq2⟩ := hd1
            have HGS := Lib.hid hgs
            clear hdec HDR HDH HWD hgs
            have hmuch : Hid (most < decV ((chs s).take (pos + 1)) → dec (chs s) most = none) := Lib.hid (fun h => dec_much (pos + 1) h)
            have HPOS : Hid (pos + 1 ≤ s.size) := Lib.hid hlt
            obtain ⟨nv2, hnv2⟩ : ∃ nv2, decV ((chs s).take (pos + 1)) = nv2 := ⟨_, rfl⟩
            rw [hnv2] at hdv hmuch
            have HNV2 := Lib.hid hnv2
            clear hnv2 HDV HPB
            generalize decV ((chs s).take pos) = nv at *
            generalize hqq : (s[pos]'hlt).toNat = q at *
            by_cases h3 : most / 10 < nv
            · have HE : Hid (dec (chs s) most = none) := Lib.hid (hmuch.out (by omega))
              have h3' : (most : Int) / 10 < (nv : Int) := by omega
              clear hdv h3
              go_wp2_with fail
              all_goals
                go_roundg (s.size - (pos + 1))
                case rel => exact ⟨pos + 1, _, false, HPOS.out, rfl, rfl, rfl, HHN.out, HBI.out, (fun h => by cases h), fun _ => HE.out⟩
                case measure => have := HG.out; omega
            · have h3' : (nv : Int) ≤ (most : Int) / 10 := by omega
              have h4 : (nv : Int) * 10 ≤ (most : Int) := by omega
              have h5 : min ((nv : Int) * 10) (most : Int) = (nv : Int) * 10 := by omega
              by_cases h6 : most - nv * 10 < q - 48
              · have HE : Hid (dec (chs s) most = none) := Lib.hid (hmuch.out (by omega))
                have h6' : (most : Int) - (nv : Int) * 10 < (q : Int) - 48 := by omega
                clear hdv h3 h6
                go_wp2_with fail
                all_goals
                  go_roundg (s.size - (pos + 1))
                  case rel => exact ⟨pos + 1, _, false, HPOS.out, rfl, rfl, (by rw [decide_eq_false (by omega)]), HHN.out, HBI.out, (fun h => by cases h), fun _ => HE.out⟩
                  case measure => have := HG.out; omega
              · have h6' : (q : Int) - 48 ≤ (most : Int) - (nv : Int) * 10 := by omega
                have h7 : (nv : Int) * 10 + ((q : Int) - 48) ≤ 18446744073709551615 := by omega
                have HV : Hid ((nv2 : Int) = (nv : Int) * 10 + ((q : Int) - 48)) := Lib.hid (by omega)
                have HLE : Hid (nv2 ≤ most) := Lib.hid (by omega)
                clear hdv h3 h6
                go_wp2_with fail
                all_goals
                  go_roundg (s.size - (pos + 1))
                  case rel => exact ⟨pos + 1, _, true, HPOS.out, rfl, rfl, rfl, HHN.out, HBI.out, (fun _ => ⟨HGS.out, by rw [HNV2.out, HV.out], HALL2.out, by rw [HNV2.out]; exact HLE.out⟩), fun h => by cases h⟩
                  case measure => have := HG.out; omega
          · have HE : Hid (dec (chs s) most = none) := Lib.hid (dec_digit HGET.out (by
              unfold isD
              by_cases ha : (s[pos]'hlt).toNat < 128
              · rw [HDR.out ha] at hd
                by_cases h : 48 ≤ (s[pos]'hlt).toNat
                · rw [decide_eq_true h, decide_eq_false (fun h2 => hd ⟨by omega, by omega⟩)]; rfl
                · rw [decide_eq_false h]; rfl
              · rw [decide_eq_true (by omega), decide_eq_false (by omega)]; rfl))
            by_cases h48 : ((Utf8.decode s pos).1 : Int) < 48
            · clear hd
              go_wp2_with fail
              all_goals
                go_roundg (s.size - (pos + (Utf8.decode s pos).2))
                case rel => exact ⟨pos + (Utf8.decode s pos).2, _, false, by have := HWD.out; omega, rfl, rfl, rfl, HHN.out, HBI.out, (fun h => by cases h), fun _ => HE.out⟩
                case measure => have := HG.out; have := HWD.out; omega
            · have h57 : 57 < ((Utf8.decode s pos).1 : Int) := by omega
              have h48' : 48 ≤ ((Utf8.decode s pos).1 : Int) := by omega
              clear hd
              go_wp2_with fail
              all_goals
                go_roundg (s.size - (pos + (Utf8.decode s pos).2))
                case rel => exact ⟨pos + (Utf8.decode s pos).2, _, false, by have := HWD.out; omega, rfl, rfl, rfl, HHN.out, HBI.out, (fun h => by cases h), fun _ => HE.out⟩
                case measure => have := HG.out; have := HWD.out; omega
      · obtain rfl : pos = s.size := by omega
        have hnx := fun ty => Lib.run_next_end_at (P := Try.prog) wr K s s.size ty hh (by omega)
        have htk : (chs s).take s.size = chs s := List.take_of_length_le (by rw [chs_len]; exact Nat.le_refl _)
        clear hb hh
        cases gb with
        | false =>
          have HE := Lib.hid (HNO.out rfl)
          clear htk
          go_wp2_with fail
          go_ret2
          exact DecP.none_of HE.out rfl HBW.out
        | true =>
          obtain ⟨hgs, rfl, hall, hmost⟩ := HYES.out rfl
          rw [htk] at hall hmost ⊢
          have HE := Lib.hid (dec_some (goodS_yes hgs).1 (goodS_yes hgs).2 hall hmost)
          clear htk hall hgs
          generalize decV (chs s) = nv at *
          go_wp2_with fail
          go_ret2
          exact DecP.some_of HE.out rfl HBW.out
end Go.Proofs.Ytgkelbdgdhkeoaa
