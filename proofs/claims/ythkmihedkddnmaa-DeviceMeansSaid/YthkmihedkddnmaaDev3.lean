/- Devices: read of bytes; plainly. -/
import Derived.Test.YthkmihedkddnmaaDev2
namespace Go.Proofs.Ythkmihedkddnmaa
open Go.RowKit Wire
set_option linter.unusedVariables false
set_option linter.unusedSimpArgs false

/-- So many blocks off the bytes, behind the number last; none: they are none's. -/
def ofBlks : Nat → Nat → Int → List UInt8 → Option (List (Nat × List UInt8) × List UInt8)
  | 0, _, _, b => some ([], b)
  | k + 1, size, last, b =>
    if b.length < 260 ∨ (sum (b.take 4) : Int) ≤ last ∨ size ≤ sum (b.take 4) then none
    else (ofBlks k size (sum (b.take 4)) (b.drop 260)).map fun r => ((sum (b.take 4), (b.drop 4).take 256) :: r.1, r.2)
/-- A volume off the bytes. -/
def ofVol (b : List UInt8) : Option ((Nat × Vl) × List UInt8) :=
  if b.length < 12 ∨ 256 < sum ((b.drop 4).take 4) then none
  else (ofBlks (sum ((b.drop 8).take 4)) (sum ((b.drop 4).take 4)) (-1) (b.drop 12)).map fun r => ((sum (b.take 4), ⟨sum ((b.drop 4).take 4), r.1⟩), r.2)
def ofVols : Nat → Nat → List UInt8 → Option (List (Nat × Vl) × List UInt8)
  | 0, _, b => some ([], b)
  | k + 1, last, b => (ofVol b).bind fun r => if r.1.1 ≤ last then none else (ofVols k r.1.1 r.2).map fun s => (r.1 :: s.1, s.2)
/-- The device of bytes. -/
def ofD (b : List UInt8) : Option (List (Nat × Vl)) :=
  if b.length < 4 then none else (ofVols (sum (b.take 4)) 0 (b.drop 4)).bind fun r => if r.2 = [] then some r.1 else none

theorem take_low (n : Nat) (b : List UInt8) : (low n 4 ++ b).take 4 = low n 4 := by
  rw [List.take_append_of_le_length (by rw [low_len]; omega), List.take_of_length_le (by rw [low_len]; omega)]
theorem drop_low (n : Nat) (b : List UInt8) : (low n 4 ++ b).drop 4 = b := by
  have := List.drop_left (l₁ := low n 4) (l₂ := b)
  rwa [low_len] at this
theorem low_take {b : List UInt8} (h : 4 ≤ b.length) : low (sum (b.take 4)) 4 ++ b.drop 4 = b := by
  have h1 : (b.take 4).length = 4 := by rw [List.length_take]; omega
  have := low_sum (b.take 4)
  rw [h1] at this
  rw [this, List.take_append_drop]
theorem sum4_lt (b : List UInt8) : sum (b.take 4) < 4294967296 := by
  have h := sum_lt (b.take 4)
  have h2 : (b.take 4).length ≤ 4 := by rw [List.length_take]; omega
  have : 256 ^ (b.take 4).length ≤ 256 ^ 4 := Nat.pow_le_pow_right (by omega) h2
  have e : (256 : Nat) ^ 4 = 4294967296 := by decide
  omega

theorem of_blksB (size : Nat) : ∀ (m : List (Nat × List UInt8)) (last : Int) (r : List UInt8), Ris m → (∀ q ∈ m, last < (q.1 : Int) ∧ q.1 < size ∧ q.2.length = 256) → size ≤ 4294967296 → ofBlks m.length size last (blksB m ++ r) = some (m, r)
  | [], last, r, _, _, _ => rfl
  | q :: m, last, r, h, hq, hs => by
    obtain ⟨h1, h2⟩ := List.pairwise_cons.1 h
    obtain ⟨a1, a2, a3⟩ := hq q (List.mem_cons_self ..)
    have e : blksB (q :: m) ++ r = low q.1 4 ++ (q.2 ++ (blksB m ++ r)) := by
      show (low q.1 4 ++ q.2 ++ blksB m) ++ r = _
      simp [List.append_assoc]
    have k4 : (256 : Nat) ^ 4 = 4294967296 := by decide
    have es : sum ((blksB (q :: m) ++ r).take 4) = q.1 := by rw [e, take_low, sum_low 4 _ (by omega)]
    have ed : (blksB (q :: m) ++ r).drop 4 = q.2 ++ (blksB m ++ r) := by rw [e, drop_low]
    have ed2 : (blksB (q :: m) ++ r).drop 260 = blksB m ++ r := by
      rw [show (260 : Nat) = 4 + 256 from rfl, ← List.drop_drop, ed]
      have := List.drop_left (l₁ := q.2) (l₂ := blksB m ++ r)
      rwa [a3] at this
    have et : (q.2 ++ (blksB m ++ r)).take 256 = q.2 := by
      have := List.take_left (l₁ := q.2) (l₂ := blksB m ++ r)
      rwa [a3] at this
    have hl : ¬ (blksB (q :: m) ++ r).length < 260 := by rw [e, List.length_append, List.length_append, low_len, a3]; omega
    show ofBlks (m.length + 1) size last _ = _
    rw [ofBlks, es, ed2, if_neg (by rintro (h | h | h) <;> omega), of_blksB size m q.1 r h2 (fun z hz => ⟨by have := h1 z hz; omega, (hq z (List.mem_cons_of_mem _ hz)).2⟩) hs, ed, et]
    rfl
theorem of_volB {p : Nat × Vl} (hn : p.1 < 4294967296) (hv : p.2.Ok) (r : List UInt8) : ofVol (volB p ++ r) = some (p, r) := by
  obtain ⟨n, s, m⟩ := p
  have hs := hv.size
  have hl := hv.len
  dsimp only at hs hl hn
  have k4 : (256 : Nat) ^ 4 = 4294967296 := by decide
  have e : volB (n, ⟨s, m⟩) ++ r = low n 4 ++ (low s 4 ++ (low m.length 4 ++ (blksB m ++ r))) := by simp [volB, List.append_assoc]
  have e1 : sum ((volB (n, ⟨s, m⟩) ++ r).take 4) = n := by rw [e, take_low, sum_low 4 _ (by omega)]
  have d4 : (volB (n, ⟨s, m⟩) ++ r).drop 4 = low s 4 ++ (low m.length 4 ++ (blksB m ++ r)) := by rw [e, drop_low]
  have d8 : (volB (n, ⟨s, m⟩) ++ r).drop 8 = low m.length 4 ++ (blksB m ++ r) := by rw [show (8 : Nat) = 4 + 4 from rfl, ← List.drop_drop, d4, drop_low]
  have d12 : (volB (n, ⟨s, m⟩) ++ r).drop 12 = blksB m ++ r := by rw [show (12 : Nat) = 8 + 4 from rfl, ← List.drop_drop, d8, drop_low]
  have hlen : ¬ (volB (n, ⟨s, m⟩) ++ r).length < 12 := by rw [e]; simp only [List.length_append, low_len]; omega
  unfold ofVol
  rw [e1, d4, d8, d12, take_low, take_low, sum_low 4 _ (by omega), sum_low 4 _ (by omega), if_neg (by rintro (h | h) <;> omega),
    of_blksB s m (-1) r hv.ris (fun q hq => ⟨by omega, hv.lt q hq, hv.blk q hq⟩) (by omega)]
  rfl
theorem of_volsB : ∀ (l : List (Nat × Vl)) (last : Nat) (r : List UInt8), Ris l → (∀ p ∈ l, last < p.1 ∧ p.1 < 4294967296 ∧ p.2.Ok) → ofVols l.length last (volsB l ++ r) = some (l, r)
  | [], _, _, _, _ => rfl
  | p :: l, last, r, h, hp => by
    obtain ⟨h1, h2⟩ := List.pairwise_cons.1 h
    obtain ⟨a1, a2, a3⟩ := hp p (List.mem_cons_self ..)
    have e : volsB (p :: l) ++ r = volB p ++ (volsB l ++ r) := by
      show (volB p ++ volsB l) ++ r = _
      simp [List.append_assoc]
    show ofVols (l.length + 1) last _ = _
    rw [ofVols, e, of_volB a2 a3]
    simp only [Option.bind_some]
    rw [if_neg (by omega), of_volsB l p.1 r h2 (fun z hz => ⟨h1 z hz, (hp z (List.mem_cons_of_mem _ hz)).2⟩)]
    rfl
/-- A device's bytes are read as it. -/
theorem of_devB {l : List (Nat × Vl)} (h : DevOk l) (hl : l.length < 4294967296) : ofD (devB l) = some l := by
  have k4 : (256 : Nat) ^ 4 = 4294967296 := by decide
  unfold ofD devB
  rw [if_neg (by rw [List.length_append, low_len]; omega), take_low, drop_low, sum_low 4 _ (by omega)]
  have := of_volsB l 0 [] h.ris (fun p hp => ⟨(h.nat p hp).1, (h.nat p hp).2, h.vol p hp⟩)
  rw [List.append_nil] at this
  rw [this]
  rfl

theorem blks_of (size : Nat) (hs : size ≤ 256) : ∀ (k : Nat) (last : Int) (b : List UInt8) (r : List (Nat × List UInt8) × List UInt8), ofBlks k size last b = some r →
    Ris r.1 ∧ (∀ q ∈ r.1, last < (q.1 : Int) ∧ q.1 < size ∧ q.2.length = 256) ∧ blksB r.1 ++ r.2 = b ∧ r.1.length = k
  | 0, last, b, r, h => by
    obtain rfl := Option.some.inj h
    exact ⟨List.Pairwise.nil, fun q hq => (by cases hq), rfl, rfl⟩
  | k + 1, last, b, r, h => by
    rw [ofBlks] at h
    split at h
    · cases h
    · rename_i hc
      obtain ⟨s, hs2, rfl⟩ := Option.map_eq_some_iff.1 h
      obtain ⟨i1, i2, i3, i4⟩ := blks_of size hs k _ _ s hs2
      have hb : 260 ≤ b.length := by
        rcases Nat.lt_or_ge b.length 260 with h1 | h1
        · exact absurd (.inl h1) hc
        · exact h1
      have hlast : last < (sum (b.take 4) : Int) := by
        rcases Int.lt_or_le last (sum (b.take 4)) with h1 | h1
        · exact h1
        · exact absurd (.inr (.inl h1)) hc
      have hsz : sum (b.take 4) < size := by
        rcases Nat.lt_or_ge (sum (b.take 4)) size with h1 | h1
        · exact h1
        · exact absurd (.inr (.inr h1)) hc
      have hl : ((b.drop 4).take 256).length = 256 := by rw [List.length_take, List.length_drop]; omega
      refine ⟨List.pairwise_cons.2 ⟨fun q hq => by have := (i2 q hq).1; omega, i1⟩, fun q hq => ?_, ?_, by simp only [List.length_cons, i4]⟩
      · rcases List.mem_cons.1 hq with rfl | hq
        · exact ⟨hlast, hsz, hl⟩
        · have := i2 q hq
          exact ⟨by omega, this.2⟩
      · show (low (sum (b.take 4)) 4 ++ (b.drop 4).take 256 ++ blksB s.1) ++ s.2 = b
        rw [List.append_assoc, List.append_assoc, i3]
        have e : (b.drop 4).take 256 ++ b.drop 260 = b.drop 4 := by
          rw [show (260 : Nat) = 4 + 256 from rfl, ← List.drop_drop, List.take_append_drop]
        rw [e, low_take (by omega)]
theorem vol_of {b : List UInt8} {r : (Nat × Vl) × List UInt8} (h : ofVol b = some r) : r.1.2.Ok ∧ volB r.1 ++ r.2 = b ∧ r.1.1 < 4294967296 := by
  unfold ofVol at h
  split at h
  · cases h
  · rename_i hc
    obtain ⟨s, hs, rfl⟩ := Option.map_eq_some_iff.1 h
    have hb : 12 ≤ b.length := by
      rcases Nat.lt_or_ge b.length 12 with h1 | h1
      · exact absurd (.inl h1) hc
      · exact h1
    have hz : sum ((b.drop 4).take 4) ≤ 256 := by
      rcases Nat.lt_or_ge 256 (sum ((b.drop 4).take 4)) with h1 | h1
      · exact absurd (.inr h1) hc
      · exact h1
    obtain ⟨i1, i2, i3, i4⟩ := blks_of _ hz _ _ _ s hs
    refine ⟨⟨hz, i1, fun q hq => (i2 q hq).2.1, fun q hq => (i2 q hq).2.2⟩, ?_, sum4_lt b⟩
    show (low (sum (b.take 4)) 4 ++ low (sum ((b.drop 4).take 4)) 4 ++ low s.1.length 4 ++ blksB s.1) ++ s.2 = b
    rw [List.append_assoc, i3, i4, List.append_assoc, List.append_assoc]
    have e1 : low (sum ((b.drop 8).take 4)) 4 ++ b.drop 12 = b.drop 8 := by
      have := low_take (b := b.drop 8) (by rw [List.length_drop]; omega)
      rwa [List.drop_drop] at this
    have e2 : low (sum ((b.drop 4).take 4)) 4 ++ b.drop 8 = b.drop 4 := by
      have := low_take (b := b.drop 4) (by rw [List.length_drop]; omega)
      rwa [List.drop_drop] at this
    rw [e1, e2, low_take (by omega)]
theorem vols_of : ∀ (k last : Nat) (b : List UInt8) (r : List (Nat × Vl) × List UInt8), ofVols k last b = some r →
    Ris r.1 ∧ (∀ p ∈ r.1, last < p.1 ∧ p.1 < 4294967296 ∧ p.2.Ok) ∧ volsB r.1 ++ r.2 = b ∧ r.1.length = k
  | 0, last, b, r, h => by
    obtain rfl := Option.some.inj h
    exact ⟨List.Pairwise.nil, fun q hq => (by cases hq), rfl, rfl⟩
  | k + 1, last, b, r, h => by
    rw [ofVols] at h
    obtain ⟨v, hv, h⟩ := Option.bind_eq_some_iff.1 h
    split at h
    · cases h
    · rename_i hc
      obtain ⟨s, hs, rfl⟩ := Option.map_eq_some_iff.1 h
      obtain ⟨i1, i2, i3, i4⟩ := vols_of k _ _ s hs
      obtain ⟨v1, v2, v3⟩ := vol_of hv
      refine ⟨List.pairwise_cons.2 ⟨fun q hq => (i2 q hq).1, i1⟩, fun q hq => ?_, ?_, by simp only [List.length_cons, i4]⟩
      · rcases List.mem_cons.1 hq with rfl | hq
        · exact ⟨by omega, v3, v1⟩
        · have := i2 q hq
          exact ⟨by omega, this.2⟩
      · show (volB v.1 ++ volsB s.1) ++ s.2 = b
        rw [List.append_assoc, i3, v2]
/-- Bytes that are read are just those of the device that comes. -/
theorem dev_of {b : List UInt8} {l : List (Nat × Vl)} (h : ofD b = some l) : DevOk l ∧ devB l = b := by
  unfold ofD at h
  split at h
  · cases h
  · rename_i hc
    obtain ⟨r, hr, h⟩ := Option.bind_eq_some_iff.1 h
    split at h
    · rename_i he
      obtain rfl := Option.some.inj h
      obtain ⟨i1, i2, i3, i4⟩ := vols_of _ _ _ r hr
      refine ⟨⟨i1, fun p hp => ⟨by have := (i2 p hp).1; omega, (i2 p hp).2.1⟩, fun p hp => (i2 p hp).2.2⟩, ?_⟩
      unfold devB
      rw [i4]
      rw [he, List.append_nil] at i3
      rw [i3, low_take (by omega)]
    · cases h
end Go.Proofs.Ythkmihedkddnmaa
