/- Devices: their bytes; plainly. -/
import Derived.Test.YthkmihedkddnmaaDev1
import Derived.Test.YthkmihedkddnmaaWA
namespace Go.Proofs.Ythkmihedkddnmaa
open Go.RowKit Wire
set_option linter.unusedVariables false
set_option linter.unusedSimpArgs false

/-- A volume: its size, its mapped blocks. -/
structure Vl where
  size : Nat
  m : List (Nat × List UInt8)
def blksB (m : List (Nat × List UInt8)) : List UInt8 := m.flatMap fun q => low q.1 4 ++ q.2
def volB (p : Nat × Vl) : List UInt8 := low p.1 4 ++ low p.2.size 4 ++ low p.2.m.length 4 ++ blksB p.2.m
def volsB (l : List (Nat × Vl)) : List UInt8 := l.flatMap volB
/-- A device's bytes. -/
def devB (l : List (Nat × Vl)) : List UInt8 := low l.length 4 ++ volsB l
def blksS (m : List (Nat × List UInt8)) : List UInt8 := m.flatMap fun _ => [52, 35]
def blksV (m : List (Nat × List UInt8)) : List V := m.flatMap fun q => [num q.1, blk q.2]
def volS (p : Nat × Vl) : List UInt8 := [52, 52, 52] ++ blksS p.2.m
def volV (p : Nat × Vl) : List V := [num p.1, num p.2.size, num p.2.m.length] ++ blksV p.2.m
def volsS (l : List (Nat × Vl)) : List UInt8 := l.flatMap volS
def volsV (l : List (Nat × Vl)) : List V := l.flatMap volV
def devS (l : List (Nat × Vl)) : List UInt8 := 52 :: volsS l
def devV (l : List (Nat × Vl)) : List V := num l.length :: volsV l
/-- What is in its bounds. -/
structure Vl.Ok (v : Vl) : Prop where
  size : v.size ≤ 256
  ris : Ris v.m
  lt : ∀ q ∈ v.m, q.1 < v.size
  blk : ∀ q ∈ v.m, q.2.length = 256
structure DevOk (l : List (Nat × Vl)) : Prop where
  ris : Ris l
  nat : ∀ p ∈ l, 1 ≤ p.1 ∧ p.1 < 4294967296
  vol : ∀ p ∈ l, p.2.Ok

theorem ris_len_le {α : Type} : ∀ {l : List (Nat × α)} {s : Nat} (b : Nat), Ris l → (∀ q ∈ l, b ≤ q.1 ∧ q.1 < s) → l.length ≤ s - b
  | [], s, b, _, _ => by simp
  | y :: r, s, b, h, hl => by
    obtain ⟨h1, h2⟩ := List.pairwise_cons.1 h
    have h3 := hl y (List.mem_cons_self ..)
    have := ris_len_le (y.1 + 1) h2 (fun q hq => ⟨h1 q hq, (hl q (List.mem_cons_of_mem _ hq)).2⟩)
    simp only [List.length_cons]
    omega
theorem Vl.Ok.len {v : Vl} (h : v.Ok) : v.m.length ≤ 256 := by
  have := ris_len_le 0 h.ris (fun q hq => ⟨Nat.zero_le _, h.lt q hq⟩)
  have := h.size
  omega

theorem lay_num4 {n : Nat} (h : n < 4294967296) : lay 52 (num n) = some (low n 4) := by
  unfold lay num
  rw [if_pos rfl, if_pos]
  · rfl
  · exact ⟨rfl, h⟩
theorem lay_blk35 (b : List UInt8) : lay 35 (blk b) = some b := rfl
theorem pack_cons {c : UInt8} {s : List UInt8} {v : V} {l : List V} {a : List UInt8} (h : lay c v = some a) : pack (c :: s) (v :: l) = (pack s l).map (a ++ ·) := by
  rw [pack, h]; rfl
theorem pack_app : ∀ {s1 s2 : List UInt8} {l1 l2 : List V} {a : List UInt8}, pack s1 l1 = some a → pack (s1 ++ s2) (l1 ++ l2) = (pack s2 l2).map (a ++ ·)
  | [], s2, [], l2, a, h => by
    obtain rfl : a = [] := by simpa [pack] using h.symm
    simp
  | [], s2, v :: l1, l2, a, h => by simp [pack] at h
  | c :: s1, s2, [], l2, a, h => by simp [pack] at h
  | c :: s1, s2, v :: l1, l2, a, h => by
    rw [pack] at h
    obtain ⟨x, hx, h⟩ := Option.bind_eq_some_iff.1 h
    obtain ⟨y, hy, rfl⟩ := Option.map_eq_some_iff.1 h
    rw [List.cons_append, List.cons_append, pack_cons hx, pack_app hy, Option.map_map]
    congr 1
    funext z
    simp [List.append_assoc]
theorem pack_blks : ∀ (m : List (Nat × List UInt8)), (∀ q ∈ m, q.1 < 4294967296) → pack (blksS m) (blksV m) = some (blksB m)
  | [], _ => rfl
  | q :: m, h => by
    have e1 : blksS (q :: m) = [52, 35] ++ blksS m := rfl
    have e2 : blksV (q :: m) = [num q.1, blk q.2] ++ blksV m := rfl
    have e3 : blksB (q :: m) = (low q.1 4 ++ q.2) ++ blksB m := rfl
    have h0 : pack [52, 35] [num q.1, blk q.2] = some (low q.1 4 ++ q.2) := by
      rw [pack_cons (lay_num4 (h q (List.mem_cons_self ..))), pack_cons (lay_blk35 q.2)]
      simp [pack]
    rw [e1, e2, e3, pack_app h0, pack_blks m (fun q hq => h q (List.mem_cons_of_mem _ hq))]
    rfl
theorem pack_vol {p : Nat × Vl} (hn : p.1 < 4294967296) (hv : p.2.Ok) : pack (volS p) (volV p) = some (volB p) := by
  have hs := hv.size
  have hl := hv.len
  have h0 : pack [52, 52, 52] [num p.1, num p.2.size, num p.2.m.length] = some (low p.1 4 ++ low p.2.size 4 ++ low p.2.m.length 4) := by
    rw [pack_cons (lay_num4 hn), pack_cons (lay_num4 (by omega)), pack_cons (lay_num4 (by omega))]
    simp [pack]
  unfold volS volV volB
  rw [pack_app h0, pack_blks _ (fun q hq => by have := hv.lt q hq; omega)]
  rfl
theorem pack_vols : ∀ (l : List (Nat × Vl)), (∀ p ∈ l, p.1 < 4294967296 ∧ p.2.Ok) → pack (volsS l) (volsV l) = some (volsB l)
  | [], _ => rfl
  | p :: l, h => by
    have e1 : volsS (p :: l) = volS p ++ volsS l := rfl
    have e2 : volsV (p :: l) = volV p ++ volsV l := rfl
    have e3 : volsB (p :: l) = volB p ++ volsB l := rfl
    obtain ⟨h1, h2⟩ := h p (List.mem_cons_self ..)
    rw [e1, e2, e3, pack_app (pack_vol h1 h2), pack_vols l (fun q hq => h q (List.mem_cons_of_mem _ hq))]
    rfl
/-- What the program packs are the device's bytes. -/
theorem pack_dev {l : List (Nat × Vl)} (h : DevOk l) (hl : l.length < 4294967296) : pack (devS l) (devV l) = some (devB l) := by
  unfold devS devV devB
  rw [pack_cons (lay_num4 hl), pack_vols l (fun p hp => ⟨(h.nat p hp).2, h.vol p hp⟩)]
  rfl
end Go.Proofs.Ythkmihedkddnmaa
