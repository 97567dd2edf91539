/- Devices: how the program's device changes in memory. -/
import Derived.Test.YthkmihedkddnmaaDev8
namespace Go.Proofs.Ythkmihedkddnmaa
open Go.RowKit Go.Maps Wire Cmd
set_option linter.unusedVariables false
set_option linter.unusedSimpArgs false

/-- Where an entry is put in another's place, and reads alike, all reads alike. -/
theorem putA_same {α β : Type} (f : α → β) {n : Nat} {x y : α} (hf : f x = f y) : ∀ {l : List (Nat × α)}, Ris l → getA n l = some y → mapA f (putA n x l) = mapA f l
  | [], _, hg => by simp [getA] at hg
  | z :: r, h, hg => by
    obtain ⟨h1, h2⟩ := List.pairwise_cons.1 h
    by_cases he : z.1 = n
    · have e2 : delA n (z :: r) = r := by
        unfold delA
        rw [List.filter_cons]
        simp only [he, beq_self_eq_true, Bool.not_true, Bool.false_eq_true, if_false]
        exact del_ris_lt (fun q hq => by have := h1 q hq; omega)
      have hz : z.2 = y := by
        unfold getA at hg
        rw [List.find?_cons] at hg
        simp only [he, beq_self_eq_true, Option.map_some, Option.some.injEq] at hg
        exact hg
      unfold putA
      rw [e2, insA_first n x (fun q hq => by have := h1 q hq; omega)]
      unfold mapA
      rw [List.map_cons, List.map_cons]
      dsimp only
      rw [hz, he, hf]
    · have e : (z.1 == n) = false := by rw [beq_eq_false_iff_ne]; exact he
      have hg2 : getA n r = some y := by
        unfold getA at hg ⊢
        rw [List.find?_cons, e] at hg
        exact hg
      have hlt : z.1 < n := h1 _ (getA_some hg2)
      have ih := putA_same f hf h2 hg2
      have e2 : delA n (z :: r) = z :: delA n r := by
        unfold delA
        rw [List.filter_cons, e]
        rfl
      unfold putA at ih ⊢
      rw [e2, show insA (n, x) (z :: delA n r) = z :: insA (n, x) (delA n r) from if_neg (by show ¬ n < z.1; omega)]
      unfold mapA at ih ⊢
      rw [List.map_cons, List.map_cons, ih]
theorem encM_map {α : Type} {H : Type} (q : IntKind) (f : α → DataW H) (l : List (Nat × α)) : encM q f l = encM q id (mapA f l) := by
  unfold encM encA mapA
  rw [List.map_map]
  rfl
theorem ris_map {α β : Type} (f : α → β) {l : List (Nat × α)} : Ris (mapA f l) ↔ Ris l := by
  unfold Ris mapA
  rw [List.pairwise_map]
theorem mapL_at_new {α : Type} {P : Program} {k : TypeId} {R : Value → Option (DataW Unit × List MemPlace)} {q : IntKind} {f : α → DataW Unit} {X w' : World} {b : Nat} {F : List Nat} (h : X.heap[b]? = some (.map #[] 0)) (hm : Mods F X w') (hb : b ∉ F) : MapL w' P k R q f b ([] : List (Nat × α)) := by
  obtain ⟨es, clock, h1, h2⟩ := mapL_new X P k R q f
  have e := heap_alloc_new X (.map #[] 0)
  have e2 : some (Obj.map es clock) = some (.map #[] 0) := h1.symm.trans e
  obtain ⟨rfl, rfl⟩ := Obj.map.inj (Option.some.inj e2)
  exact ⟨#[], 0, (hm.block _ (Array.getElem?_eq_some_iff.1 h).1 hb).trans h, h2⟩
/-- A volume is put, with a map of its own. -/
theorem DevAt.putAt {n0 : Nat} {w w' : World} {B Ba : Nat} {l : List (Nat × (Vl × Nat))} (h : DevAt n0 w B Ba l) {n : Nat} {v : Vl} {b : Nat} (hm : MapL w' Try.prog 24 RVol .u64 volF Ba (putA n (v, b) l)) (hb : MapL w' Try.prog 3 RBlk .i64 blkD b v.m)
    (hd : Mods [Ba] w w') (hn : 1 ≤ n ∧ n < 4294967296) (hv : v.Ok) (hge : n0 ≤ b) (hne : b ≠ Ba) (hap : ∀ p ∈ l, p.2.2 = b → p.1 = n) : DevAt n0 w' B Ba (putA n (v, b) l) := by
  obtain ⟨es, clock, hes⟩ := h.all.isMap
  refine ⟨(hd.block _ h.lt (fun hh => map_ne_cells hes h.box (Eq.symm (by simpa using hh)))).trans h.box, hm, fun p hp => ?_, ?_, ⟨h.ge.1, h.ge.2.1, fun p hp => ?_⟩, fun p hp => ?_, fun p hp q hq e => ?_⟩
  · rcases mem_putA hp with rfl | hp
    · exact hb
    · exact (h.vol p hp).mods hd (fun hh => h.ne p hp (by simpa using hh))
  · have : strip (putA n (v, b) l) = putA n v (strip l) := (putA_map (fun x : Vl × Nat => x.1) n (v, b) l).symm
    rw [this]
    exact putA_dev h.ok hn hv
  · rcases mem_putA hp with rfl | hp
    · exact hge
    · exact h.ge.2.2 p hp
  · rcases mem_putA hp with rfl | hp
    · exact hne
    · exact h.ne p hp
  · rcases mem_putA hp with rfl | hp <;> rcases mem_putA hq with rfl | hq
    · rfl
    · exact (hap q hq e.symm).symm
    · exact hap p hp e
    · exact h.apart p hp q hq e
/-- A volume's own map has changed. -/
theorem DevAt.volAt {n0 : Nat} {w w' : World} {B Ba : Nat} {l : List (Nat × (Vl × Nat))} (h : DevAt n0 w B Ba l) {n : Nat} {v : Vl} {b : Nat} {m : List (Nat × List UInt8)} (hg : getA n l = some (v, b)) (hb : MapL w' Try.prog 3 RBlk .i64 blkD b m)
    (hd : Mods [b] w w') (hv : Vl.Ok ⟨v.size, m⟩) : DevAt n0 w' B Ba (putA n (⟨v.size, m⟩, b) l) := by
  have hin := getA_some hg
  have hris : Ris l := (ris_map (fun x : Vl × Nat => x.1)).1 h.ok.ris
  obtain ⟨es, clock, hes⟩ := (h.vol _ hin).isMap
  have hall : MapL w' Try.prog 24 RVol .u64 volF Ba (putA n (⟨v.size, m⟩, b) l) := by
    have h1 := h.all.mods hd (fun hh => h.ne _ hin (by have e : Ba = b := by simpa using hh
                                                       exact e.symm))
    unfold MapL at h1
    rw [encM_map, ← putA_same volF (x := (⟨v.size, m⟩, b)) (y := (v, b)) rfl hris hg, ← encM_map] at h1
    exact mapL_of h1
  have hn := h.ok.nat (n, v) (by
    unfold strip mapA
    exact List.mem_map.2 ⟨_, hin, rfl⟩)
  refine ⟨(hd.block _ h.lt (fun hh => map_ne_cells hes h.box (Eq.symm (by simpa using hh)))).trans h.box, hall, fun p hp => ?_, ?_, ⟨h.ge.1, h.ge.2.1, fun p hp => ?_⟩, fun p hp => ?_, fun p hp q hq e => ?_⟩
  · rcases mem_insA.1 hp with rfl | hp
    · exact hb
    · have hpl := (List.mem_filter.1 hp).1
      exact (h.vol p hpl).mods hd (fun hh => delA_ne p hp (h.apart p hpl _ hin (by simpa using hh)))
  · have : strip (putA n (⟨v.size, m⟩, b) l) = putA n ⟨v.size, m⟩ (strip l) := (putA_map (fun x : Vl × Nat => x.1) n (⟨v.size, m⟩, b) l).symm
    rw [this]
    exact putA_dev h.ok hn hv
  · rcases mem_putA hp with rfl | hp
    · exact h.ge.2.2 (n, (v, b)) hin
    · exact h.ge.2.2 p hp
  · rcases mem_putA hp with rfl | hp
    · exact h.ne (n, (v, b)) hin
    · exact h.ne p hp
  · rcases mem_putA hp with rfl | hp <;> rcases mem_putA hq with rfl | hq
    · rfl
    · exact h.apart (n, (v, b)) hin q hq e
    · exact h.apart p hp (n, (v, b)) hin e
    · exact h.apart p hp q hq e
end Go.Proofs.Ythkmihedkddnmaa
