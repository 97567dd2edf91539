/- One number appended to a row of numbers: as one step of a region that draws its order. -/
import Derived.Deep.RegionLaw
import Derived.Test.YtgokaoajpidhnaaArea
namespace Go.Proofs.Ytgokaoajpidhnaa
open Go.RowKit
set_option linter.unusedVariables false

theorem run_row {P : Program} (w : World) (t ty E : TypeId) (kd : IntKind) (i : TypeInfo) (ht : P.underlying t = some (.slice E)) (hi : P.info? E = some i) (hz : i.zero = some (.int kd 0)) (hs1 : i.size = 1) (hb : i.bytes ≤ 8)
    {g n cap : Nat} {xs : List Nat} (row : Row E kd w g n cap xs) (b c k : Nat) (hc : w.cell? ⟨b, 0, none⟩ = some (.int kd (k : Int))) (hn : n + 1 ≤ 1000000) :
    ∃ g' c' w', (Builtin.append_ #[t, t] ty #[.slice (some ⟨g, 0, none⟩) n cap, .slice (some ⟨b, 0, none⟩) 1 c]).run P w = .ok (.slice (some ⟨g', 0, none⟩) (n + 1) c') w' ∧ Row E kd w' g' (n + 1) c' (xs ++ [k]) ∧ Mods [g] w w' ∧ (g' = g ∨ w.heap.size ≤ g') := by
  have hrow := row
  obtain ⟨cs, hh, hl, hnc, hm, hcs, htk⟩ := row
  have hnews : ∀ j u, [Value.int kd (k : Int)][j]? = some u → w.cell? ((⟨b, 0, none⟩ : Addr).add j) = some u := by
    intro j u hj
    have hj0 : j = 0 := by
      have := (List.getElem?_eq_some_iff.1 hj).1
      simpa using this
    subst hj0
    rw [Addr.add_lit]
    simpa [hc] using hj
  have hone : ∀ u ∈ [Value.int kd (k : Int)], u.oneCell' = true := by simp [Value.oneCell']
  have hkl : (kV kd xs).length = n := by rw [kV_len, hl]
  by_cases hroom : n + 1 ≤ cap
  · have hr := run_append_room (P := P) w t ty E i ht hi g n cap cs hh ⟨b, 0, none⟩ 1 c [.int kd (k : Int)] (by simp [hs1]) hnews hone hroom (by simp [hs1]; omega)
    refine ⟨g, cap, _, hr, ⟨_, setRow_heap w g cs _ E _ hh, by simp [hl], hroom, hm, ?_, ?_⟩, ⟨rfl, rfl, rfl, by simp, fun j _ hj => setRow_other w g j _ (fun e => hj (by simp [e]))⟩, .inl rfl⟩
    · simp only [hs1, Nat.mul_one, List.size_toArray, List.length_append, List.length_take, List.length_drop, Array.length_toList, List.length_singleton]
      omega
    · rw [kV_app]
      simp only [hs1, Nat.mul_one]
      have h1 : cs.toList.take n = kV kd xs := htk
      rw [h1]
      have : (kV kd xs ++ [Value.int kd (k : Int)]).length = n + 1 := by simp [hkl]
      rw [← this, List.take_left]
      simp [kV]
  · have hold : ∀ j v, (kV kd xs)[j]? = some v → w.cell? ((⟨g, 0, none⟩ : Addr).add j) = some v := by
      intro j v hj
      simp only [kV, List.getElem?_map, Option.map_eq_some_iff] at hj
      obtain ⟨k', hk', rfl⟩ := hj
      rw [Addr.add_lit, Nat.zero_add]
      exact hrow.cell hk'
    have hge := grownCap_ge w (n + 1) cap E
    have hle := grownCap_le_maxLen w (n + 1) cap E (by simp only [maxLen]; omega)
    have hbb : (n + 1) * i.bytes ≤ 140737488355328 := by
      have : (n + 1) * i.bytes ≤ 1000000 * 8 := Nat.mul_le_mul hn hb
      omega
    have hr := run_append_grow (P := P) w t ty E i (.int kd 0) ht hi hz ⟨g, 0, none⟩ n cap (kV kd xs) (by rw [hkl, hs1, Nat.mul_one]) hold ⟨b, 0, none⟩ 1 c [.int kd (k : Int)] (by simp [hs1]) hnews (by omega) (by omega) (growslice_fits (by omega) hbb)
    refine ⟨w.heap.size, grownCap w (n + 1) cap E, _, hr, ⟨_, heap_alloc_new w.drew _, by simp [hl], hge, hle, ?_, ?_⟩, ((Mods.refl [g] w).drew).alloc _, .inr (Nat.le_refl _)⟩
    · simp only [Array.size_append, List.size_toArray, size_zeroCells, hkl, List.length_singleton, Value.cells]
      simp
      omega
    · rw [kV_app]
      simp only [Array.toList_append, List.append_assoc]
      have : (kV kd xs ++ [Value.int kd (k : Int)]).length = n + 1 := by simp [hkl]
      rw [← List.append_assoc, ← this, List.take_left]
      simp [kV]

theorem step_row {P : Program} {ops : Array Oper} {o : Oper} {a : Act} {w : World} {K : Act → World → Prop} {Q : Exit → Act → World → Prop} {F : Prop}
    (hg : o.guard = none) (s x : Operand) (t : TypeId) (hop : o.op = Op.call { callee := Callee.builtin Builtin.append, args := #[s, x], argTypes := #[t, t] })
    (E : TypeId) (kd : IntKind) (bytes : Nat) (ht : P.underlying t = some (.slice E)) (hinfo : (P.info? E).map (fun i => (i.zero, i.size, i.bytes)) = some (some (.int kd 0), 1, bytes)) (hb : bytes ≤ 8)
    {g n cap : Nat} {xs : List Nat} (row : Row E kd w g n cap xs) (hs : a.eval s = .slice (some ⟨g, 0, none⟩) n cap)
    {b c k : Nat} (hx : a.eval x = .slice (some ⟨b, 0, none⟩) 1 c) (hc : w.cell? ⟨b, 0, none⟩ = some (.int kd (k : Int))) (hn : n + 1 ≤ 1000000)
    (hK : ∀ g' c' w', Row E kd w' g' (n + 1) c' (xs ++ [k]) → Mods [g] w w' → (g' = g ∨ w.heap.size ≤ g') → K (a.put o.dst (.slice (some ⟨g', 0, none⟩) (n + 1) c')) w') :
    if Region.wanted o (yielded ops a.tmps) = true then Oper.wp P o a w K Q else F := by
  have hw : Region.wanted o (yielded ops a.tmps) = true := by simp [Region.wanted, hg]
  rw [if_pos hw]
  obtain ⟨i0, hi, hz0, hz1, hz2⟩ := info_parts hinfo
  obtain ⟨g', c', w', hrun, h1, h2, h3⟩ := run_row (P := P) w t o.type E kd i0 ht hi hz0 hz1 (by omega) row b c k hc hn
  unfold Oper.wp
  simp [execOp, hop, resolve, invoke, builtin, hs, hx, hrun, Result.andThen]
  exact hK g' c' w' h1 h2 h3
end Go.Proofs.Ytgokaoajpidhnaa
