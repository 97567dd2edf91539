import Derived.Test.YtgmahhdnjikdjaaGreatNG2
import Derived.Test.YtgmahhdnjikdjaaGreatNG26
set_option linter.unusedVariables false
set_option linter.unusedSimpArgs false
/- A slice of several elements of many cells, made in place. -/
namespace Go.Proofs.YtgmahhdnjikdjaaGreat
open Go.RowKit
set_option linter.unusedVariables false
set_option linter.unusedSimpArgs false
theorem fold_part (o : Nat) (A : Array Value) (L : List Value) (h : o + L.length ≤ A.size) : (Array.foldl (fun (cs : Array Value) (x : Value × Nat) => cs.setIfInBounds (o + x.snd) x.fst) A L.toArray.zipIdx 0 L.toArray.zipIdx.size).toList = A.toList.take o ++ L ++ A.toList.drop (o + L.length) := by
 have hzi : L.toArray.zipIdx = (L.zipIdx 0).toArray := by apply Array.toList_inj.1; simp
 rw [hzi, List.foldl_toArray' _ _ _ (by simp)]
 have h1 := foldl_sets o L 0 A (by omega)
 rw [h1]
 simp
theorem fill_many (n : Nat) : ∀ (Ls : List (List Value)) (k : Nat) (A : Array Value), (∀ L ∈ Ls, L.length = n) → A.size = (k + Ls.length) * n →
  Instr.fill (fun i => some (i * n, n)) A ((Ls.zipIdx k).map fun p => (p.2, Value.agg p.1.toArray)) = some (A.toList.take (k * n) ++ Ls.flatten).toArray
 | [], k, A, _, h => by
  have e : A.toList.take (k * n) = A.toList := List.take_of_length_le (by rw [Array.length_toList, h]; simp)
  simp [Instr.fill, e]
 | L :: Ls, k, A, hL, h => by
  have hl : L.length = n := hL L (by simp)
  rw [List.length_cons] at h
  have hsz : k * n + n ≤ A.size := by
   rw [h, Nat.add_mul, Nat.add_mul, Nat.one_mul]; omega
  rw [List.zipIdx_cons, List.map_cons]
  unfold Instr.fill
  have e1 : (Value.agg L.toArray).cells = L.toArray := rfl
  simp only [e1, List.size_toArray, hl]
  rw [if_neg (by simp; omega)]
  have hA := fold_part (k * n) A L (by omega)
  generalize Array.foldl (fun (cs : Array Value) (x : Value × Nat) => cs.setIfInBounds (k * n + x.snd) x.fst) A L.toArray.zipIdx 0 L.toArray.zipIdx.size = A2 at hA ⊢
  have hs2 : A2.size = A.size := by
   rw [← Array.length_toList, hA]
   simp only [List.length_append, List.length_take, List.length_drop, Array.length_toList]
   omega
  have ih := fill_many n Ls (k + 1) A2 (fun l h => hL l (by simp [h])) (by rw [hs2, h]; congr 1; omega)
  rw [ih, hA]
  congr 2
  rw [List.flatten_cons, ← List.append_assoc, Nat.add_mul, Nat.one_mul]
  congr 1
  rw [List.take_append_of_le_length (by simp only [List.length_append, List.length_take, Array.length_toList]; omega)]
  exact List.take_of_length_le (by simp only [List.length_append, List.length_take, Array.length_toList]; omega)
theorem run_buildSlice_many {P : Program} (w : World) (t e : TypeId) (n : Nat) (z : Value) (Ls : List (List Value)) (m : Nat) (parts : Array (Nat × Value)) (hp : parts.toList = (Ls.zipIdx 0).map fun p => (p.2, Value.agg p.1.toArray)) (ht : P.underlying t = some (.slice e)) (hi : (P.info? e).map (fun i => (i.zero, i.size)) = some (some z, n)) (hz : z.cells.size = n) (hL : ∀ L ∈ Ls, L.length = n) (hm : Ls.length = m) (hn : 0 < n) (hn2 : n ≤ 1000) (hm0 : 0 < m) (hm2 : m ≤ 10) :
  (Instr.buildSlice t m parts).run P w = .ok (.slice (some ⟨w.heap.size, 0, none⟩) m m) (w.alloc (.cells Ls.flatten.toArray e)) := by
 cases hq : P.info? e with
 | none => rw [hq] at hi; cases hi
 | some i =>
  rw [hq] at hi
  simp only [Option.map_some, Option.some.injEq, Prod.mk.injEq] at hi
  obtain ⟨h1, h2⟩ := hi
  have hs : ∀ W, (sizeOf e).run P W = .ok n W := fun W => by simp [sizeOf, typeInfo, hq, h2]
  have hzv : ∀ W, (zeroValue e).run P W = .ok z W := fun W => by simp [zeroValue, typeInfo, hq, h1]
  have hf : ∀ A : Array Value, A.size = m * n → Instr.fill (fun i => some (i * n, n)) A parts.toList = some Ls.flatten.toArray := by
   intro A hA
   rw [hp, fill_many n Ls 0 A hL (by rw [hm, hA, Nat.zero_add])]
   simp
  have hmn : m * n ≤ 10 * 1000 := Nat.mul_le_mul hm2 hn2
  have hmn0 : 0 < m * n := Nat.mul_pos hm0 hn
  unfold Instr.buildSlice
  rw [Sem.run_bind, run_underlying ht w]
  simp only [Result.andThen_ok, Sem.run_bind, hs]
  rw [if_neg (by omega)]
  have hn0 : ¬ m * n = 0 := by omega
  simp only [hn0, if_false, Sem.run_bind, hzv, Result.andThen_ok, Sem.run_pure]
  rw [hf _ (by simp)]
  rfl
theorem wpList_buildN {P : Program} {ops : Array Oper} {rest : List Oper} {o : Oper} {a : Act} {Q : Exit → Act → World → Prop} {w : World} (hgd : o.guard = none) (xs : Array (Nat × Operand)) (t e : TypeId) (n : Nat) (z : Value) (Ls : List (List Value)) (m : Nat)
  (ho : o.op = .buildSlice t m xs) (hx : (xs.map fun (p : Nat × Operand) => (p.1, a.eval p.2)).toList = (Ls.zipIdx 0).map fun p => (p.2, Value.agg p.1.toArray)) (ht : P.underlying t = some (.slice e)) (hi : (P.info? e).map (fun i => (i.zero, i.size)) = some (some z, n)) (hz : z.cells.size = n) (hL : ∀ L ∈ Ls, L.length = n) (hm : Ls.length = m) (hn : 0 < n) (hn2 : n ≤ 1000) (hm0 : 0 < m) (hm2 : m ≤ 10)
  (h : wpList P ops Q rest (a.put o.dst (.slice (some ⟨w.heap.size, 0, none⟩) m m)) (w.alloc (.cells Ls.flatten.toArray e))) : wpList P ops Q (o :: rest) a w := by
 refine wpList_plain hgd fun K hK => ?_
 have hrun := run_buildSlice_many (P := P) w t e n z Ls m _ hx ht hi hz hL hm hn hn2 hm0 hm2
 unfold Oper.wp execOp
 simp only [ho, Sem.run_bind, hrun, Result.andThen_ok, Sem.run_pure]
 exact hK _ _ h
end Go.Proofs.YtgmahhdnjikdjaaGreat
/- The law's known of layer 10, walked. -/
namespace Go.Proofs.YtgmahhdnjikdjaaGreat
open Go.RowKit Go.Maps Wire
set_option linter.unusedVariables false
set_option linter.unusedSimpArgs false
theorem act_built (k v : Int) : Tryz.prog.built 119 [(0, .int .i64 1), (1, .int .u64 k), (2, .int .u64 v)] = some #[.int .i64 1, .int .u64 k, .int .u64 v] := by kernel_rfl
def zac : Value := .agg #[.int .i64 0, .int .u64 0, .int .u64 0]
theorem infoAc : (Tryz.prog.info? 119).map (fun i => (i.zero, i.size)) = some (some zac, 3) := by kernel_rfl
def acA : List (Nat × Nat) := [(1, 7), (2, 8)]
def acB : List (Nat × Nat) := [(1, 7), (2, 9), (3, 4)]
theorem updA : Upp acA := ⟨fun i j p q hij hp hq => by
 rcases i with _ | _ | i <;> rcases j with _ | _ | j <;> simp [acA] at hp hq <;> (try omega)
 obtain rfl := hp; obtain rfl := hq; decide, fun p hp => by
 simp only [acA, List.mem_cons, List.mem_nil_iff, or_false] at hp
 rcases hp with rfl | rfl <;> decide⟩
theorem updB : Upp acB := ⟨fun i j p q hij hp hq => by
 rcases i with _ | _ | _ | i <;> rcases j with _ | _ | _ | j <;> simp [acB] at hp hq <;> (try omega) <;> (obtain rfl := hp; obtain rfl := hq; decide), fun p hp => by
 simp only [acB, List.mem_cons, List.mem_nil_iff, or_false] at hp
 rcases hp with rfl | rfl | rfl <;> decide⟩
theorem ac_row {X : World} {b m : Nat} {l : List (Nat × Nat)} (hl : l.length = m) (hm : m ≤ 10) (hx : X.heap[b]? = some (.cells (acV l).toArray 119 (0, 0))) (h0 : 0 < m) : Rd X 3 (.slice (some ⟨b, 0, none⟩) m m) m (acV l) := by
 have hlen : (acV l).length = m * 3 := by
  rw [← hl]
  clear hx hl hm h0
  induction l with
  | nil => rfl
  | cons p l ih => rw [show acV (p :: l) = .int .i64 1 :: .int .u64 (p.1 : Int) :: .int .u64 (p.2 : Int) :: acV l from rfl]; simp only [List.length_cons, ih]; omega
 refine ⟨_, _, rfl, hlen, by unfold maxLen; omega, ⟨fun h => by (cases h), Nat.le_refl _, by unfold maxLen; omega⟩, fun j u hu => ?_⟩
 refine ⟨b, 0, rfl, (Array.getElem?_eq_some_iff.1 hx).1, ?_⟩
 rw [Nat.zero_add]
 exact cellOf hx j (by simpa using hu)
theorem find95' : find (allocM ar9 4) 0 = some 5 := by decide +kernel
theorem bCg (k o n : Int) (h s : Bool) (W : World) : (Instr.build 107 #[(0, .int .u64 k), (1, .int .u64 o), (2, .int .u64 n), (3, .bool h), (4, .bool s)]).run Tryz.prog W = .ok (.agg #[.int .u64 k, .int .u64 o, .int .u64 n, .bool h, .bool s]) W := run_build W 107 _ _ (by kernel_rfl)
theorem bCg2 (k n : Int) (s : Bool) (W : World) : (Instr.build 107 #[(0, .int .u64 k), (2, .int .u64 n), (4, .bool s)]).run Tryz.prog W = .ok (.agg #[.int .u64 k, .int .u64 0, .int .u64 n, .bool false, .bool s]) W := run_build W 107 _ _ (by kernel_rfl)
theorem eqC1 (W : World) : (binOp .eql 107 (.agg #[.int .u64 2, .int .u64 8, .int .u64 9, .bool true, .bool true]) (.agg #[.int .u64 2, .int .u64 8, .int .u64 9, .bool true, .bool true])).run Tryz.prog W = .ok (.bool true) W := by kernel_rfl
theorem eqC2 (W : World) : (binOp .eql 107 (.agg #[.int .u64 3, .int .u64 0, .int .u64 4, .bool false, .bool true]) (.agg #[.int .u64 3, .int .u64 0, .int .u64 4, .bool false, .bool true])).run Tryz.prog W = .ok (.bool true) W := by kernel_rfl
theorem dAB : dZ acA acB = [⟨2, 8, 9, true, true⟩, ⟨3, 0, 4, false, true⟩] := by simp [dZ, acA, acB]
set_option maxRecDepth 100000 in
set_option maxHeartbeats 12800000 in
theorem known10_at (w : World) : Calls Tryz.prog 20 #[] w fun e w' => e = .returned (.bool true) ∧ Below w.heap.size w w' := by
 have CM := made09_at w
 unfold Made9 pt at CM
 have htx : su9.tx + 1 < 18446744073709551616 := by decide +kernel
 have f9 := find9
 have f95 := find95'
 have l9 := ar9_len
 have l9' := ar9_len'
 have HTX := Lib.hid htx
 have hc45 : 4 < (allocM (allocM ar9 4) 5).now.length ∧ 5 < (allocM (allocM ar9 4) 5).now.length ∧ ctN (allocM (allocM ar9 4) 5).now 4 ≠ 0 ∧ ctN (allocM (allocM ar9 4) 5).now 5 ≠ 0 := by decide +kernel
 have HC45 := Lib.hid hc45
 clear hc45
 have HF9 := Lib.hid (And.intro f9 (And.intro f95 (And.intro l9 l9')))
 clear f9 htx l9 l9' f95
 obtain ⟨A9, hA9⟩ : ∃ x, ar9 = x := ⟨_, rfl⟩
 obtain ⟨s9, hs9⟩ : ∃ x, su9 = x := ⟨_, rfl⟩
 rw [hA9] at CM HF9 HC45
 rw [hs9] at CM HTX
 clear hA9 hs9
 go_enter Tryz.func20, Tryz.ntmps20
 go_wp2_with fail
 refine CM.mono ?_
 rintro e w1 ⟨S, B, pm, pd, mf, md, Fm, Fd, rfl, hst, hb, hge⟩
 have HS := Lib.hid hst
 have HB1 := Lib.hid hb
 have HGE : Hid (∀ k ∈ mf :: Fm, w.heap.size ≤ k) := Lib.hid (fun k hk => by
  rcases List.mem_cons.1 hk with rfl | hk
  ·exact hge _ (by simp [stF])
  ·exact hge _ (by simp [stF, hk]))
 have HGL : Hid (∀ k ∈ mf :: Fm, k < w1.heap.size) := Lib.hid (fun k hk => by
  rcases List.mem_cons.1 hk with rfl | hk
  ·exact hst.lt _ (by simp [stF])
  ·exact hst.lt _ (by simp [stF, hk]))
 clear CM hst hb hge
 go_upto_region 2 with fail
 apply wp_region_lit
 iterate 3 go_step
 refine wpL_build (by kernel_rfl) 119 _ rfl _ (by simp only [List.map_toArray, List.map_cons, List.map_nil]; rfl) _ (act_built 1 7) ?_
 dsimp only [Act.put]
 refine wpL_build (by kernel_rfl) 119 _ rfl _ (by simp only [List.map_toArray, List.map_cons, List.map_nil]; rfl) _ (act_built 2 8) ?_
 dsimp only [Act.put]
 refine wpList_buildN rfl _ 120 119 3 zac [[.int .i64 1, .int .u64 1, .int .u64 7], [.int .i64 1, .int .u64 2, .int .u64 8]] 2 rfl (by rw [Array.toList_map]; rfl) Tryz.underlying120 infoAc rfl (by simp) rfl (by decide) (by decide) (by decide) (by decide) ?_
 dsimp only [Act.put]
 obtain ⟨w2, hw2⟩ : ∃ W, w1.alloc (.cells (List.flatten [[Value.int .i64 1, .int .u64 1, .int .u64 7], [.int .i64 1, .int .u64 2, .int .u64 8]]).toArray 119) = W := ⟨_, rfl⟩
 rw [hw2]
 have hb2 : Below w1.heap.size w1 w2 := by rw [← hw2]; exact balloc (Below.refl _ _) _
 have hx2 : w2.heap[w1.heap.size]? = some (.cells (acV acA).toArray 119 (0, 0)) := by rw [← hw2]; exact heap_alloc_new _ _
 have HB2 := Lib.hid hb2
 have C := dbuild_at (HS.out.below hb2) 4 HF9.out.1 (by decide) HTX.out (by decide) (.slice (some ⟨w1.heap.size, 0, none⟩) 2 2) acA (by decide) updA (fun X hX => ac_row rfl (by decide) ((hX.block _ (Array.getElem?_eq_some_iff.1 hx2).1 (fun hh => by have := HGL.out _ hh; omega)).trans hx2) (by decide))
 clear hw2 hb2 hx2
 go_wp2_with fail
 refine C.mono ?_
 rintro e w3 ⟨xa, vla, rfl, hst, hms⟩
 have HS3 := Lib.hid hst
 have HM3 : Hid (Mods (mf :: Fm) w1 w3) := Lib.hid ((Mods.of_below HB2.out).trans hms (fun k hk => .inl hk))
 clear C hst hms
 dsimp only
 go_upto_region 3 with fail
 apply wp_region_lit
 iterate 3 go_step
 refine wpL_build (by kernel_rfl) 119 _ rfl _ (by simp only [List.map_toArray, List.map_cons, List.map_nil]; rfl) _ (act_built 1 7) ?_
 dsimp only [Act.put]
 refine wpL_build (by kernel_rfl) 119 _ rfl _ (by simp only [List.map_toArray, List.map_cons, List.map_nil]; rfl) _ (act_built 2 9) ?_
 dsimp only [Act.put]
 refine wpL_build (by kernel_rfl) 119 _ rfl _ (by simp only [List.map_toArray, List.map_cons, List.map_nil]; rfl) _ (act_built 3 4) ?_
 dsimp only [Act.put]
 refine wpList_buildN rfl _ 120 119 3 zac [[.int .i64 1, .int .u64 1, .int .u64 7], [.int .i64 1, .int .u64 2, .int .u64 9], [.int .i64 1, .int .u64 3, .int .u64 4]] 3 rfl (by rw [Array.toList_map]; rfl) Tryz.underlying120 infoAc rfl (by simp) rfl (by decide) (by decide) (by decide) (by decide) ?_
 dsimp only [Act.put]
 obtain ⟨w4, hw4⟩ : ∃ W, w3.alloc (.cells (List.flatten [[Value.int .i64 1, .int .u64 1, .int .u64 7], [.int .i64 1, .int .u64 2, .int .u64 9], [.int .i64 1, .int .u64 3, .int .u64 4]]).toArray 119) = W := ⟨_, rfl⟩
 rw [hw4]
 have hb4 : Below w3.heap.size w3 w4 := by rw [← hw4]; exact balloc (Below.refl _ _) _
 have hx4 : w4.heap[w3.heap.size]? = some (.cells (acV acB).toArray 119 (0, 0)) := by rw [← hw4]; exact heap_alloc_new _ _
 have HB4 := Lib.hid hb4
 have C := dbuild_at (HS3.out.below hb4) 5 HF9.out.2.1 (by decide) HTX.out (Nat.le_trans (putA_len _ _ _) (by decide)) (.slice (some ⟨w3.heap.size, 0, none⟩) 3 3) acB (by decide) updB (fun X hX => ac_row rfl (by decide) ((hX.block _ (Array.getElem?_eq_some_iff.1 hx4).1 (fun hh => by have := HGL.out _ hh; have := HM3.out.size; omega)).trans hx4) (by decide))
 clear hw4 hb4 hx4
 go_wp2_with fail
 refine C.mono ?_
 rintro e w5 ⟨xb, vlb, rfl, hst, hms⟩
 have HS5 := Lib.hid hst
 have HM5 : Hid (Mods (mf :: Fm) w1 w5) := Lib.hid ((HM3.out.thenBelow HB4.out).trans hms (fun k hk => .inl hk))
 clear C hst hms
 dsimp only
 have HLA : Hid (4 < (allocM (allocM A9 4) 5).now.length ∧ 5 < (allocM (allocM A9 4) 5).now.length ∧ ctN (allocM (allocM A9 4) 5).now 4 ≠ 0 ∧ ctN (allocM (allocM A9 4) 5).now 5 ≠ 0) := Lib.hid HC45.out
 have HGA : Hid (getA 4 (putA 5 (xb, lf s9.tx acB) (putA 4 (xa, lf s9.tx acA) [])) = some (xa, lf s9.tx acA)) := Lib.hid (by rw [getA_put_ne (by decide)]; exact getA_put _ _ _)
 have HGB : Hid (getA 5 (putA 5 (xb, lf s9.tx acB) (putA 4 (xa, lf s9.tx acA) [])) = some (xb, lf s9.tx acB)) := Lib.hid (getA_put _ _ _)
 have HOA : Hid ((lf s9.tx acA).Ok ∧ (lf s9.tx acB).Ok) := Lib.hid ⟨lf_ok updA (by decide), lf_ok updB (by decide)⟩
 have C := dof_leaf (w := w5) (some ⟨S, 0, none⟩) 4 5 [4] [5] acA acB (by simp [okD, acA, acB]) (by decide)
  (dboth_ok w5 _ 4 5 0 [4] [5] (dset_by w5 _ 4 0 [4] (by decide) (fun n hn => by rw [List.mem_singleton.1 hn]; decide) (tnodes_leaf HS5.out 4 (by decide) HLA.out.1 HLA.out.2.2.1 _ _ HGA.out HOA.out.1 (by show (3 : Int) ≠ 1; decide)))
   (fun X hX => dset_by X _ 5 0 [5] (by decide) (fun n hn => by rw [List.mem_singleton.1 hn]; decide) (tnodes_leaf (HS5.out.below hX) 5 (by decide) HLA.out.2.1 HLA.out.2.2.2 _ _ HGB.out HOA.out.2 (by show (3 : Int) ≠ 1; decide))))
  (fun X m hX hm => dpairs_leaf (HS5.out.below hX) 4 (by decide) HLA.out.1 HLA.out.2.2.1 _ _ HGA.out HOA.out.1 (by show (3 : Int) ≠ 1; decide) m _ hm rfl)
  (fun X m hX hm => dpairs_leaf (HS5.out.below hX) 5 (by decide) HLA.out.2.1 HLA.out.2.2.2 _ _ HGB.out HOA.out.2 (by show (3 : Int) ≠ 1; decide) m _ hm rfl)
 rw [dAB] at C
 go_wp2_with fail
 refine C.mono ?_
 rintro e w6 ⟨v, base, rfl, ho, hbs, hb6⟩
 obtain ⟨g, c, cur, rfl, _, _, _, _, hx, hsz, htk⟩ := rowSome ho (by decide)
 have HM6 := Lib.hid (HM5.out.thenBelow hb6)
 have hcell : ∀ (j : Nat) (u : Value), (cgsV [⟨2, 8, 9, true, true⟩, ⟨3, 0, 4, false, true⟩])[j]? = some u → w6.cell? ⟨g, j, none⟩ = some u := fun j u hu => cellOf hx j (by
  rw [← htk, List.getElem?_take] at hu
  split at hu
  ·simpa using hu
  ·cases hu)
 have k0 := hcell 0 (.int .u64 2) rfl
 have k1 := hcell 1 (.int .u64 8) rfl
 have k2 := hcell 2 (.int .u64 9) rfl
 have k3 := hcell 3 (.bool true) rfl
 have k4 := hcell 4 (.bool true) rfl
 have k5 := hcell 5 (.int .u64 3) rfl
 have k6 := hcell 6 (.int .u64 0) rfl
 have k7 := hcell 7 (.int .u64 4) rfl
 have k8 := hcell 8 (.bool false) rfl
 have k9 := hcell 9 (.bool true) rfl
 have hb1 := bCg 2 8 9 true true
 have hb2 := bCg2 3 4 true
 have he1 := eqC1
 have he2 := eqC2
 clear C ho hbs hb6 hx hsz htk hcell
 dsimp only
 go_wp2_with fail
 go_ret
 refine ⟨rfl, ((Mods.of_below HB1.out).trans HM6.out (fun k hk => .inr (HGE.out k hk))).below (F := []) (fun k hk => by simp at hk) (Nat.le_refl _)⟩
end Go.Proofs.YtgmahhdnjikdjaaGreat
/- DiffNil, walked. -/
namespace Go.Proofs.YtgmahhdnjikdjaaGreat
open Go.RowKit Go.Maps Wire
set_option linter.unusedVariables false
set_option linter.unusedSimpArgs false
theorem nodesP_nil {w w' : World} {er : Int} (h : Below w.heap.size w w') : NodesP [] er w (.returned (.tuple #[.slice none 0 0, .int .i64 er])) w' := ⟨_, rfl, Rd.of_own (World.ownsRow_nil w' 0 22 1), h⟩
theorem set_nil (w : World) : Calls Tryz.prog 97 #[.pointer none, .int .u32 0] w (SetP [] 1 w) :=
 dset_by w none 0 1 [] (by simp) (fun n hn => by simp at hn) ((tnodes_no w (.pointer none) (.inl rfl) 0).mono fun e w' hp => by rw [hp.1]; exact nodesP_nil hp.2)
theorem both_nil (w : World) : Calls Tryz.prog 50 #[.pointer none, .int .u32 0, .int .u32 0] w fun e w' => ∃ va vb, e = .returned (.tuple #[.map va, .map vb, .int .i64 1]) ∧ Below w.heap.size w w' :=
 (dboth_err w none 0 0 1 [] (by decide) (set_nil w)).mono fun e w' hp => ⟨_, _, hp.1, hp.2⟩
section
variable {w : World} {S B pm pd mf md : Nat} {s : Su} {A D : M} {Fm Fd : List Nat}
theorem set_big (h : StB w S B pm pd mf md s A D Fm Fd false) (hn : A.now.length ≤ 200) : Calls Tryz.prog 97 #[.pointer (some ⟨S, 0, none⟩), .int .u32 200] w (SetP [] 2 w) :=
 dset_by w _ 200 2 [] (by simp) (fun n hn => by simp at hn) ((tnodes_big h 200 hn (by decide)).mono fun e w' hp => by rw [hp.1]; exact nodesP_nil hp.2)
theorem set_0 (h : StB w S B pm pd mf md s A D Fm Fd false) : Calls Tryz.prog 97 #[.pointer (some ⟨S, 0, none⟩), .int .u32 0] w (SetP [] 0 w) :=
 dset_by w _ 0 0 [] (by simp) (fun n hn => by simp at hn) ((tnodes_0 h).mono fun e w' hp => by rw [hp.1]; exact nodesP_nil hp.2)
theorem of_big1 (h : StB w S B pm pd mf md s A D Fm Fd false) (hn : A.now.length ≤ 200) : Calls Tryz.prog 17 #[.pointer (some ⟨S, 0, none⟩), .int .u32 200, .int .u32 0] w fun e w' => e = .returned (.tuple #[.slice none 0 0, .int .i64 2]) ∧ Below w.heap.size w w' :=
 dof_err w _ 200 0 2 (by decide) ((dboth_err w _ 200 0 2 [] (by decide) (set_big h hn)).mono fun e w' hp => ⟨_, _, hp.1, hp.2⟩)
theorem of_big2 (h : StB w S B pm pd mf md s A D Fm Fd false) (hn : A.now.length ≤ 200) : Calls Tryz.prog 17 #[.pointer (some ⟨S, 0, none⟩), .int .u32 0, .int .u32 200] w fun e w' => e = .returned (.tuple #[.slice none 0 0, .int .i64 2]) ∧ Below w.heap.size w w' :=
 dof_err w _ 0 200 2 (by decide) ((dboth_ok w _ 0 200 2 [] [] (set_0 h) (fun X hX => set_big (h.below hX) hn)).mono fun e w' hp => by
  obtain ⟨ma, mb, he, _, _, hb⟩ := hp
  exact ⟨_, _, he, hb⟩)
end
theorem aggBo (w : World) : (isAgg 4).run Tryz.prog w = .ok false w := by kernel_rfl
theorem below_grown {w w' : World} (hb : Below w.heap.size w w') : w.grownBy w' none := ⟨hb.os, hb.tape, hb.output, hb.size, fun k hk _ => hb.block k hk⟩
theorem size_al (w : World) (o : Obj) : (w.alloc o).heap.size = w.heap.size + 1 := Array.size_push _
set_option maxRecDepth 100000 in
set_option maxHeartbeats 3200000 in
theorem dwalk_any (w : World) (a : Option Addr) (r t : Int) : Calls Tryz.prog 19 #[.pointer a, .int .u32 r, .int .u32 t] w fun e w' => e = .returned (.func (.func 55) #[] #[.pointer (some ⟨w.heap.size, 0, none⟩), .pointer (some ⟨w.heap.size + 1, 0, none⟩), .pointer (some ⟨w.heap.size + 1 + 1, 0, none⟩)]) ∧
  ((w.alloc (.cells #[.pointer a] 37)).alloc (.cells #[.int .u32 r] 22)).alloc (.cells #[.int .u32 t] 22) = w' := by
 have hmf : ∀ (fn : Fn) (first cap : Array Value) (w : World), (Instr.makeFunc fn first cap).run Tryz.prog w = .ok (.func fn first cap) w := by intros; rfl
 go_enter Tryz.func19, Tryz.ntmps19
 go_wp2_with fail
 go_ret
 exact ⟨rfl, rfl⟩
set_option maxRecDepth 100000 in
set_option maxHeartbeats 3200000 in
theorem dwalk_stops (n : Nat) (b1 b2 b3 S : Nat) (w : World) (h1 : w.heap[b1]? = some (.cells #[.pointer (some ⟨S, 0, none⟩)] 37 (0, 0))) (h2 : w.heap[b2]? = some (.cells #[.int .u32 200] 22 (0, 0))) (h3 : w.heap[b3]? = some (.cells #[.int .u32 0] 22 (0, 0)))
  (hC : ∀ X, Below w.heap.size w X → Calls Tryz.prog 17 #[.pointer (some ⟨S, 0, none⟩), .int .u32 200, .int .u32 0] X fun e w' => e = .returned (.tuple #[.slice none 0 0, .int .i64 2]) ∧ Below X.heap.size X w') (Fp : World → Nat → Prop) :
  SeqStopsK Fence.wide n Tryz.prog 55 #[.pointer (some ⟨b1, 0, none⟩), .pointer (some ⟨b2, 0, none⟩), .pointer (some ⟨b3, 0, none⟩)] (fun _ : Unit => #[undef]) (KpF Fp) (fun ys => ys = []) (fun pre => pre <+: []) 0 w := by
 intro l J Jx W hW hJ hJx hY h0
 have HJ0 := Lib.hid h0
 have HJ := Lib.hid hJ
 have c1 := cellOf ((hW.block b1 (Array.getElem?_eq_some_iff.1 h1).1).trans h1) 0 rfl
 have c2 := cellOf ((hW.block b2 (Array.getElem?_eq_some_iff.1 h2).1).trans h2) 0 rfl
 have c3 := cellOf ((hW.block b3 (Array.getElem?_eq_some_iff.1 h3).1).trans h3) 0 rfl
 have C := hC W hW
 clear h0 hY hJ hJx hC h1 h2 h3 hW
 refine callsIn_of_wp Tryz.func55 rfl trivial ?_ rfl
 refine wpIn_wide.2 ?_
 simp only [Tryz.ntmps55, List.size_toArray, List.length_cons, List.length_nil, Nat.reduceAdd, Nat.reduceSub, Array.replicate_succ, Array.replicate_zero, List.push_toArray, List.append_toArray, List.nil_append, List.cons_append]
 go_wp2_with fail
 refine C.mono ?_
 rintro e w1 ⟨rfl, hb1⟩
 have HJ1 : Hid (J [] w1) := Lib.hid (HJ.out [] W w1 none HJ0.out (below_grown hb1) (fun r e => by cases e))
 clear C hb1 c1 c2 c3
 dsimp only
 go_wp2_with fail
 refine bodyPost_ret (results_none rfl _ _ _) rfl ?_
 exact ⟨⟨_, rfl⟩, .inl ⟨[], rfl, HJ1.out⟩⟩
theorem eqlWk (a b c : Nat) (W : World) : (binOp .eql 47 (.func (.func 55) #[] #[.pointer (some ⟨a, 0, none⟩), .pointer (some ⟨b, 0, none⟩), .pointer (some ⟨c, 0, none⟩)]) .nilFunc).run Tryz.prog W = .ok (.bool false) W := by kernel_rfl
set_option maxRecDepth 100000 in
set_option maxHeartbeats 6400000 in
theorem diffNil_in (w : World) : CallsIn Fence.wide 5 Tryz.prog 4 #[] w fun e w' => e = .returned (.bool true) ∧ Below w.heap.size w w' := by
 have hro : Fence.wide.round = none := rfl
 refine callsIn_of_wp_marks Tryz.func4 rfl trivial ?_ hro
 refine wpIn_wide.2 ?_
 simp only [Tryz.ntmps4, List.size_toArray, List.length_cons, List.length_nil, Nat.reduceAdd, Nat.reduceSub, Array.replicate_succ, Array.replicate_zero, List.push_toArray, List.append_toArray, List.nil_append, List.cons_append]
 obtain ⟨w1, hw1⟩ : ∃ y, w.alloc (.cells #[.bool false] 4) = y := ⟨_, rfl⟩
 have HB : Hid (Below w.heap.size w w1) := Lib.hid (by rw [← hw1]; exact balloc (Below.refl _ _) _)
 have hx1 : w1.heap[w.heap.size]? = some (.cells #[.bool false] 4 (0, 0)) := by rw [← hw1]; exact heap_alloc_new w _
 obtain ⟨z, hz⟩ : ∃ z, w.heap.size = z := ⟨_, rfl⟩
 rw [hz] at hx1
 have HX1 := Lib.hid hx1
 have HZW := Lib.hid hz
 have HB01 : Hid (Below w1.heap.size w1 w1) := Lib.hid (Below.refl _ _)
 have HBW := HB
 clear hx1
 have C := dof_err w1 none 0 0 1 (by decide) (both_nil w1)
 go_wp2_with fail
 (try rw [hw1])
 (try rw [hz])
 clear hw1 hz
 have HB := HB01
 refine C.mono ?_
 rintro e w2 ⟨rfl, hb⟩
 have HB := Lib.hid (bthn HB.out hb)
 clear C hb
 dsimp only
 have C := donly_err w2 none 0 0 1 (by decide) (both_nil w2)
 go_wp2_with fail
 refine C.mono ?_
 rintro e w3 ⟨rfl, hb⟩
 have HB := Lib.hid (bthn HB.out hb)
 clear C hb
 dsimp only
 have C := made09_at w3
 unfold Made9 pt at C
 have l9 := ar9_len
 have HL9 := Lib.hid (show ar9.now.length ≤ 200 by rw [l9]; exact Nat.le_refl _)
 clear l9
 obtain ⟨A9, hA9⟩ : ∃ x, ar9 = x := ⟨_, rfl⟩
 obtain ⟨s9, hs9⟩ : ∃ x, su9 = x := ⟨_, rfl⟩
 rw [hA9] at C HL9
 rw [hs9] at C
 clear hA9 hs9
 go_wp2_with fail
 refine C.mono ?_
 rintro e w4 ⟨S, B, pm, pd, mf, md, Fm, Fd, rfl, hst, hb, hge⟩
 have HS := Lib.hid hst.st
 have HB := Lib.hid (bthn HB.out hb)
 clear C hst hb hge
 have C := of_big1 HS.out HL9.out
 go_wp2_with fail
 refine C.mono ?_
 rintro e w5 ⟨rfl, hb⟩
 have HB := Lib.hid (bthn HB.out hb)
 have HS := Lib.hid (HS.out.below hb)
 clear C hb
 dsimp only
 have C := of_big2 HS.out HL9.out
 go_wp2_with fail
 refine C.mono ?_
 rintro e w6 ⟨rfl, hb⟩
 have HB := Lib.hid (bthn HB.out hb)
 have HS := Lib.hid (HS.out.below hb)
 clear C hb
 dsimp only
 have C := dwalk_any w6 (some ⟨S, 0, none⟩) 200 0
 go_wp2_with fail
 refine C.mono ?_
 rintro e w7 ⟨rfl, hw7⟩
 have hb7 : Below w6.heap.size w6 w7 := by rw [← hw7]; exact balloc (balloc (balloc (Below.refl _ _) _) _) _
 have hxa : w7.heap[w6.heap.size]? = some (.cells #[.pointer (some ⟨S, 0, none⟩)] 37 (0, 0)) := by
  rw [← hw7]
  have h9 := heap_alloc_new w6 (.cells #[.pointer (some ⟨S, 0, none⟩)] 37)
  exact ((balloc (balloc (Below.refl _ _) _) _).block _ (Array.getElem?_eq_some_iff.1 h9).1).trans h9
 have hxb : w7.heap[w6.heap.size + 1]? = some (.cells #[.int .u32 200] 22 (0, 0)) := by
  rw [← hw7]
  have h9 := heap_alloc_new (w6.alloc (.cells #[.pointer (some ⟨S, 0, none⟩)] 37)) (.cells #[.int .u32 200] 22)
  rw [size_al] at h9
  exact ((balloc (Below.refl _ _) _).block _ (Array.getElem?_eq_some_iff.1 h9).1).trans h9
 have hxc : w7.heap[w6.heap.size + 1 + 1]? = some (.cells #[.int .u32 0] 22 (0, 0)) := by
  rw [← hw7]
  have h9 := heap_alloc_new ((w6.alloc (.cells #[.pointer (some ⟨S, 0, none⟩)] 37)).alloc (.cells #[.int .u32 200] 22)) (.cells #[.int .u32 0] 22)
  rw [size_al, size_al] at h9
  exact h9
 have HXA := Lib.hid hxa
 have HXB := Lib.hid hxb
 have HXC := Lib.hid hxc
 have HB := Lib.hid (bthn HB.out hb7)
 have HS := Lib.hid (HS.out.below hb7)
 have hef := eqlWk w6.heap.size (w6.heap.size + 1) (w6.heap.size + 1 + 1)
 clear C hw7 hb7 hxa hxb hxc
 go_wp2_with fail
 clear hef
 refine wpIn_wide.1 (wpIn_rangeFunc_ownH (n := 5) hro (by omega) (gf := 55) (lb := #[.pointer (some ⟨w6.heap.size, 0, none⟩), .pointer (some ⟨w6.heap.size + 1, 0, none⟩), .pointer (some ⟨w6.heap.size + 1 + 1, 0, none⟩)]) rfl trivial (enters_of Tryz.func55 (by kernel_rfl) rfl)
  (dwalk_stops (5 - 1) _ _ _ S w7 HXA.out HXB.out HXC.out (fun X hX => of_big1 (HS.out.below hX) HL9.out) (fun _ _ => False)) KpF.trans (KpF.put (fun _ _ _ _ _ _ _ _ h => h)) (Below.refl _ _) (fun _ => rfl)
  (fun pre W => Below w7.heap.size w7 W) (fun _ _ _ => False) (ownFrom_below (Nat.le_refl _) (Nat.le_refl _)) (fun _ _ _ _ _ hs _ _ => hs) (Below.refl _ _) (fun _ _ _ => True) (fun _ _ _ _ _ _ _ _ _ => trivial) ?assign ?body ?done ?stop)
 case assign =>
  intro l pre x W K hI hK
  refine wpIn_skip ?_
  exact hK _ _ (KeepsFrom.refl _ _) (KpF.refl _ _) hI trivial
 case body =>
  intro l pre x a' W hl hr hI hA hlt
  exact absurd hlt (Nat.not_lt_zero _)
 case stop =>
  intro D c pre W _ _ h
  exact h.elim
 case done =>
  intro D xs W hD _ hI hK
  have HI := Lib.hid hI
  have HDK := Lib.hid hK
  have HDD := Lib.hid hD
  clear hI hK hD
  have C := known10_at W
  go_wp2_with fail
  refine C.mono ?_
  rintro e w8 ⟨rfl, hb8⟩
  have HB8 := Lib.hid (bthn HI.out hb8)
  have HX8 : Hid (w8.heap[z]? = some (.cells #[.bool false] 4 (0, 0))) := Lib.hid (((bthn HB.out HB8.out).block _ (Array.getElem?_eq_some_iff.1 HX1.out).1).trans HX1.out)
  have t0 := cellOf HX8.out 0 (v := .bool false) rfl
  have f0 := frozenOf HX8.out 0
  have HK8 : Hid (w8.heap[D]? = some (.deferred (some []))) := Lib.hid ((hb8.block D (Array.getElem?_eq_some_iff.1 HDK.out).1).trans HDK.out)
  clear C hb8
  dsimp only
  go_wp2_with fail
  clear t0 f0
  obtain ⟨w9, hw9⟩ : ∃ W, w8.setCell ⟨z, 0, none⟩ (.bool true) = W := ⟨_, rfl⟩
  rw [hw9]
  have hx9 : w9.heap[z]? = some (.cells #[.bool true] 4 (0, 0)) := by rw [← hw9]; exact setOf HX8.out 0 _
  have hm9 : Mods [z] w8 w9 := by rw [← hw9]; exact (Mods.refl _ _).setCell (p := ⟨z, 0, none⟩) (List.mem_singleton.2 rfl) _
  have hzl := (Array.getElem?_eq_some_iff.1 HX1.out).1
  have hK9 : w9.heap[D]? = some (.deferred (some [])) := (hm9.block D (Array.getElem?_eq_some_iff.1 HK8.out).1 (fun hh => by
   have h1 := List.mem_singleton.1 hh
   have h2 := HDD.out
   have h3 := HB.out.size
   omega)).trans HK8.out
  refine ⟨by simp, .inl ⟨_, _, rfl, run_takeDeferred hK9, ?_⟩⟩
  have hz9 : (w9.putObj D (.deferred none)).heap[z]? = some (.cells #[.bool true] 4 (0, 0)) := ((mods_grown (grownBy_putObj' w9 D (.deferred none))).block z (Array.getElem?_eq_some_iff.1 hx9).1 (fun hh => by
   have h1 := List.mem_singleton.1 hh
   have h2 := HDD.out
   have h3 := HB.out.size
   omega)).trans hx9
  have hbw : Below w.heap.size w w9 := ((Mods.of_below (bthn HBW.out (bthn HB.out HB8.out))).trans hm9 (fun k hk => .inr (by rw [List.mem_singleton.1 hk, ← HZW.out]; exact Nat.le_refl _))).below (F := []) (fun k hk => by simp at hk) (Nat.le_refl _)
  refine ⟨.bool true, ?_, rfl, ?_⟩
  ·rw [ret_eq rfl]
   have r1 := lv_one aggBo (cellOf hz9 0 (v := .bool true) rfl)
   simp only [asAddr, Array.getD_eq_getD_getElem?, List.getElem?_toArray, List.getElem?_cons_succ, List.getElem?_cons_zero, Option.getD_some, Sem.run_pure, Result.andThen_ok, r1]
  ·exact hbw.trans (belowK_b (w := w) (Nat.le_refl _) w9 D _ _ (by
    have h1 := HDD.out
    have h2 := (bthn HBW.out HB.out).size
    omega) hK9 rfl rfl)
theorem diffNil_walk (w : World) : Calls Tryz.prog 4 #[] w fun e w' => e = .returned (.bool true) ∧ Below w.heap.size w w' := callsIn_wide.1 (diffNil_in w)
end Go.Proofs.YtgmahhdnjikdjaaGreat
