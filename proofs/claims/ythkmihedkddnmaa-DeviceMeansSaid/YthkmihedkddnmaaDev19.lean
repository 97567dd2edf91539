/- Devices: Part and Do, walked. -/
import Derived.Test.YthkmihedkddnmaaDev18
namespace Go.Proofs.Ythkmihedkddnmaa
open Go.RowKit Go.Maps Wire Cmd
set_option linter.unusedVariables false
set_option linter.unusedSimpArgs false

/-- A map of functions. -/
def fnD (n : Nat) : DataW Unit := .lit (.int .i64 (n : Int))
def RFn (v : Value) : Option (DataW Unit × List MemPlace) :=
  match v with
  | .func (.func n) ⟨[]⟩ ⟨[]⟩ => some (fnD n, [])
  | .nilFunc => some (.lit (.int .i64 (-1)), [])
  | _ => none
theorem RFn_mk (n : Nat) : RFn (.func (.func n) #[] #[]) = some (fnD n, []) := rfl
theorem RFn_inv {v : Value} {n : Nat} {ps : List MemPlace} (h : RFn v = some (fnD n, ps)) : v = .func (.func n) #[] #[] := by
  unfold RFn at h
  split at h
  · rename_i k
    have h1 := (Lit.int.inj (DataW.lit.inj (Prod.mk.inj (Option.some.inj h)).1)).2
    have e : k = n := Int.ofNat_inj.1 h1
    rw [e]
  · have h1 : (-1 : Int) = (n : Int) := (Lit.int.inj (DataW.lit.inj (Prod.mk.inj (Option.some.inj h)).1)).2
    omega
  · cases h
theorem undKind : Try.prog.underlying 23 = some (.int .i64) := Try.underlying23
theorem undFns : Try.prog.underlying 63 = some (.map 23 62) := by kernel_rfl
theorem zeroFn (w : World) : (zeroValue 62).run Try.prog w = .ok .nilFunc w := by kernel_rfl
/-- The table of the functions. -/
def tbl : List (Nat × Nat) := putA 9 29 (putA 7 28 (putA 6 27 (putA 5 27 (putA 4 26
  (putA 3 25 (putA 2 24 (putA 1 23 [])))))))
theorem tbl_get {k : Nat} (h1 : 1 ≤ k) (h9 : k ≤ 9) (h8 : k ≠ 8) : getA k tbl = some (fnK (k : Int)) := by
  obtain rfl | rfl | rfl | rfl | rfl | rfl | rfl | rfl : k = 1 ∨ k = 2 ∨ k = 3 ∨ k = 4 ∨ k = 5 ∨ k = 6 ∨ k = 7 ∨ k = 9 := by omega
  all_goals rfl
theorem enters_fnK (k : Int) : ∀ args w, (callFunc (fnK k) args).run Try.prog w = .ok (.enter (fnK k) args) w := by
  unfold fnK
  (repeat' split)
  · exact enters_of Try.func23 (by kernel_rfl) rfl
  · exact enters_of Try.func24 (by kernel_rfl) rfl
  · exact enters_of Try.func25 (by kernel_rfl) rfl
  · exact enters_of Try.func26 (by kernel_rfl) rfl
  · exact enters_of Try.func27 (by kernel_rfl) rfl
  · exact enters_of Try.func28 (by kernel_rfl) rfl
  · exact enters_of Try.func29 (by kernel_rfl) rfl
/-- The map literal's eight stores. -/
structure Tbl (w v0 v1 v2 v3 v4 v5 v6 v7 v8 : World) (bm : Nat) : Prop where
  h0 : w.alloc (.map #[] 0) = v0
  hb : w.heap.size = bm
  u1 : (Instr.mapUpdate 63 (.map (some bm)) (.int .i64 1) (.func (.func 23) #[] #[])).run Try.prog v0 = .ok () v1
  u2 : (Instr.mapUpdate 63 (.map (some bm)) (.int .i64 2) (.func (.func 24) #[] #[])).run Try.prog v1 = .ok () v2
  u3 : (Instr.mapUpdate 63 (.map (some bm)) (.int .i64 3) (.func (.func 25) #[] #[])).run Try.prog v2 = .ok () v3
  u4 : (Instr.mapUpdate 63 (.map (some bm)) (.int .i64 4) (.func (.func 26) #[] #[])).run Try.prog v3 = .ok () v4
  u5 : (Instr.mapUpdate 63 (.map (some bm)) (.int .i64 5) (.func (.func 27) #[] #[])).run Try.prog v4 = .ok () v5
  u6 : (Instr.mapUpdate 63 (.map (some bm)) (.int .i64 6) (.func (.func 27) #[] #[])).run Try.prog v5 = .ok () v6
  u7 : (Instr.mapUpdate 63 (.map (some bm)) (.int .i64 7) (.func (.func 28) #[] #[])).run Try.prog v6 = .ok () v7
  u8 : (Instr.mapUpdate 63 (.map (some bm)) (.int .i64 9) (.func (.func 29) #[] #[])).run Try.prog v7 = .ok () v8
  bel : Below w.heap.size w v8
  map : MapL v8 Try.prog 23 RFn .i64 fnD bm tbl
theorem tbl_at (w : World) : ∃ v0 v1 v2 v3 v4 v5 v6 v7 v8 bm, Tbl w v0 v1 v2 v3 v4 v5 v6 v7 v8 bm := by
  have m0 := mapL_new w Try.prog 23 RFn .i64 fnD
  have hb0 : Below w.heap.size w (w.alloc (.map #[] 0)) := balloc (Below.refl _ _) _
  have hs : ∀ {X Y : World}, Below w.heap.size w X → Mods [w.heap.size] X Y → Below w.heap.size w Y := fun hX hm => hX.trans (hm.below (fun k hk => by rw [List.mem_singleton.1 hk]; exact Nat.le_refl _) hX.size)
  obtain ⟨v1, u1, m1, f1⟩ := m0.put undKind undFns (by unfold maxLen; decide) (wfI64 (n := 1) (by decide)) (RFn_mk 23)
  obtain ⟨v2, u2, m2, f2⟩ := m1.put undKind undFns (by unfold maxLen; decide) (wfI64 (n := 2) (by decide)) (RFn_mk 24)
  obtain ⟨v3, u3, m3, f3⟩ := m2.put undKind undFns (by unfold maxLen; decide) (wfI64 (n := 3) (by decide)) (RFn_mk 25)
  obtain ⟨v4, u4, m4, f4⟩ := m3.put undKind undFns (by unfold maxLen; decide) (wfI64 (n := 4) (by decide)) (RFn_mk 26)
  obtain ⟨v5, u5, m5, f5⟩ := m4.put undKind undFns (by unfold maxLen; decide) (wfI64 (n := 5) (by decide)) (RFn_mk 27)
  obtain ⟨v6, u6, m6, f6⟩ := m5.put undKind undFns (by unfold maxLen; decide) (wfI64 (n := 6) (by decide)) (RFn_mk 27)
  obtain ⟨v7, u7, m7, f7⟩ := m6.put undKind undFns (by unfold maxLen; decide) (wfI64 (n := 7) (by decide)) (RFn_mk 28)
  obtain ⟨v8, u8, m8, f8⟩ := m7.put undKind undFns (by unfold maxLen; decide) (wfI64 (n := 9) (by decide)) (RFn_mk 29)
  exact ⟨_, v1, v2, v3, v4, v5, v6, v7, v8, _, rfl, rfl, u1, u2, u3, u4, u5, u6, u7, u8, hs (hs (hs (hs (hs (hs (hs (hs hb0 f1) f2) f3) f4) f5) f6) f7) f8, m8⟩

theorem stepD_8 {l : List (Nat × Vl)} {o : Op0} (h : refD l o = 0) (hk : o.k = 8) (b : Int) : stepD l o b = (⟨0, 0, []⟩, l) := by
  unfold stepD
  rw [if_neg (by omega), if_neg (by omega), if_neg (by omega)]
  cases getA o.vol l with
  | none => rfl
  | some v =>
    dsimp only
    rw [if_neg (by omega), if_neg (by omega), if_neg (by omega), if_neg (by omega), if_neg (by omega)]
set_option maxRecDepth 100000 in
set_option maxHeartbeats 6400000 in
theorem dpart_at (n0 : Nat) (w : World) (B Ba : Nat) (l : List (Nat × (Vl × Nat))) (h : DevAt n0 w B Ba l) (o : Op0) (ok : o.Ok) (ao : Option Addr) (cap : Nat) (b : Int) (hbb : -9223372036854775808 ≤ b ∧ b ≤ 9223372036854775807)
    (hd : Rd w 1 (.slice ao o.data.length cap) o.data.length (bV o.data)) :
    Calls Try.prog 15 #[.pointer (some ⟨B, 0, none⟩), .agg (oC o (.slice ao o.data.length cap)), .int .i64 b] w fun e w' => PartP n0 w B Ba l (stepD (strip l) o b) e w' := by
  have HH := Lib.hid h
  have CR : Hid (∀ X, Below w.heap.size w X → Calls Try.prog 22 #[.pointer (some ⟨B, 0, none⟩), .agg (oC o (.slice ao o.data.length cap))] X fun e w' => e = .returned (.int .i64 (refD (strip l) o)) ∧ Below X.heap.size X w') := Lib.hid (fun X hX => drefused_at n0 X B Ba l (h.below hX) o ok ao cap (hd.below hX))
  have CO : Hid (∀ X, Below w.heap.size w X → refD (strip l) o = 0 → o.k ≠ 8 → Calls Try.prog (fnK o.k) #[.pointer (some ⟨B, 0, none⟩), .agg (oC o (.slice ao o.data.length cap)), .int .i64 b] X fun e w' => PartP n0 X B Ba l (stepD (strip l) o b) e w') := Lib.hid (fun X hX h0 h8 => dop_at n0 X B Ba l (h.below hX) o ok ao cap b hbb (hd.below hX) h0 h8)
  obtain ⟨sl, hsl⟩ : ∃ s, Value.slice ao o.data.length cap = s := ⟨_, rfl⟩
  rw [hsl] at CR CO ⊢
  clear hsl h hd
  obtain ⟨w2, hw2⟩ : ∃ W, (w.alloc (.cells #[.int .i64 o.k, .int .u64 (o.vol : Int), .int .u64 (o.to : Int), .int .i64 o.size, .int .i64 o.pl, .int .i64 o.count, sl] 27)).alloc (.cells #[.int .i64 0, .int .i64 0, .slice none 0 0] 35) = W := ⟨_, rfl⟩
  have HBX : Hid (Boxes w w2 (oC o sl)) := Lib.hid (by rw [← hw2]; exact boxes w (oC o sl))
  obtain ⟨c0, c1, c2, c3, c4, c5, c6⟩ := op7 HBX.out.op
  rw [show (oC o sl) = #[.int .i64 o.k, .int .u64 (o.vol : Int), .int .u64 (o.to : Int), .int .i64 o.size, .int .i64 o.pl, .int .i64 o.count, sl] from rfl]
  go_enter Try.func15, Try.ntmps15
  go_wp2_with fail
  refine (CR.out _ HBX.out.bel).mono ?_
  rintro e w3 ⟨rfl, hb3⟩
  dsimp only
  have HB3 := Lib.hid (bthen HBX.out.bel hb3)
  have HX3 := Lib.hid ((hb3.block _ (Array.getElem?_eq_some_iff.1 HBX.out.op).1).trans HBX.out.op)
  have HA3 := Lib.hid ((hb3.block _ (Array.getElem?_eq_some_iff.1 HBX.out.ans).1).trans HBX.out.ans)
  clear c0 c1 c2 c3 c4 c5 c6 hw2 hb3
  by_cases hr : refD (strip l) o = 0
  · have HR := Lib.hid hr
    rw [hr]
    clear hr
    obtain ⟨v0, v1, v2, v3, v4, v5, v6, v7, v8, bm, T⟩ := tbl_at w3
    have HT := Lib.hid T
    obtain ⟨th0, thb, u1, u2, u3, u4, u5, u6, u7, u8, tbel, tmap⟩ := T
    have HB8 := Lib.hid (bthen HB3.out tbel)
    have HX8 := Lib.hid ((tbel.block _ (Array.getElem?_eq_some_iff.1 HX3.out).1).trans HX3.out)
    have HA8 := Lib.hid ((tbel.block _ (Array.getElem?_eq_some_iff.1 HA3.out).1).trans HA3.out)
    have HKD : Hid (1 ≤ o.k ∧ o.k ≤ 9) := Lib.hid (may_kind (ref0_may HR.out))
    obtain ⟨kn, hkn⟩ : ∃ kn : Nat, o.k = (kn : Int) := ⟨o.k.toNat, by have := HKD.out; omega⟩
    have HKN := Lib.hid hkn
    obtain ⟨fv, ps, hlook, hfv⟩ := tmap.lookOk undKind undFns (zeroFn v8) (show RFn .nilFunc = some (.lit (.int .i64 (-1)), []) from rfl) (wfI64 (n := kn) (by have := HKD.out; omega))
    rw [← hkn] at hlook
    have c0 := cellOf HX8.out 0 (v := .int .i64 o.k) rfl
    have hmm := @run_makeMap Try.prog
    clear tbel tmap hkn
    by_cases h8 : o.k = 8
    · have HS8 := Lib.hid (stepD_8 HR.out h8 b)
      have hg : getA kn tbl = none := by
        have : kn = 8 := by have := HKN.out; omega
        subst this
        rfl
      rw [hg] at hlook
      clear h8 hg hfv
      have hxa := HA8.out
      have HXA := Lib.hid hxa
      have e0 := cellOf hxa 0 (v := .int .i64 0) rfl
      have e1 := cellOf hxa 1 (v := .int .i64 0) rfl
      have e2 := cellOf hxa 2 (v := .slice none 0 0) rfl
      have f0 := frozenOf hxa 0
      have f1 := frozenOf hxa 1
      have f2 := frozenOf hxa 2
      clear hxa
      dsimp only [Option.isSome_none] at hlook
      go_wp2_with fail
      clear hlook u1 u2 u3 u4 u5 u6 u7 u8 th0 thb e0 e1 e2 f0 f1 f2 c0
      obtain ⟨hx4, hm4⟩ := set3 (x := .int .i64 0) (y := .int .i64 0) (z := .slice none 0 0) HXA.out
      refine bodyPost_ret (v := ansE 0 0) (resAns rfl _ _ _ _ _ _ rfl hx4) rfl ?_
      rw [HS8.out]
      refine PartP.plain ((HH.out.below HB8.out).kept hm4 (fun hh => ?_) (fun k hk hh => ?_)) rfl (Chg.of_below (HB8.out.trans (hm4.below (fun k hk => by have e := List.mem_singleton.1 hk; omega) HB8.out.size)))
      · have : B = w.heap.size + 1 := by simpa using hh
        have := HH.out.lt
        omega
      · have e : k = w.heap.size + 1 := by simpa using hh
        have := HH.out.lt_all k hk
        omega
    · have hg := tbl_get (k := kn) (by have := HKD.out; have := HKN.out; omega) (by have := HKD.out; have := HKN.out; omega) (by have := HKN.out; omega)
      rw [← HKN.out] at hg
      rw [hg] at hlook hfv
      have hfv2 := RFn_inv hfv
      subst hfv2
      have CO8 := CO.out v8 HB8.out HR.out h8
      have heg := enters_fnK o.k
      obtain ⟨g, hgk⟩ : ∃ g, fnK o.k = g := ⟨_, rfl⟩
      rw [hgk] at hlook CO8 heg
      clear hgk hg hfv h8
      obtain ⟨c0, c1, c2, c3, c4, c5, c6⟩ := op7 HX8.out
      dsimp only [Option.isSome_some] at hlook
      go_wp2_with fail
      refine CO8.mono ?_
      rintro e w9 ⟨sv, l', rfl, hd9, hs9, ho9, hc9⟩
      unfold ansV
      dsimp only
      clear hlook u1 u2 u3 u4 u5 u6 u7 u8 th0 thb c0 c1 c2 c3 c4 c5 c6 CO8
      have HD9 := Lib.hid hd9
      have HS9 := Lib.hid hs9
      have HO9 := Lib.hid ho9
      have HC9 := Lib.hid hc9
      have hxa := (hc9.1.block _ (Array.getElem?_eq_some_iff.1 HA8.out).1 (fun hh => by have := HH.out.lt_all _ hh; omega)).trans HA8.out
      obtain ⟨sa, cs, hsv, _⟩ := Rd.of_own ho9
      subst hsv
      have HEQ : Hid (stepD (strip l) o b = ((stepD (strip l) o b).1, (stepD (strip l) o b).2)) := Lib.hid rfl
      obtain ⟨aa, haa⟩ : ∃ a, (stepD (strip l) o b).1 = a := ⟨_, rfl⟩
      obtain ⟨l2, hl2⟩ : ∃ l2, (stepD (strip l) o b).2 = l2 := ⟨_, rfl⟩
      rw [haa] at HO9 ⊢
      rw [haa, hl2] at HEQ
      rw [hl2] at HS9
      clear hd9 hs9 ho9 hc9 haa hl2
      have HXA := Lib.hid hxa
      have e0 := cellOf hxa 0 (v := .int .i64 0) rfl
      have e1 := cellOf hxa 1 (v := .int .i64 0) rfl
      have e2 := cellOf hxa 2 (v := .slice none 0 0) rfl
      have f0 := frozenOf hxa 0
      have f1 := frozenOf hxa 1
      have f2 := frozenOf hxa 2
      clear hxa
      obtain ⟨nd, hnd⟩ : ∃ n, aa.data.length = n := ⟨_, rfl⟩
      have HND := Lib.hid hnd
      rw [hnd] at HO9 ⊢
      clear hnd
      go_wp2_with fail
      clear e0 e1 e2 f0 f1 f2
      obtain ⟨hx4, hm4⟩ := set3 (x := .int .i64 aa.code) (y := .int .i64 aa.done) (z := .slice sa nd cs) HXA.out
      refine bodyPost_ret (v := ansV aa (.slice sa nd cs)) (resAns rfl _ _ _ _ _ _ rfl hx4) rfl ?_
      rw [HEQ.out]
      have hw8 : w.heap.size + 2 ≤ v8.heap.size := by have h1 := HBX.out.sz; have h2 := (Array.getElem?_eq_some_iff.1 HA8.out).1; omega
      have hnot : ∀ k, k ∈ dF Ba l' → k ≠ w.heap.size + 1 := fun k hk e => by
        rcases HC9.out.2 k hk with h1 | h1
        · have := HH.out.lt_all k h1
          omega
        · omega
      refine ⟨_, l', rfl, HD9.out.kept hm4 (fun hh => ?_) (fun k hk hh => hnot k hk (by simpa using hh)), HS9.out, ?_, ?_⟩
      · have : B = w.heap.size + 1 := by simpa using hh
        have := HH.out.lt
        omega
      · dsimp only
        rw [HND.out]
        refine ownsRow_base (ownsRow_at HO9.out (fun k hk => hm4.block k (ownsRow_lt HO9.out k hk) (fun hh => ?_))) (Nat.le_trans (Nat.le_add_right _ 2) hw8)
        have e : k = w.heap.size + 1 := by simpa using hh
        have := ownsRow_ge HO9.out k hk
        omega
      · exact ⟨((Mods.of_below HB8.out).trans HC9.out.1 (fun i hi => .inl hi)).trans hm4 (fun i hi => .inr (by have e := List.mem_singleton.1 hi; omega)), fun k hk => (HC9.out.2 k hk).imp id (fun h => by omega)⟩
  · have g0 := bneI hr
    have HS : Hid (stepD (strip l) o b = (⟨refD (strip l) o, 0, []⟩, strip l)) := Lib.hid (by unfold stepD; rw [if_pos hr])
    obtain ⟨r, hrr⟩ : ∃ r, refD (strip l) o = r := ⟨_, rfl⟩
    rw [hrr] at g0 HS ⊢
    clear hrr hr
    have hxa := HA3.out
    have HXA := Lib.hid hxa
    have e0 := cellOf hxa 0 (v := .int .i64 0) rfl
    have e1 := cellOf hxa 1 (v := .int .i64 0) rfl
    have e2 := cellOf hxa 2 (v := .slice none 0 0) rfl
    have f0 := frozenOf hxa 0
    have f1 := frozenOf hxa 1
    have f2 := frozenOf hxa 2
    clear hxa
    go_wp2_with fail
    clear e0 e1 e2 f0 f1 f2
    obtain ⟨hx4, hm4⟩ := set3 (x := .int .i64 r) (y := .int .i64 0) (z := .slice none 0 0) HXA.out
    refine bodyPost_ret (v := ansE r 0) (resAns rfl _ _ _ _ _ _ rfl hx4) rfl ?_
    rw [HS.out]
    refine PartP.plain ((HH.out.below HB3.out).kept hm4 (fun hh => ?_) (fun k hk hh => ?_)) rfl (Chg.of_below (HB3.out.trans (hm4.below (fun k hk => by have e := List.mem_singleton.1 hk; omega) HB3.out.size)))
    · have : B = w.heap.size + 1 := by simpa using hh
      have := HH.out.lt
      omega
    · have e : k = w.heap.size + 1 := by simpa using hh
      have := HH.out.lt_all k hk
      omega
end Go.Proofs.Ythkmihedkddnmaa
