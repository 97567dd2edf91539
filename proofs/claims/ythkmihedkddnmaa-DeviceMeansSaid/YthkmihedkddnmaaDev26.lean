/- Devices that are not there, walked. -/
import Derived.Test.YthkmihedkddnmaaDev25
namespace Go.Proofs.Ythkmihedkddnmaa
open Go.RowKit Go.Maps Wire Cmd
set_option linter.unusedVariables false
set_option linter.unusedSimpArgs false

set_option maxRecDepth 100000 in
set_option maxHeartbeats 1600000 in
theorem dpart_no (w : World) (v : Value) (o : Op0) (sl : Value) (b : Int) (h : DevV w v false) :
    Calls Try.prog 15 #[v, .agg (oC o sl), .int .i64 b] w fun e w' => e = .returned (ansE 1 0) ∧ Below w.heap.size w w' := by
  have CR : Hid (∀ X, Below w.heap.size w X → Calls Try.prog 22 #[v, .agg (oC o sl)] X fun e w' => e = .returned (.int .i64 1) ∧ Below X.heap.size X w') := Lib.hid (fun X hX => drefused_no X v o sl (h.below hX))
  clear h
  obtain ⟨w2, hw2⟩ : ∃ W, (w.alloc (.cells #[.int .i64 o.k, .int .u64 (o.vol : Int), .int .u64 (o.to : Int), .int .i64 o.size, .int .i64 o.pl, .int .i64 o.count, sl] 27)).alloc (.cells #[.int .i64 0, .int .i64 0, .slice none 0 0] 35) = W := ⟨_, rfl⟩
  have HBX : Hid (Boxes w w2 (oC o sl)) := Lib.hid (by rw [← hw2]; exact boxes w (oC o sl))
  obtain ⟨c0, c1, c2, c3, c4, c5, c6⟩ := op7 HBX.out.op
  rw [show (oC o sl) = #[.int .i64 o.k, .int .u64 (o.vol : Int), .int .u64 (o.to : Int), .int .i64 o.size, .int .i64 o.pl, .int .i64 o.count, sl] from rfl]
  go_enter Try.func15, Try.ntmps15
  go_wp2_with fail
  refine (CR.out _ HBX.out.bel).mono ?_
  rintro e w3 ⟨rfl, hb3⟩
  dsimp only
  have HB3 := Lib.hid (bthen HBX.out.bel hb3)
  have HA3 := Lib.hid ((hb3.block _ (Array.getElem?_eq_some_iff.1 HBX.out.ans).1).trans HBX.out.ans)
  clear c0 c1 c2 c3 c4 c5 c6 hw2 hb3
  have hxa := HA3.out
  have HXA := Lib.hid hxa
  have e0 := cellOf hxa 0 (v := .int .i64 0) rfl
  have e1 := cellOf hxa 1 (v := .int .i64 0) rfl
  have e2 := cellOf hxa 2 (v := .slice none 0 0) rfl
  have f0 := frozenOf hxa 0
  have f1 := frozenOf hxa 1
  have f2 := frozenOf hxa 2
  clear hxa
  go_wp2_with fail
  obtain ⟨hx4, hm4⟩ := set3 (x := .int .i64 1) (y := .int .i64 0) (z := .slice none 0 0) HXA.out
  refine bodyPost_ret (v := ansE 1 0) (resAns rfl _ _ _ _ _ _ rfl hx4) rfl ⟨rfl, ?_⟩
  exact HB3.out.trans (hm4.below (fun k hk => by have e := List.mem_singleton.1 hk; omega) HB3.out.size)
set_option maxRecDepth 100000 in
set_option maxHeartbeats 1600000 in
theorem ddo_no (w : World) (v : Value) (o : Op0) (sl : Value) (h : DevV w v false) :
    Calls Try.prog 8 #[v, .agg (oC o sl)] w fun e w' => e = .returned (ansE 1 0) ∧ Below w.heap.size w w' := by
  have CR : Hid (∀ X, Below w.heap.size w X → Calls Try.prog 15 #[v, .agg (oC o sl), .int .i64 1024] X fun e w' => e = .returned (ansE 1 0) ∧ Below X.heap.size X w') := Lib.hid (fun X hX => dpart_no X v o sl 1024 (h.below hX))
  clear h
  obtain ⟨w2, hw2⟩ : ∃ W, (w.alloc (.cells #[.int .i64 o.k, .int .u64 (o.vol : Int), .int .u64 (o.to : Int), .int .i64 o.size, .int .i64 o.pl, .int .i64 o.count, sl] 27)).alloc (.cells #[.int .i64 0, .int .i64 0, .slice none 0 0] 35) = W := ⟨_, rfl⟩
  have HBX : Hid (Boxes w w2 (oC o sl)) := Lib.hid (by rw [← hw2]; exact boxes w (oC o sl))
  obtain ⟨c0, c1, c2, c3, c4, c5, c6⟩ := op7 HBX.out.op
  rw [show (oC o sl) = #[.int .i64 o.k, .int .u64 (o.vol : Int), .int .u64 (o.to : Int), .int .i64 o.size, .int .i64 o.pl, .int .i64 o.count, sl] from rfl]
  go_enter Try.func8, Try.ntmps8
  go_wp2_with fail
  refine (CR.out _ HBX.out.bel).mono ?_
  rintro e w3 ⟨rfl, hb3⟩
  unfold ansE
  dsimp only
  have HB3 := Lib.hid (bthen HBX.out.bel hb3)
  have HA3 := Lib.hid ((hb3.block _ (Array.getElem?_eq_some_iff.1 HBX.out.ans).1).trans HBX.out.ans)
  clear c0 c1 c2 c3 c4 c5 c6 hw2 hb3
  have hxa := HA3.out
  have HXA := Lib.hid hxa
  have e0 := cellOf hxa 0 (v := .int .i64 0) rfl
  have e1 := cellOf hxa 1 (v := .int .i64 0) rfl
  have e2 := cellOf hxa 2 (v := .slice none 0 0) rfl
  have f0 := frozenOf hxa 0
  have f1 := frozenOf hxa 1
  have f2 := frozenOf hxa 2
  clear hxa
  go_wp2_with fail
  obtain ⟨hx4, hm4⟩ := set3 (x := .int .i64 1) (y := .int .i64 0) (z := .slice none 0 0) HXA.out
  refine bodyPost_ret (v := ansE 1 0) (resAns rfl _ _ _ _ _ _ rfl hx4) rfl ⟨rfl, ?_⟩
  exact HB3.out.trans (hm4.below (fun k hk => by have e := List.mem_singleton.1 hk; omega) HB3.out.size)
set_option maxRecDepth 100000 in
set_option maxHeartbeats 800000 in
theorem dmapped_no (w : World) (v : Value) (n : Int) (h : DevV w v false) : Calls Try.prog 21 #[v, .int .u64 n] w fun e w' => e = .returned (.slice none 0 0) ∧ w = w' := by
  have CT := dthere_any w v false h
  clear h
  go_enter Try.func21, Try.ntmps21
  go_wp2_with fail
  refine CT.mono ?_
  rintro e w1 ⟨rfl, rfl⟩
  go_wp2_with fail
  go_ret
  exact ⟨rfl, rfl⟩
set_option maxRecDepth 100000 in
set_option maxHeartbeats 800000 in
theorem dcopy_no (w : World) (v : Value) (h : DevV w v false) : Calls Try.prog 9 #[v] w fun e w' => e = .returned (.pointer none) ∧ w = w' := by
  have CT := dthere_any w v false h
  clear h
  go_enter Try.func9, Try.ntmps9
  go_wp2_with fail
  refine CT.mono ?_
  rintro e w1 ⟨rfl, rfl⟩
  go_wp2_with fail
  go_ret
  exact ⟨rfl, rfl⟩
set_option maxRecDepth 100000 in
set_option maxHeartbeats 1600000 in
theorem dsame_no (w : World) (v1 v2 : Value) (y1 y2 : Bool) (h1 : DevV w v1 y1) (h2 : DevV w v2 y2) (hn : y1 = false ∨ y2 = false) : Calls Try.prog 11 #[v1, v2] w fun e w' => e = .returned (.bool (y1 == y2)) ∧ w = w' := by
  have CT1 := dthere_any w v1 y1 h1
  have CT2 := dthere_any w v2 y2 h2
  clear h1 h2
  cases y1 with
  | false =>
    cases y2 with
    | false =>
      clear hn
      go_enter Try.func11, Try.ntmps11
      go_wp2_with fail
      refine CT1.mono ?_
      rintro e w1 ⟨rfl, rfl⟩
      go_wp2_with fail
      refine CT1.mono ?_
      rintro e w1 ⟨rfl, rfl⟩
      go_wp2_with fail
      refine CT2.mono ?_
      rintro e w1 ⟨rfl, rfl⟩
      go_wp2_with fail
      go_ret
      exact ⟨rfl, rfl⟩
    | true =>
      clear hn
      go_enter Try.func11, Try.ntmps11
      go_wp2_with fail
      refine CT1.mono ?_
      rintro e w1 ⟨rfl, rfl⟩
      go_wp2_with fail
      refine CT1.mono ?_
      rintro e w1 ⟨rfl, rfl⟩
      go_wp2_with fail
      refine CT2.mono ?_
      rintro e w1 ⟨rfl, rfl⟩
      go_wp2_with fail
      go_ret
      exact ⟨rfl, rfl⟩
  | true =>
    obtain rfl : y2 = false := hn.elim (fun h => by cases h) id
    clear hn
    go_enter Try.func11, Try.ntmps11
    go_wp2_with fail
    refine CT1.mono ?_
    rintro e w1 ⟨rfl, rfl⟩
    go_wp2_with fail
    refine CT2.mono ?_
    rintro e w1 ⟨rfl, rfl⟩
    go_wp2_with fail
    refine CT1.mono ?_
    rintro e w1 ⟨rfl, rfl⟩
    go_wp2_with fail
    refine CT2.mono ?_
    rintro e w1 ⟨rfl, rfl⟩
    go_wp2_with fail
    go_ret
    exact ⟨rfl, rfl⟩
end Go.Proofs.Ythkmihedkddnmaa
