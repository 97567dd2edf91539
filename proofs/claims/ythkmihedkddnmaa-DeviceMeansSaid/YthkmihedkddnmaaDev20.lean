/- Devices: Do, Block, walked. -/
import Derived.Test.YthkmihedkddnmaaDev19
namespace Go.Proofs.Ythkmihedkddnmaa
open Go.RowKit Go.Maps Wire Cmd
set_option linter.unusedVariables false
set_option linter.unusedSimpArgs false

set_option maxRecDepth 100000 in
set_option maxHeartbeats 3200000 in
theorem ddo_at (n0 : Nat) (w : World) (B Ba : Nat) (l : List (Nat × (Vl × Nat))) (h : DevAt n0 w B Ba l) (o : Op0) (ok : o.Ok) (ao : Option Addr) (cap : Nat)
    (hd : Rd w 1 (.slice ao o.data.length cap) o.data.length (bV o.data)) :
    Calls Try.prog 8 #[.pointer (some ⟨B, 0, none⟩), .agg (oC o (.slice ao o.data.length cap))] w fun e w' => PartP n0 w B Ba l (stepD (strip l) o 1024) e w' := by
  have HH := Lib.hid h
  have CO : Hid (∀ X, Below w.heap.size w X → Calls Try.prog 15 #[.pointer (some ⟨B, 0, none⟩), .agg (oC o (.slice ao o.data.length cap)), .int .i64 1024] X fun e w' => PartP n0 X B Ba l (stepD (strip l) o 1024) e w') := Lib.hid (fun X hX => dpart_at n0 X B Ba l (h.below hX) o ok ao cap 1024 (by omega) (hd.below hX))
  obtain ⟨sl, hsl⟩ : ∃ s, Value.slice ao o.data.length cap = s := ⟨_, rfl⟩
  rw [hsl] at CO ⊢
  clear hsl h hd
  obtain ⟨w2, hw2⟩ : ∃ W, (w.alloc (.cells #[.int .i64 o.k, .int .u64 (o.vol : Int), .int .u64 (o.to : Int), .int .i64 o.size, .int .i64 o.pl, .int .i64 o.count, sl] 27)).alloc (.cells #[.int .i64 0, .int .i64 0, .slice none 0 0] 35) = W := ⟨_, rfl⟩
  have HBX : Hid (Boxes w w2 (oC o sl)) := Lib.hid (by rw [← hw2]; exact boxes w (oC o sl))
  obtain ⟨c0, c1, c2, c3, c4, c5, c6⟩ := op7 HBX.out.op
  rw [show (oC o sl) = #[.int .i64 o.k, .int .u64 (o.vol : Int), .int .u64 (o.to : Int), .int .i64 o.size, .int .i64 o.pl, .int .i64 o.count, sl] from rfl]
  go_enter Try.func8, Try.ntmps8
  go_wp2_with fail
  refine (CO.out _ HBX.out.bel).mono ?_
  rintro e w9 ⟨sv, l', rfl, hd9, hs9, ho9, hc9⟩
  unfold ansV
  dsimp only
  clear c0 c1 c2 c3 c4 c5 c6 hw2
  have HD9 := Lib.hid hd9
  have HS9 := Lib.hid hs9
  have HO9 := Lib.hid ho9
  have HC9 := Lib.hid hc9
  have HB8 := Lib.hid HBX.out.bel
  have hxa := (hc9.1.block _ (Array.getElem?_eq_some_iff.1 HBX.out.ans).1 (fun hh => by have := HH.out.lt_all _ hh; omega)).trans HBX.out.ans
  obtain ⟨sa, cs, hsv, _⟩ := Rd.of_own ho9
  subst hsv
  have HEQ : Hid (stepD (strip l) o 1024 = ((stepD (strip l) o 1024).1, (stepD (strip l) o 1024).2)) := Lib.hid rfl
  obtain ⟨aa, haa⟩ : ∃ a, (stepD (strip l) o 1024).1 = a := ⟨_, rfl⟩
  obtain ⟨l2, hl2⟩ : ∃ l2, (stepD (strip l) o 1024).2 = l2 := ⟨_, rfl⟩
  rw [haa] at HO9 ⊢
  rw [haa, hl2] at HEQ
  rw [hl2] at HS9
  clear hd9 hs9 ho9 hc9 haa hl2
  have HXA := Lib.hid hxa
  have e0 := cellOf hxa 0 (v := .int .i64 0) rfl
  have e1 := cellOf hxa 1 (v := .int .i64 0) rfl
  have e2 := cellOf hxa 2 (v := .slice none 0 0) rfl
  have f0 := frozenOf hxa 0
  have f1 := frozenOf hxa 1
  have f2 := frozenOf hxa 2
  clear hxa
  obtain ⟨nd, hnd⟩ : ∃ n, aa.data.length = n := ⟨_, rfl⟩
  have HND := Lib.hid hnd
  rw [hnd] at HO9 ⊢
  clear hnd
  go_wp2_with fail
  clear e0 e1 e2 f0 f1 f2
  obtain ⟨hx4, hm4⟩ := set3 (x := .int .i64 aa.code) (y := .int .i64 aa.done) (z := .slice sa nd cs) HXA.out
  refine bodyPost_ret (v := ansV aa (.slice sa nd cs)) (resAns rfl _ _ _ _ _ _ rfl hx4) rfl ?_
  rw [HEQ.out]
  have hw8 : w2.heap.size = w.heap.size + 2 := HBX.out.sz
  have hnot : ∀ k, k ∈ dF Ba l' → k ≠ w.heap.size + 1 := fun k hk e => by
    rcases HC9.out.2 k hk with h1 | h1
    · have := HH.out.lt_all k h1
      omega
    · omega
  refine ⟨_, l', rfl, HD9.out.kept hm4 (fun hh => ?_) (fun k hk hh => hnot k hk (by simpa using hh)), HS9.out, ?_, ?_⟩
  · have : B = w.heap.size + 1 := by simpa using hh
    have := HH.out.lt
    omega
  · dsimp only
    rw [HND.out]
    refine ownsRow_base (ownsRow_at HO9.out (fun k hk => hm4.block k (ownsRow_lt HO9.out k hk) (fun hh => ?_))) (by omega)
    have e : k = w.heap.size + 1 := by simpa using hh
    have := ownsRow_ge HO9.out k hk
    omega
  · exact ⟨((Mods.of_below HB8.out).trans HC9.out.1 (fun i hi => .inl hi)).trans hm4 (fun i hi => .inr (by have e := List.mem_singleton.1 hi; omega)), fun k hk => (HC9.out.2 k hk).imp id (fun h => by omega)⟩
end Go.Proofs.Ythkmihedkddnmaa
