/- The law's known of layer 16, walked. -/
import Derived.Test.YtcdobdjemlaaaaaGreatCk3
namespace Go.Proofs.YtcdobdjemlaaaaaGreat
open Go.RowKit Wire
set_option linter.unusedVariables false
set_option linter.unusedSimpArgs false

set_option maxRecDepth 100000 in
set_option maxHeartbeats 1600000 in
theorem num16_any (w : World) (n : Int) : Calls Tryz.prog 47 #[.int .i64 n] w fun e w' => e = .returned (.int .i64 n) ∧ w = w' := by
  go_enter Tryz.func47, Tryz.ntmps47
  go_wp2_with fail
  go_ret
  exact ⟨rfl, rfl⟩
theorem bareF {n m k : Nat} (ok : MkOk n m k) : Bare (suF m k (pagesN m + pagesN k)) m k (pagesN m + pagesN k) :=
  ⟨rfl, rfl, ⟨rfl, rfl, rfl⟩, rfl, ok.p6, fun i hi => pgK_get ok.p6 hi, ⟨ok.m1, by have := ok.m2; omega⟩, ⟨ok.k1, by have := ok.k2; omega⟩⟩
set_option maxRecDepth 100000 in
set_option maxHeartbeats 6400000 in
theorem known16_at (w : World) : Calls Tryz.prog 40 #[] w fun e w' => e = .returned (.bool true) ∧ Below w.heap.size w w' := by
  have ok : MkOk 360 60 8 := by constructor <;> decide
  have CN := dknew_at w 360 (by omega) (by omega)
  have CF : Hid (∀ w1 B iv, DkAt w.heap.size w1 B iv (.slice none 0 0) (dk0 360) → Below w.heap.size w w1 → Calls Tryz.prog 28 #[.pointer (some ⟨B, 0, none⟩), .int .i64 60, .int .i64 8] w1 fun e w' => e = .returned (.int .i64 0) ∧ MadeP w 360 60 8 B w') := Lib.hid (fun w1 B iv h1 h2 => fmt_call w w1 _ 60 8 B iv ok (by omega) h1 h2)
  have CO : Hid (∀ X B, MadeP w 360 60 8 B X → Calls Tryz.prog 27 #[.pointer (some ⟨B, 0, none⟩)] X (OpenP w X B 60 8)) := Lib.hid (fun X B hX => open_call w X _ 60 8 B ok (by decide) hX)
  have HBR := Lib.hid (bareF ok)
  have e2 : pagesN 60 + pagesN 8 = 2 := by decide
  rw [e2] at HBR
  have HE2 := Lib.hid e2
  clear ok e2
  go_enter Tryz.func40, Tryz.ntmps40
  go_wp2_with fail
  refine CN.mono ?_
  rintro e w1 ⟨B, iv, rfl, hd, hb⟩
  dsimp only
  have C := CF.out w1 B iv hd hb
  clear CN hd hb
  go_wp2_with fail
  refine C.mono ?_
  rintro e w2 ⟨rfl, hm⟩
  have HB2 := Lib.hid hm.2
  have C2 := CO.out w2 B hm
  clear C hm
  go_wp2_with fail
  refine C2.mono ?_
  rintro e w3 ⟨S, pm, pd, mf, md, Fm, Fd, rfl, h1, h2, h3, h4, h5, _⟩
  unfold pt
  dsimp only
  rw [HE2.out] at h1
  have HST := Lib.hid h1
  have HB3 := Lib.hid (bthn HB2.out h5)
  have N1 := num16_any w3 0
  have N2 := N1
  have N3 := N1
  clear C2 h1 h2 h3 h4 h5
  go_wp2_with fail
  refine N1.mono ?_
  rintro e y ⟨rfl, rfl⟩
  clear N1
  go_wp2_with fail
  refine N2.mono ?_
  rintro e y ⟨rfl, rfl⟩
  clear N2
  go_wp2_with fail
  refine N3.mono ?_
  rintro e y ⟨rfl, rfl⟩
  clear N3
  have CC := cstore_at HST.out 60 8 2 HBR.out rfl rfl
  go_wp2_with fail
  refine CC.mono ?_
  rintro e w4 ⟨rfl, hb4⟩
  dsimp only
  have HB4 := Lib.hid (bthn HB3.out hb4)
  have CR := croom_at (HST.out.below hb4) 60 8 2 HBR.out
  clear CC hb4
  go_wp2_with fail
  refine CR.mono ?_
  rintro e w5 ⟨rfl, hb5⟩
  dsimp only
  have HB5 := Lib.hid (bthn HB4.out hb5)
  have N1 := num16_any w5 0
  have N2 := N1
  clear CR hb5
  go_wp2_with fail
  refine N1.mono ?_
  rintro e y ⟨rfl, rfl⟩
  clear N1
  go_wp2_with fail
  refine N2.mono ?_
  rintro e y ⟨rfl, rfl⟩
  clear N2
  go_wp2_with fail
  go_ret
  exact ⟨rfl, HB5.out⟩
end Go.Proofs.YtcdobdjemlaaaaaGreat
