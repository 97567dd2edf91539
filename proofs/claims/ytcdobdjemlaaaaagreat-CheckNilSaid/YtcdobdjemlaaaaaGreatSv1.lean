/- super: Save, walked. -/
import Derived.Test.YtcdobdjemlaaaaaGreatSv0
namespace Go.Proofs.YtcdobdjemlaaaaaGreat
open Go.RowKit Wire
set_option linter.unusedVariables false
set_option linter.unusedSimpArgs false

/-- A disk behind a superblock's save. -/
def Dk.saved (d : Dk) (s : Su) : Dk := { d.wrK (s.tx % 2) s.bytes with jr := [] }
set_option maxRecDepth 100000 in
set_option maxHeartbeats 12800000 in
theorem ssave_at (n0 : Nat) (w : World) (B : Nat) (iv jv : Value) (d : Dk) (h : DkAt n0 w B iv jv d) (hn0 : n0 ≤ w.heap.size) (hl : d.left < 0) (hd : d.dead = false) (s : Su) (hw : s.Wf) (hm : s.May) (hk : 8 ≤ d.img.length) (hn : d.img.length ≤ 1000000) (hj : d.jr.length ≤ 900000) (ZL : List Value) (er : Int) (ho : OfC (rdB d.img (s.tx % 2)) ZL er) :
    Calls Tryz.prog 83 #[.pointer (some ⟨B, 0, none⟩), suV s] w fun e w' => e = .returned (.int .i64 0) ∧ DkAt n0 w' B iv (.slice none 0 0) (d.saved s) ∧ Chg (dF B iv jv) w w' (dF B iv (.slice none 0 0)) := by
  have CBK : Hid (∀ X, Calls Tryz.prog 128 #[suV s] X fun e w' => e = .returned (.tuple #[bA s.bytes, .int .i64 0]) ∧ Below X.heap.size X w') := Lib.hid (fun X => sblock_at X s hw hm)
  have hbl : s.bytes.length = 256 := Su.bytes_len hw.2.1
  have CWI : Hid (∀ X, DkAt n0 X B iv jv d → Calls Tryz.prog 129 #[.pointer (some ⟨B, 0, none⟩), .int .i64 ((s.tx % 2 : Nat) : Int)] X fun e w' => e = .returned (.int .i64 0) ∧ Below X.heap.size X w') := Lib.hid (fun X hX => swipe_at n0 X B iv jv d hX (s.tx % 2) (by omega) hn ZL er ho)
  have CWR : Hid (∀ X, DkAt n0 X B iv jv d → n0 ≤ X.heap.size → Calls Tryz.prog 61 #[.pointer (some ⟨B, 0, none⟩), .int .i64 ((s.tx % 2 : Nat) : Int), .agg (bV s.bytes).toArray] X fun e w' => e = .returned (.int .i64 0) ∧ ∃ jv', DkAt n0 w' B iv jv' (d.wrK (s.tx % 2) s.bytes) ∧ Chg (dF B iv jv) X w' (dF B iv jv')) := Lib.hid (fun X hX hXn => swrite_at n0 X B iv jv d hX hXn hl hd (s.tx % 2) s.bytes hbl (by omega) hn hj)
  have HFL : Hid (∀ X jv', DkAt n0 X B iv jv' (d.wrK (s.tx % 2) s.bytes) → Calls Tryz.prog 82 #[.pointer (some ⟨B, 0, none⟩)] X fun e w' => e = .returned (.int .i64 0) ∧ DkAt n0 w' B iv (.slice none 0 0) (d.saved s) ∧ Mods [B] X w') := Lib.hid (fun X jv' hX => by
    obtain ⟨e1, e2, e3, e4⟩ := d.wrN_at (s.tx % 2) s.bytes 4
    exact dflush_at n0 X B iv jv' (d.wrK (s.tx % 2) s.bytes) hX (by show (d.wrN _ _ 4).left < 0; rw [e2]; exact hl) (by show (d.wrN _ _ 4).dead = false; rw [e3]; exact hd) (by show 0 < (d.wrN _ _ 4).img.length; rw [e1, wrBn_len]; omega))
  have CSC : Hid (∀ X, DkAt n0 X B iv jv d → Calls Tryz.prog 74 #[.pointer (some ⟨B, 0, none⟩)] X fun e w' => e = .returned (.int .i64 (d.img.length : Int)) ∧ X = w') := Lib.hid (fun X hX => dsec_at n0 X B iv jv d hX)
  obtain ⟨n, hnn⟩ : ∃ n, d.img.length = n := ⟨_, rfl⟩
  rw [hnn] at CSC hk
  obtain ⟨b, hb⟩ : ∃ b, s.bytes = b := ⟨_, rfl⟩
  rw [hb] at CBK CWR HFL hbl
  obtain ⟨D', hD'⟩ : ∃ x, d.saved s = x := ⟨_, rfl⟩
  rw [hD'] at HFL ⊢
  have htx := hw.1
  obtain ⟨SL, hSL, hSn, hS1⟩ := suV_list s
  have hs0 : SL[0]? = some (.int .u64 (s.tx : Int)) := by
    have e := congrArg (fun v : Value => v.cells[0]?) hSL
    have e2 : (Value.agg SL.toArray).cells[0]? = SL[0]? := by simp [Value.cells]
    rw [← e2, ← e]
    rfl
  rw [hSL] at CBK ⊢
  obtain ⟨tx, htx2⟩ : ∃ x, s.tx = x := ⟨_, rfl⟩
  rw [htx2] at CWI CWR HFL hs0 htx
  rw [show ((tx % 2 : Nat) : Int) = (tx : Int) % 2 by omega] at CWI CWR
  have HDK := Lib.hid h
  have HN0 := Lib.hid hn0
  have HBL := Lib.hid hbl
  clear hSL hnn hb hD' ho h hw hm hl hd hj hn0 htx2 hbl
  obtain ⟨w1, hw1⟩ : ∃ W, w.alloc (.cells SL.toArray 29) = W := ⟨_, rfl⟩
  have hb1 : Below w.heap.size w w1 := by rw [← hw1]; exact balloc (Below.refl _ _) _
  have hx1 : w1.heap[w.heap.size]? = some (.cells SL.toArray 29 (0, 0)) := by rw [← hw1]; exact heap_alloc_new _ _
  have HB1 := Lib.hid hb1
  have HX1 := Lib.hid hx1
  have HIS : Hid ((Tryz.prog.info? 29).map (·.size) = some SL.length) := Lib.hid (by rw [hSn]; exact infoSup)
  have hrb : (bV b).toArray.size = 256 := by rw [List.size_toArray, bV_len, HBL.out]
  have hw64 : IntKind.i64.wrap ((tx % 2 : Nat) : Int) = ((tx % 2 : Nat) : Int) := IntWalk.i64_in _ ⟨by omega, by omega⟩
  clear hb1 hx1
  go_enter Tryz.func83, Tryz.ntmps83
  go_upto_region 1 with fail
  (try rw [hw1])
  clear hw1
  apply wp_region_lit
  repeat (first
    | (refine wpList_load_mid rfl 29 _ rfl w.heap.size 0 rfl SL _ (rangeOf HX1.out) Tryz.underlying29 rfl HIS.out ?_)
    | go_step)
  refine (CBK.out w1).mono ?_
  rintro e x1 ⟨rfl, hb2⟩
  dsimp only
  have hst := run_storeNew (P := Tryz.prog) x1 50 Tryz.zeroCells50 (bV b).toArray (by rw [hrb]; kernel_rfl) (fun u hu => bV_one b u (by simpa using hu))
  obtain ⟨x2, hx2⟩ : ∃ W, x1.alloc (.cells (bV b).toArray 50) = W := ⟨_, rfl⟩
  have hb3 : Below x1.heap.size x1 x2 := by rw [← hx2]; exact balloc (Below.refl _ _) _
  have HXB : Hid (BoxB x2 x1.heap.size b) := Lib.hid (by unfold BoxB; rw [← hx2]; exact heap_alloc_new _ _)
  have HB2 := Lib.hid (bthn HB1.out (bthn hb2 hb3))
  have HXS : Hid (x2.heap[w.heap.size]? = some (.cells SL.toArray 29 (0, 0))) := Lib.hid (((bthn hb2 hb3).block _ (Array.getElem?_eq_some_iff.1 HX1.out).1).trans HX1.out)
  have t0 := cellOf HXS.out 0 (v := .int .u64 (tx : Int)) (by simpa using hs0)
  have HD2 := Lib.hid (HDK.out.below HB2.out)
  have CS := CSC.out x2 HD2.out
  have CW := CWI.out x2 HD2.out
  rw [show bA b = .agg (bV b).toArray from rfl]
  rw [hx2] at hst
  clear hb2 hb3 hx2
  go_wp2_with fail
  refine CS.mono ?_
  rintro e x3 ⟨rfl, rfl⟩
  clear CS
  go_wp2_with fail
  refine CW.mono ?_
  rintro e x4 ⟨rfl, hb4⟩
  have HB4 := Lib.hid (bthn HB2.out hb4)
  have HX4 : Hid (BoxB x4 x1.heap.size b) := Lib.hid ((hb4.block _ (Array.getElem?_eq_some_iff.1 HXB.out).1).trans HXB.out)
  have HIB : Hid ((Tryz.prog.info? 50).map (·.size) = some (bV b).length) := Lib.hid (by rw [bV_len, HBL.out]; exact infoBlk)
  have CR := CWR.out x4 (HDK.out.below HB4.out) (Nat.le_trans HN0.out HB4.out.size)
  clear CW hb4 hst t0
  go_wp2_with (refine wpList_load_mid rfl 50 _ rfl x1.heap.size 0 rfl (bV b) _ (rangeOf HX4.out) Tryz.underlying50 rfl HIB.out ?_)
  refine CR.mono ?_
  rintro e x5 ⟨rfl, jv', hd5, hc5⟩
  dsimp only
  have HC5 := Lib.hid hc5
  have CF := HFL.out x5 jv' hd5
  clear CR hd5 hc5
  go_wp2_with fail
  refine CF.mono ?_
  rintro e x6 ⟨rfl, hd6, hm6⟩
  have HD6 := Lib.hid hd6
  have HM6 := Lib.hid hm6
  clear CF hd6 hm6
  go_wp2_with fail
  go_ret
  refine ⟨rfl, HD6.out, ?_⟩
  have hc := Chg.pre HB4.out HC5.out
  refine ⟨hc.1.trans HM6.out (fun k hk => ?_), fun k hk => ?_⟩
  · rw [List.mem_singleton.1 hk]; exact .inl (List.mem_cons_self ..)
  · rcases List.mem_cons.1 hk with rfl | hk
    · exact .inl (List.mem_cons_self ..)
    · rcases List.mem_append.1 hk with hk | hk
      · exact .inl (List.mem_cons_of_mem _ (List.mem_append_left _ hk))
      · cases hk
end Go.Proofs.YtcdobdjemlaaaaaGreat
