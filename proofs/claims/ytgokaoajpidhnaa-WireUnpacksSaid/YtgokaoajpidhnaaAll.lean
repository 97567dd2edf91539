/- The law's all, is, are. -/
import Derived.Test.YtgokaoajpidhnaaTold
namespace Go.Proofs.Ytgokaoajpidhnaa
open Go.RowKit
set_option linter.unusedVariables false
set_option linter.unusedSimpArgs false
open Wire

theorem infoRV : (Try.prog.info? 103).map (·.size) = some 260 := by kernel_rfl

set_option maxRecDepth 100000 in
set_option maxHeartbeats 3200000 in
theorem all_any (ao : Option Addr) (n cap : Nat) (l : List V) (w : World) (hv : RVs w ao n cap l) (hn : n ≤ 40) (hl : ∀ x ∈ l, x.b.length ≤ 3000) :
    Calls Try.prog 55 #[.slice ao n cap] w fun e w' => ∃ v, e = .returned v ∧ Outs3 w.heap.size w' v l ∧ Below w.heap.size w w' := by
  have HV := Lib.hid hv
  have HL3 := Lib.hid hl
  have hnm : n ≤ cap ∧ cap ≤ 9223372036854775807 := by obtain ⟨_, h2, h3, _⟩ := hv; unfold maxLen at h3; exact ⟨h2, h3⟩
  have hll := hv.1
  have HL := Lib.hid hll
  obtain ⟨B, hB⟩ : ∃ B, w.heap.size = B := ⟨_, rfl⟩
  have HB := Lib.hid hB
  clear hv hll hl hB
  go_enter Try.func55, Try.ntmps55
  go_wp2_with fail
  go_loopw [3, 4] (fun o i wr => ∃ (k : Nat) (v' : Value), k ≤ n ∧ i = .int .i64 (k : Int) ∧ v' = o ∧ Outs3 B wr v' (l.take k) ∧ Below B w wr) (fun _ i _ => n - (intOf i).toNat)
  case atStart => exact ⟨0, _, by omega, rfl, rfl, by simpa using Outs3.nil B w, Below.refl _ _⟩
  case round =>
    obtain ⟨k, v', hk, rfl, rfl, ho, hb⟩ := hrel
    have HO := Lib.hid ho
    have HBW := Lib.hid hb
    by_cases hlt : k < n
    · obtain ⟨x, hx⟩ : ∃ x, l[k]? = some x := ⟨_, List.getElem?_eq_getElem (by rw [HL.out]; exact hlt)⟩
      obtain ⟨hok, b, off, sl, rfl, hbl, hr, hrd⟩ := (HV.out.below (by rw [HB.out]; exact hb)).2.2.2.2 k x hx
      have CT := told_any x sl wr hok hrd (Nat.le_trans (HL3.out x (List.mem_of_getElem? hx)) (by omega))
      have hi : (Try.prog.info? 103).map (·.size) = some (rC x sl).length := by rw [rC_len hok.x]; exact infoRV
      have HR := Lib.hid (And.intro hr hi)
      have hts : l.take (k + 1) = l.take k ++ [x] := by
        rw [List.take_add_one, hx]; rfl
      have HTS := Lib.hid hts
      have htl : (l.take k).length = k := by rw [List.length_take, HL.out]; omega
      have HTL := Lib.hid htl
      have hbs : B ≤ wr.heap.size := by rw [← HB.out]; rw [← HB.out] at hb; exact hb.size
      have HX := Lib.hid hx
      unfold rA at CT
      generalize rC x sl = R at *
      clear ho hb hr hi hts htl hrd hx
      go_wp2_with (((refine wpList_load_mid rfl 103 _ rfl b (off + k * 260) rfl R _ HR.out.1 Try.underlying103 rfl HR.out.2 ?_)))
      refine CT.mono ?_
      rintro e w2 ⟨u, rfl, hau, hb2⟩
      have HB2 := Lib.hid (HBW.out.trans (hb2.mono hbs))
      have hau2 := hau.base hbs
      have hnb : ∀ j ∈ ib u, j ∉ ob v' := fun j hj hv => by
        have h1 := (hau.lt j hj).1
        obtain ⟨xs0, ho0, _⟩ := HO.out
        have h2 := ownsRow_lt ho0 j hv
        omega
      obtain ⟨xs, hox, hxx⟩ := HO.out.below hb2
      rw [HTL.out] at hox
      have hxl : xs.length = (l.take k).length := by have := hox.1; rw [HTL.out]; omega
      obtain ⟨t, y, rfl⟩ := hau2.iface
      have HAU := Lib.hid hau2
      have HNB := Lib.hid hnb
      have HXX := Lib.hid hxx
      have HXL := Lib.hid hxl
      have hbB : B ≤ w2.heap.size := Nat.le_trans hbs hb2.size
      clear hau hau2 hnb hxx hxl hb2 CT
      go_wp2_with (at_builtin; go_must (refine wpList_app rfl _ _ 81 rfl B 20 _ 1 16 Try.underlying81 infoAny rfl (by decide) (by decide) _ k _ rfl hox rfl rfl (by simp [Value.oneCell']) (by omega) hbB ?_); intro v1 w4 ho4 hb4 hg4 hs4 hn4)
      have HO4 : Hid (Outs3 B w4 v1 (l.take (k + 1))) := Lib.hid (by
        rw [HTS.out]
        exact Outs3.snoc HXX.out HXL.out HAU.out HNB.out (by rw [HTL.out]; exact ho4) hg4 hs4)
      have HB4 := Lib.hid (HB2.out.trans hb4)
      clear ho4 hb4 hg4 hs4 hn4 hox
      go_wp2_with fail
      go_roundw
      case rel => exact ⟨k + 1, v1, by omega, by go_num, rfl, HO4.out, HB4.out⟩
      case measure => simp [intOf]; omega
    · obtain rfl : k = n := by omega
      clear ho hb
      go_wp2_with fail
      go_ret
      refine ⟨_, rfl, ?_, by rw [HB.out]; exact HBW.out⟩
      have := HO.out
      rw [List.take_of_length_le (by rw [HL.out]; exact Nat.le_refl _)] at this
      rw [HB.out]
      exact this

/-- Two values that are the same by their letter. -/
def SameV (x y : V) : Prop := x.letter = y.letter ∧ (x.letter = 56 ∧ x.n = y.n ∨ x.letter = 63 ∧ x.yes = y.yes ∨ x.letter = 42 ∧ x.b = y.b ∨ x.letter = 35 ∧ x.x = y.x)

theorem zeroBlock2 (w : World) : (zeroValue 40).run Try.prog w = .ok (.agg Try.zeroCells40) w := by kernel_rfl
theorem zsz : Try.zeroCells40.size = 256 := by kernel_rfl
theorem zone : ∀ u ∈ Try.zeroCells40.toList, u.oneCell' = true := by
  have : Try.zeroCells40.toList.all (fun u => u.oneCell') = true := by kernel_rfl
  intro u hu
  exact List.all_eq_true.1 this u hu

set_option maxRecDepth 100000 in
set_option maxHeartbeats 6400000 in
theorem is_num (n : Nat) (y : V) (sl : Value) (w : World) (h8 : y.letter = 56) (hn : n = y.n) :
    Calls Try.prog 86 #[.iface 93 (.int .u64 (n : Int)), rA y sl] w fun e w' => e = .returned (.bool true) ∧ Below w.heap.size w w' := by
  have t0 := fun y W => run_assert_hit (P := Try.prog) (xT := 20) Try.underlying93 rfl y W
  have t1 := fun y W => run_assert_miss (P := Try.prog) (t' := 93) (xT := 20) Try.underlying4 rfl (by decide) zeroBool y W
  have t2 := fun y W => run_assert_miss (P := Try.prog) (t' := 93) (xT := 20) Try.underlying36 rfl (by decide) zeroBytes y W
  have t3 := fun y W => run_assert_miss (P := Try.prog) (t' := 93) (xT := 20) Try.underlying40 rfl (by decide) zeroBlock2 y W
  have hbx := rC_box w 103 y sl
  have hb1 : Below w.heap.size w (w.alloc (.cells (rC y sl).toArray 103)) := balloc (Below.refl _ w) _
  have hb2 := balloc hb1 (.cells Try.zeroCells40 40)
  have hst := run_storeNew (P := Try.prog) (w.alloc (.cells (rC y sl).toArray 103)) 40 Try.zeroCells40 Try.zeroCells40 rfl zone
  obtain ⟨k0, k1, k2, k3, k4⟩ := rC_cells (rangeAt_below hbx (by simp) (balloc (Below.refl _ _) (.cells Try.zeroCells40 40)))
  simp only [Nat.zero_add] at k0 k1 k2 k3 k4
  have HB := Lib.hid hb2
  rw [World.size_alloc] at hst
  unfold rA
  generalize hC : (rC y sl).toArray = C at *
  have hzs := zsz
  rw [h8] at k0
  subst hn
  generalize y.n = m at *
  clear hC hbx hb1 hb2 h8 k4 k3
  go_enter Try.func86, Try.ntmps86
  go_wp2_with fail
  go_ret
  exact ⟨rfl, HB.out⟩

set_option maxRecDepth 100000 in
set_option maxHeartbeats 6400000 in
theorem is_flag (q : Bool) (y : V) (sl : Value) (w : World) (h8 : y.letter = 63) (hn : q = y.yes) :
    Calls Try.prog 86 #[.iface 4 (.bool q), rA y sl] w fun e w' => e = .returned (.bool true) ∧ Below w.heap.size w w' := by
  have t0 := fun y W => run_assert_miss (P := Try.prog) (t' := 4) (xT := 20) Try.underlying93 rfl (by decide) zeroU64 y W
  have t1 := fun y W => run_assert_hit (P := Try.prog) (xT := 20) Try.underlying4 rfl y W
  have t2 := fun y W => run_assert_miss (P := Try.prog) (t' := 4) (xT := 20) Try.underlying36 rfl (by decide) zeroBytes y W
  have t3 := fun y W => run_assert_miss (P := Try.prog) (t' := 4) (xT := 20) Try.underlying40 rfl (by decide) zeroBlock2 y W
  have hbx := rC_box w 103 y sl
  have hb1 : Below w.heap.size w (w.alloc (.cells (rC y sl).toArray 103)) := balloc (Below.refl _ w) _
  have hb2 := balloc hb1 (.cells Try.zeroCells40 40)
  have hst := run_storeNew (P := Try.prog) (w.alloc (.cells (rC y sl).toArray 103)) 40 Try.zeroCells40 Try.zeroCells40 rfl zone
  obtain ⟨k0, k1, k2, k3, k4⟩ := rC_cells (rangeAt_below hbx (by simp) (balloc (Below.refl _ _) (.cells Try.zeroCells40 40)))
  simp only [Nat.zero_add] at k0 k1 k2 k3 k4
  have HB := Lib.hid hb2
  rw [World.size_alloc] at hst
  unfold rA
  generalize hC : (rC y sl).toArray = C at *
  have hzs := zsz
  rw [h8] at k0
  subst hn
  have hbb : (y.yes == y.yes) = true := by simp
  generalize y.yes = m at *
  clear hC hbx hb1 hb2 h8 k4 k3
  go_enter Try.func86, Try.ntmps86
  go_wp2_with fail
  go_ret
  exact ⟨by simp, HB.out⟩

set_option maxRecDepth 100000 in
set_option maxHeartbeats 6400000 in
theorem is_blob (sx : Value) (n : Nat) (bs : List UInt8) (y : V) (sl : Value) (w : World) (h8 : y.letter = 42) (hx : Rd w 1 sx n (bV bs)) (hn : bs = y.b) (hrd : Rd w 1 sl y.b.length (bV y.b)) :
    Calls Try.prog 86 #[.iface 36 sx, rA y sl] w fun e w' => e = .returned (.bool true) ∧ Below w.heap.size w w' := by
  have t0 := fun y W => run_assert_miss (P := Try.prog) (t' := 36) (xT := 20) Try.underlying93 rfl (by decide) zeroU64 y W
  have t1 := fun y W => run_assert_miss (P := Try.prog) (t' := 36) (xT := 20) Try.underlying4 rfl (by decide) zeroBool y W
  have t2 := fun y W => run_assert_hit (P := Try.prog) (xT := 20) Try.underlying36 rfl y W
  have t3 := fun y W => run_assert_miss (P := Try.prog) (t' := 36) (xT := 20) Try.underlying40 rfl (by decide) zeroBlock2 y W
  have hbx := rC_box w 103 y sl
  have hb1 : Below w.heap.size w (w.alloc (.cells (rC y sl).toArray 103)) := balloc (Below.refl _ w) _
  have hb2 := balloc hb1 (.cells Try.zeroCells40 40)
  have hst := run_storeNew (P := Try.prog) (w.alloc (.cells (rC y sl).toArray 103)) 40 Try.zeroCells40 Try.zeroCells40 rfl zone
  obtain ⟨k0, k1, k2, k3, k4⟩ := rC_cells (rangeAt_below hbx (by simp) (balloc (Below.refl _ _) (.cells Try.zeroCells40 40)))
  simp only [Nat.zero_add] at k0 k1 k2 k3 k4
  have HB := Lib.hid hb2
  rw [World.size_alloc] at hst
  unfold rA
  have x1 := run_text _ sx _ bs (hx.below hb2)
  have x2 := run_text _ sl _ y.b (hrd.below hb2)
  rw [hn] at x1
  generalize strB y.b = S at *
  generalize hC : (rC y sl).toArray = C at *
  have hzs := zsz
  rw [h8] at k0
  clear hC hbx hb1 hb2 h8 k4 hn hx hrd
  go_enter Try.func86, Try.ntmps86
  go_wp2_with fail
  go_ret
  exact ⟨by simp, HB.out⟩

theorem cellsU8 : Try.prog.cellsOf 5 = 1 := by kernel_rfl
theorem infoU8 : ∃ i, Try.prog.info? 5 = some i := by
  have : (Try.prog.info? 5).isSome = true := by kernel_rfl
  exact Option.isSome_iff_exists.1 this

set_option maxRecDepth 100000 in
set_option maxHeartbeats 6400000 in
theorem is_blk (x : List UInt8) (y : V) (sl : Value) (w : World) (h8 : y.letter = 35) (hn : x = y.x) (hl : y.x.length = 256) :
    Calls Try.prog 86 #[.iface 40 (bA x), rA y sl] w fun e w' => e = .returned (.bool true) ∧ Below w.heap.size w w' := by
  subst hn
  have t0 := fun y W => run_assert_miss (P := Try.prog) (t' := 40) (xT := 20) Try.underlying93 rfl (by decide) zeroU64 y W
  have t1 := fun y W => run_assert_miss (P := Try.prog) (t' := 40) (xT := 20) Try.underlying4 rfl (by decide) zeroBool y W
  have t2 := fun y W => run_assert_miss (P := Try.prog) (t' := 40) (xT := 20) Try.underlying36 rfl (by decide) zeroBytes y W
  have t3 := fun y W => run_assert_hit (P := Try.prog) (xT := 20) Try.underlying40 rfl y W
  have hbx := rC_box w 103 y sl
  have hb1 : Below w.heap.size w (w.alloc (.cells (rC y sl).toArray 103)) := balloc (Below.refl _ w) _
  have hb2 := balloc hb1 (.cells (bV y.x).toArray 40)
  have hst := run_storeNew (P := Try.prog) (w.alloc (.cells (rC y sl).toArray 103)) 40 Try.zeroCells40 (bV y.x).toArray (by rw [zsz]; simp [bV_len, hl]) (by simpa using bV_one y.x)
  obtain ⟨k0, k1, k2, k3, k4⟩ := rC_cells (rangeAt_below hbx (by simp) (balloc (Below.refl _ _) (.cells (bV y.x).toArray 40)))
  simp only [Nat.zero_add] at k0 k1 k2 k3 k4
  have HB := Lib.hid hb2
  rw [World.size_alloc] at hst
  unfold rA
  have hi : (Try.prog.info? 40).map (·.size) = some (bV y.x).length := by rw [bV_len, hl]; kernel_rfl
  obtain ⟨ib0, hib⟩ := infoU8
  have heq := fun W => run_eql_bytes (P := Try.prog) W Try.underlying40 Try.underlying5 hib cellsU8 y.x y.x hl hl
  unfold bA at heq ⊢
  have hra : ((w.alloc (.cells (rC y sl).toArray 103)).alloc (.cells (bV y.x).toArray 40)).rangeAt (w.heap.size + 1) 0 (bV y.x) := fun j u hj => by
    rw [Nat.zero_add]
    have := heap_alloc_new (w.alloc (.cells (rC y sl).toArray 103)) (.cells (bV y.x).toArray 40)
    rw [World.size_alloc] at this
    exact cellOf' this j (by simpa using hj)
  have HR := Lib.hid (And.intro hra (And.intro k4 hi))
  generalize hX : bV y.x = X at *
  have hxs : X.toArray.size = 256 := by rw [← hX]; simp [bV_len, hl]
  generalize hXa : X.toArray = XA at *
  generalize hC : (rC y sl).toArray = C at *
  have hzs := zsz
  rw [h8] at k0
  clear hC hbx hb1 hb2 h8 k4 k3 hra hi hib hX
  go_enter Try.func86, Try.ntmps86
  go_wp2_with fail
  refine wp_load_mid 40 _ rfl (w.heap.size + 1) 0 rfl X _ HR.out.1 Try.underlying40 rfl HR.out.2.2 ?_
  rw [hXa]
  go_wp2_with fail
  refine wp_load_mid 40 _ rfl w.heap.size 4 rfl X _ HR.out.2.1 Try.underlying40 rfl HR.out.2.2 ?_
  rw [hXa]
  clear hXa
  go_wp2_with fail
  go_ret
  exact ⟨by simp, HB.out⟩

theorem is_true (u : Value) (x y : V) (sl : Value) (w : World) (hu : AnyV w u x) (hs : SameV x y) (hok : y.Ok) (hrd : Rd w 1 sl y.b.length (bV y.b)) :
    Calls Try.prog 86 #[u, rA y sl] w fun e w' => e = .returned (.bool true) ∧ Below w.heap.size w w' := by
  obtain ⟨hl, hs⟩ := hs
  rcases hu with ⟨h, rfl, hn⟩ | ⟨h, rfl⟩ | ⟨h, sx, rfl, hrx⟩ | ⟨h, rfl, hx⟩ | ⟨h3, h4, h5, h6, hodd⟩
  · refine is_num x.n y sl w (by rw [← hl]; exact h) ?_
    rcases hs with ⟨_, e⟩ | ⟨e, _⟩ | ⟨e, _⟩ | ⟨e, _⟩
    · exact e
    all_goals (rw [h] at e; cases e)
  · refine is_flag x.yes y sl w (by rw [← hl]; exact h) ?_
    rcases hs with ⟨e, _⟩ | ⟨_, e⟩ | ⟨e, _⟩ | ⟨e, _⟩
    · rw [h] at e; cases e
    · exact e
    all_goals (rw [h] at e; cases e)
  · refine is_blob sx _ x.b y sl w (by rw [← hl]; exact h) hrx ?_ hrd
    rcases hs with ⟨e, _⟩ | ⟨e, _⟩ | ⟨_, e⟩ | ⟨e, _⟩
    · rw [h] at e; cases e
    · rw [h] at e; cases e
    · exact e
    · rw [h] at e; cases e
  · refine is_blk x.x y sl w (by rw [← hl]; exact h) ?_ hok.x
    rcases hs with ⟨e, _⟩ | ⟨e, _⟩ | ⟨e, _⟩ | ⟨_, e⟩
    · rw [h] at e; cases e
    · rw [h] at e; cases e
    · rw [h] at e; cases e
    · exact e
  · rcases hs with ⟨e, _⟩ | ⟨e, _⟩ | ⟨e, _⟩ | ⟨e, _⟩
    · exact absurd e h3
    · exact absurd e h4
    · exact absurd e h5
    · exact absurd e h6
end Go.Proofs.Ytgokaoajpidhnaa
