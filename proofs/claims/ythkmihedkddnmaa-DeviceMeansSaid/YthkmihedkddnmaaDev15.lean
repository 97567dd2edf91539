/- Devices: maps.Clone, maps.DeleteFunc at a volume's blocks, walked. -/
import Derived.Shelf.SlMaps.Clone
import Derived.Lib.SlMapFilter
import Derived.Maps.RangeWalk
import Derived.Deep.LoopGhost
import Derived.Test.YthkmihedkddnmaaDev12
import Derived.Test.YthkmihedkddnmaaMerge
namespace Go.Proofs.Ythkmihedkddnmaa
open Go.RowKit Go.Maps Wire Cmd
set_option linter.unusedVariables false
set_option linter.unusedSimpArgs false

set_option maxRecDepth 100000 in
set_option maxHeartbeats 1600000 in
theorem clone_blk (w : World) (b : Nat) (m : List (Nat × List UInt8)) (h : MapL w Try.prog 3 RBlk .i64 blkD b m) :
    Calls Try.prog 17 #[.map (some b)] w fun e w' => e = .returned (.map (some w.heap.size)) ∧ MapL w' Try.prog 3 RBlk .i64 blkD w.heap.size m ∧ Below w.heap.size w w' := by
  obtain ⟨es, clock, hb, hrest⟩ := h
  have HR := Lib.hid hrest
  clear hrest
  have hq := fun w => run_eql_map_nil_sl (P := Try.prog) w 51 _ _ (some b) undBlks
  go_enter Try.func17, Try.ntmps17
  go_wp2
  rw [run_callFunc_extern Try.func30 (by kernel_rfl) (by kernel_rfl) (by kernel_rfl) (e := Extern.MapsClone.clone) (by kernel_rfl), run_maps_clone_sl w 51 hb]
  simp only [Result.andThen]
  rw [Oper.upon_value]
  go_wp2
  rw [run_typeAssert_map_sl _ 51 _ _ _ _ undBlks]
  simp only [Result.andThen]
  rw [Oper.upon_value]
  go_wp2
  go_ret
  refine ⟨rfl, ⟨es, clock, (MapKept.heap_alloc w _).1, HR.out⟩, balloc (Below.refl _ _) _⟩
set_option maxRecDepth 100000 in
set_option maxHeartbeats 1600000 in
theorem dsize1_any (w : World) (p : Nat) (sz : Int) (mv : Value) (hp : w.heap[p]? = some (.cells #[.int .i64 sz, mv] 53 (0, 0))) (k : Int) (c : List UInt8) (hc : c.length = 256) :
    Calls Try.prog 36 #[.int .i64 k, bA c, .pointer (some ⟨p, 0, none⟩)] w fun e w' => e = .returned (.bool (decide (sz ≤ k))) ∧ Below w.heap.size w w' := by
  have hxs : (bV c).toArray.size = 256 := by simp [bV_len, hc]
  have c0 := cellOf hp 0 (v := .int .i64 sz) rfl
  have hl := (Array.getElem?_eq_some_iff.1 hp).1
  clear hp hc
  unfold bA
  generalize (bV c).toArray = X at *
  by_cases hk : sz ≤ k
  · have HD : Hid (decide (sz ≤ k) = true) := Lib.hid (decide_eq_true hk)
    go_enter Try.func36, Try.ntmps36
    go_wp2_with fail
    go_ret
    exact ⟨by rw [HD.out]; rfl, balloc (Below.refl _ _) _⟩
  · have HD : Hid (decide (sz ≤ k) = false) := Lib.hid (decide_eq_false hk)
    go_enter Try.func36, Try.ntmps36
    go_wp2_with fail
    go_ret
    exact ⟨by rw [HD.out]; rfl, balloc (Below.refl _ _) _⟩
theorem RBlk_shape {v : Value} {y : DataW Unit × List MemPlace} (h : RBlk v = some y) : ∃ c : {c : List UInt8 // c.length = 256}, v = bA c.1 := by
  unfold RBlk at h
  split at h
  · rename_i hx
    exact ⟨⟨hx.choose, hx.choose_spec.1⟩, hx.choose_spec.2⟩
  · cases h
/-- Is the key at or behind the end? -/
def pdS (sz : Int) (kl : Lit) (_ : DataW Unit) : Bool := match kl with
  | .int _ k => decide (sz ≤ k)
  | _ => false
theorem pdS_enc (sz : Int) (m : List (Nat × List UInt8)) : Lib.deleteFuncD (pdS sz) (encM .i64 blkD m) = encM .i64 blkD (m.filter fun q => decide ((q.1 : Int) < sz)) := by
  show DataW.map (List.filter _ (encA .i64 blkD m)) = DataW.map (encA .i64 blkD _)
  unfold encA
  rw [List.filter_map]
  congr 2
  refine List.filter_congr fun q _ => ?_
  simp only [Function.comp, pdS]
  rw [Bool.eq_iff_iff]
  simp
set_option maxRecDepth 100000 in
set_option maxHeartbeats 4000000 in
theorem delf_blk (w : World) (b : Nat) (m : List (Nat × List UInt8)) (h : MapL w Try.prog 3 RBlk .i64 blkD b m) (p : Nat) (sz : Int) (mv : Value) (hp : w.heap[p]? = some (.cells #[.int .i64 sz, mv] 53 (0, 0))) (hpb : p ≠ b) :
    Calls Try.prog 35 #[.map (some b), .func (.func 36) #[] #[.pointer (some ⟨p, 0, none⟩)]] w fun e w' => e = .returned (.tuple #[]) ∧ MapL w' Try.prog 3 RBlk .i64 blkD b (m.filter fun q => decide ((q.1 : Int) < sz)) ∧ Mods [b] w w' := by
  have hown : w.ownsMap Try.prog 3 RBlk b m.length (encM .i64 blkD m) := h
  have K : Keyed Try.prog 3 := int_keyed undInt
  have HP := Lib.hid hp
  have HPB := Lib.hid hpb
  have HPD := Lib.hid (pdS_enc sz m)
  have HLT := Lib.hid h.lt
  clear h hp hpb
  obtain ⟨es0, hes, hap, hkeys⟩ := hown.entries K
  rw [hes] at hown
  have HES := Lib.hid hes
  have HZ : Hid (∀ (X : World) (c : List UInt8), c.length = 256 → (storeCells ⟨X.heap.size, 0, none⟩ (bV c)).run Try.prog (X.alloc (.cells Try.zeroCells42 42)) = .ok () (X.alloc (.cells (bV c).toArray 42))) := Lib.hid (fun X c hc => by
    have := run_storeNew (P := Try.prog) X 42 Try.zeroCells42 (bV c).toArray (by rw [zszM]; simp [bV_len, hc]) (by simpa using bV_one c)
    simpa using this)
  clear hes
  go_enter Try.func35, Try.ntmps35
  go_wp2_with (at_range; refine wpList_range_own _ rfl _ 51 rfl 3 42 K undBlks RBlk b _ _ rfl hown ?_; intro w0 hrg0 hg0 hs0)
  go_frame
  go_loopw [9] (fun _ wr => ∃ (left : Lit → Bool) (cnt : Nat), wr.ranges Try.prog 3 RBlk b w.heap.size m.length (Fk (pdS sz) es0 left) left cnt ∧ w.grownBy wr (some b)) (fun _ wr => wr.rangeLeft b w.heap.size)
  case atStart => exact ⟨_, _, by rw [Fk_start hkeys]; exact hrg0, hg0.but _⟩
  case round =>
    obtain ⟨left, cnt, hrg, hgw⟩ := hrel
    go_wp2_with (at_next; refine wpList_next_ranges _ rfl _ rfl 3 K RBlk (Value.int .i64) (fun c : {c : List UInt8 // c.length = 256} => bA c.1) (fun key kl hkey => by obtain ⟨x, rfl, _⟩ := Maps.keyOf_int_inv undInt hkey; exact ⟨x, rfl⟩) (fun v y hv => RBlk_shape hv) b w.heap.size _ _ _ _ rfl hrg ?_ ?_)
    · intro _ hl0
      go_wp2
      go_end0
      refine ⟨rfl, mapL_of (n := m.length) ?_, ⟨hgw.os, hgw.tape, hgw.output, hgw.size, fun k hk hn => hgw.block k hk (fun e => hn (by simp [Option.some.inj e]))⟩⟩
      rw [← HPD.out, HES.out, ← Fk_end hl0]
      exact hrg.owns
    · intro x c hcl kl yd yp w1 cnt1 hkey hlx hv hat hrg1 hlt hg1 hs1 hen
      obtain ⟨x', ex, rfl, hwx⟩ := Maps.keyOf_int_inv undInt hkey
      cases ex
      have hgw1 := hgw.andThen hg1 (fun j hj => by cases hj; exact Or.inl (Nat.le_refl _))
      have HG1 := Lib.hid hgw1
      have HRG1 := Lib.hid hrg1
      have HP1 := Lib.hid ((hgw1.block p (Array.getElem?_eq_some_iff.1 HP.out).1 (fun e => HPB.out (Option.some.inj e))).trans HP.out)
      have hst := HZ.out w1 c hcl
      have HX2 : Hid ((w1.alloc (.cells (bV c).toArray 42)).rangeAt w1.heap.size 0 (bV c) ∧ (Try.prog.info? 42).map (·.size) = some (bV c).length) := Lib.hid ⟨fun j u hj => by
        rw [Nat.zero_add]
        exact cellOf' (heap_alloc_new w1 _) j (by simpa using hj), by rw [bV_len, hcl]; exact infoBlk⟩
      have HCL := Lib.hid hcl
      have HK := Lib.hid hkey
      have HLX := Lib.hid hlx
      have HAT := Lib.hid hat
      have HCN := Lib.hid hlt
      have HLE := Lib.hid (And.intro hrg1.left_eq hrg.left_eq)
      have hcs : (bV c).toArray.size = 256 := by simp [bV_len, hcl]
      clear hkey hlx hat hlt hcl hgw1 hrg1 hgw hrg hg1 hv hwx hs1
      unfold bA at hen ⊢
      go_wp2_with fail
      clear hst hen
      have HB2 := balloc (Below.refl _ w1) (.cells (bV c).toArray 42)
      have hx2 := HX2.out
      obtain ⟨w2, hw2⟩ : ∃ W, w1.alloc (.cells (bV c).toArray 42) = W := ⟨_, rfl⟩
      rw [hw2] at HB2 hx2 ⊢
      clear hw2
      have HX3 := Lib.hid hx2
      have HBW2 := Lib.hid HB2
      have hg2 : w1.grownBy w2 none := ⟨HB2.os, HB2.tape, HB2.output, HB2.size, fun k hk _ => HB2.block k hk⟩
      have HRG2 := Lib.hid (HRG1.out.kept hg2 (by simp) (by simp))
      have HP2 := Lib.hid ((HB2.block p (Array.getElem?_eq_some_iff.1 HP1.out).1).trans HP1.out)
      have HGW2 := Lib.hid (HG1.out.andThen hg2 (fun j hj => by cases hj))
      have hc := dsize1_any w2 p sz mv HP2.out x c HCL.out
      clear HB2 hx2 hg2 hcs
      refine wp_load_mid (P := Try.prog) 42 _ rfl w1.heap.size 0 rfl (bV c) _ HX3.out.1 Try.underlying42 rfl HX3.out.2 ?_
      go_wp2_with fail
      refine hc.mono ?_
      rintro e w3 ⟨rfl, hb3⟩
      dsimp only
      have hg3 : w2.grownBy w3 none := ⟨hb3.os, hb3.tape, hb3.output, hb3.size, fun k hk _ => hb3.block k hk⟩
      have hrg3 := HRG2.out.kept hg3 (by simp) (by simp)
      have HGW3 := Lib.hid (HGW2.out.andThen hg3 (fun j hj => by cases hj))
      clear hc hb3 hg3
      obtain ⟨q, hq⟩ : ∃ q, decide (sz ≤ x) = q := ⟨_, rfl⟩
      have HPQ : Hid (pdS sz (.int .i64 x) yd = q) := Lib.hid hq
      rw [hq]
      clear hq
      cases q with
      | false =>
        have HRG3 := Lib.hid hrg3
        clear hrg3
        go_wp2_with fail
        go_roundw
        case rel => exact ⟨_, cnt1, by rw [← Fk_stays hap (K.key HK.out) HLX.out HPQ.out HAT.out]; exact HRG3.out, HGW3.out⟩
        case measure => rw [HRG3.out.left_eq, HLE.out.2]; exact HCN.out
      | true =>
        have HKK := HK.out
        go_wp2_with (at_delete; refine wpList_delete_ranges _ rfl _ _ 51 3 rfl 42 K undBlks RBlk b w.heap.size _ _ _ _ rfl hrg3 _ _ rfl HKK ?_; intro w4 cnt4 hrg4 hle hturn; go_frame)
        rw [strike_twice] at hrg4
        go_roundw
        case rel => exact ⟨_, cnt4, by rw [← Fk_struck hap (K.key HK.out) HLX.out HPQ.out HAT.out]; exact hrg4, HGW3.out.andThen hturn.grown (fun j hj => by cases hj; exact Or.inr rfl)⟩
        case measure => rw [hrg4.left_eq, HLE.out.2]; have := HCN.out; omega
end Go.Proofs.Ythkmihedkddnmaa
