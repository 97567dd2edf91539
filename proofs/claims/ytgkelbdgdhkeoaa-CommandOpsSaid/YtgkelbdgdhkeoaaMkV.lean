/- The reference's makers of values, walked. -/
import Derived.Test.YtgkelbdgdhkeoaaRPack
namespace Go.Proofs.Ytgkelbdgdhkeoaa
open Go.RowKit
set_option linter.unusedVariables false
set_option linter.unusedSimpArgs false
open Wire

def V0 : V := ⟨0, 0, false, [], List.replicate 256 0⟩
theorem zero_rC : Try.zeroCells136 = (rC V0 (.slice none 0 0)).toArray := by kernel_rfl
theorem zero_list : Try.zeroCells136.toList = rC V0 (.slice none 0 0) := by rw [zero_rC]
theorem set_rC {l : List Value} {v : V} {sl : Value} (h : l = rC v sl) (hx : v.x.length = 256) (h1 : ∀ u ∈ l, u.oneCell' = true) (w : World) :
    (storeCells ⟨w.heap.size, 0, none⟩ l).run Try.prog (w.alloc (.cells Try.zeroCells136 136)) = .ok () (w.alloc (.cells (rC v sl).toArray 136)) := by
  subst h
  exact run_storeNew (P := Try.prog) w 136 Try.zeroCells136 (rC v sl).toArray (by rw [zsz2, List.size_toArray, rC_len hx]) (by simpa using h1)
theorem rC_one' {v : V} {sl : Value} (hs : sl.oneCell' = true) : ∀ u ∈ rC v sl, u.oneCell' = true := by
  intro u hu
  simp only [rC, List.mem_cons] at hu
  rcases hu with rfl | rfl | rfl | rfl | hu
  · rfl
  · rfl
  · rfl
  · exact hs
  · exact bV_one _ u hu
theorem rep256 : (List.replicate 256 (0 : UInt8)).length = 256 := List.length_replicate
theorem res_rC {fn : Func} {p : Tmp} (h : fn.results = #[.cell p 136]) (tmps : Array Value) (w : World) (v : V) (sl : Value) (hx : v.x.length = 256) (hp : tmps.getD p undef = .pointer (some ⟨w.heap.size, 0, none⟩)) :
    (results fn tmps).run Try.prog (w.alloc (.cells (rC v sl).toArray 136)) = .ok (rA v sl) (w.alloc (.cells (rC v sl).toArray 136)) :=
  results_cell_row h tmps _ w.heap.size 136 _ (0, 0) _ hp (heap_alloc_new w _) Try.underlying136 rfl (by rw [infoRV, List.size_toArray, rC_len hx])

set_option maxRecDepth 100000 in
set_option maxHeartbeats 1600000 in
theorem mk_num (n : Nat) (w : World) : Calls Try.prog 90 #[.int .u64 (n : Int)] w fun e w' => e = .returned (rA (num n) (.slice none 0 0)) ∧ Below w.heap.size w w' := by
  have hst := set_rC (l := (Try.zeroCells136.toList.set 0 (.int .u8 56)).set 1 (.int .u64 (n : Int))) (v := num n) (sl := .slice none 0 0) (by rw [zero_list]; rfl) rep256 (by rw [zero_list]; exact rC_one' (v := num n) (sl := .slice none 0 0) (by rfl)) w
  have hzz := zsz2
  go_enter Try.func90, Try.ntmps90
  go_wp2_with fail
  exact bodyPost_ret (v := rA (num n) (.slice none 0 0)) (res_rC rfl _ w (num n) (.slice none 0 0) rep256 rfl) rfl ⟨rfl, balloc (Below.refl _ _) _⟩

set_option maxRecDepth 100000 in
set_option maxHeartbeats 1600000 in
theorem mk_flag (y : Bool) (w : World) : Calls Try.prog 142 #[.bool y] w fun e w' => e = .returned (rA (flag y) (.slice none 0 0)) ∧ Below w.heap.size w w' := by
  have hst := set_rC (l := (Try.zeroCells136.toList.set 0 (.int .u8 63)).set 2 (.bool y)) (v := flag y) (sl := .slice none 0 0) (by rw [zero_list]; rfl) rep256 (by rw [zero_list]; exact rC_one' (v := flag y) (sl := .slice none 0 0) (by rfl)) w
  have hzz := zsz2
  go_enter Try.func142, Try.ntmps142
  go_wp2_with fail
  exact bodyPost_ret (v := rA (flag y) (.slice none 0 0)) (res_rC rfl _ w (flag y) (.slice none 0 0) rep256 rfl) rfl ⟨rfl, balloc (Below.refl _ _) _⟩

set_option maxRecDepth 100000 in
set_option maxHeartbeats 1600000 in
theorem mk_blob (ao : Option Addr) (n cap : Nat) (bs : List UInt8) (w : World) : Calls Try.prog 95 #[.slice ao n cap] w fun e w' => e = .returned (rA (blob bs) (.slice ao n cap)) ∧ Below w.heap.size w w' := by
  have hst := set_rC (l := (Try.zeroCells136.toList.set 0 (.int .u8 42)).set 3 (.slice ao n cap)) (v := blob bs) (sl := .slice ao n cap) (by rw [zero_list]; rfl) rep256 (by rw [zero_list]; exact rC_one' (v := blob bs) (sl := .slice ao n cap) (by rfl)) w
  have hzz := zsz2
  go_enter Try.func95, Try.ntmps95
  go_wp2_with fail
  exact bodyPost_ret (v := rA (blob bs) (.slice ao n cap)) (res_rC rfl _ w (blob bs) (.slice ao n cap) rep256 rfl) rfl ⟨rfl, balloc (Below.refl _ _) _⟩

theorem foldl_sets (o : Nat) : ∀ (l : List Value) (k : Nat) (A : Array Value), o + k + l.length ≤ A.size → ((l.zipIdx k).foldl (fun (cs : Array Value) (x : Value × Nat) => cs.setIfInBounds (o + x.snd) x.fst) A).toList = A.toList.take (o + k) ++ l ++ A.toList.drop (o + k + l.length)
  | [], k, A, h => by simp
  | v :: l, k, A, h => by
    rw [List.length_cons] at h
    rw [List.zipIdx_cons, List.foldl_cons, foldl_sets o l (k + 1) _ (by rw [Array.size_setIfInBounds]; omega)]
    have hk : o + k < A.toList.length := by rw [Array.length_toList]; omega
    rw [Array.toList_setIfInBounds, List.length_cons]
    rw [show o + (k + 1) = o + k + 1 by omega, show o + k + 1 + l.length = o + k + (l.length + 1) by omega]
    rw [List.take_add_one, List.take_set_of_le (Nat.le_refl _), List.getElem?_set_self hk, List.drop_set_of_lt (by omega)]
    simp

set_option maxRecDepth 100000 in
set_option maxHeartbeats 1600000 in
theorem mk_blk (l : List UInt8) (hl : l.length = 256) (w : World) : Calls Try.prog 144 #[bA l] w fun e w' => e = .returned (rA (blk l) (.slice none 0 0)) ∧ Below w.heap.size w w' := by
  unfold bA
  have hzz := zsz2
  have hra : ((w.alloc (.cells (bV l).toArray 77)).alloc (.cells Try.zeroCells136 136)).rangeAt w.heap.size 0 (bV l) := World.rangeAt_alloc (fun j u hj => by
    rw [Nat.zero_add]
    exact cellOf' (heap_alloc_new w _) j (by simpa using hj)) _
  have hi : (Try.prog.info? 77).map (·.size) = some (bV l).length := by rw [bV_len, hl]; kernel_rfl
  have HR := Lib.hid (And.intro hra hi)
  have hxs : (bV l).toArray.size = 256 := by simp [bV_len, hl]
  have hF : Array.foldl (fun (cs : Array Value) (x : Value × Nat) => cs.setIfInBounds (4 + x.snd) x.fst) (Try.zeroCells136.setIfInBounds 0 (Value.int .u8 35)) (bV l).toArray.zipIdx 0 256 = (rC (blk l) (.slice none 0 0)).toArray := by
    apply Array.toList_inj.1
    have hzi : (bV l).toArray.zipIdx = ((bV l).zipIdx 0).toArray := by apply Array.toList_inj.1; simp
    rw [hzi, List.foldl_toArray' _ _ _ (by simp [bV_len, hl])]
    have h1 := foldl_sets 4 (bV l) 0 (Try.zeroCells136.setIfInBounds 0 (Value.int .u8 35)) (by rw [Array.size_setIfInBounds, zsz2, bV_len, hl]; omega)
    simp only [Nat.add_zero] at h1
    rw [h1, Array.toList_setIfInBounds, zero_list, bV_len, hl]
    have h2 : (rC V0 (.slice none 0 0)).set 0 (.int .u8 35) = .int .u8 35 :: .int .u64 0 :: .bool false :: .slice none 0 0 :: bV (List.replicate 256 0) := rfl
    rw [h2]
    have h3 : (bV (List.replicate 256 0)).drop 256 = [] := List.drop_eq_nil_of_le (by rw [bV_len, List.length_replicate]; exact Nat.le_refl _)
    simp only [List.take_succ_cons, List.take_zero, List.drop_succ_cons, h3, List.append_nil, Nat.reduceAdd]
    rfl
  have hst := set_rC (l := rC (blk l) (.slice none 0 0)) (v := blk l) (sl := .slice none 0 0) rfl hl (rC_one' rfl) (w.alloc (.cells (bV l).toArray 77))
  rw [World.size_alloc] at hst
  have hsz : (rC (blk l) (.slice none 0 0)).toArray.size = 260 := by rw [List.size_toArray, rC_len hl]
  have HRES := Lib.hid (fun (fn : Func) (p : Tmp) (h : fn.results = #[.cell p 136]) (tmps : Array Value) => res_rC h tmps (w.alloc (.cells (bV l).toArray 77)) (blk l) (.slice none 0 0) hl)
  have hb2 : Below w.heap.size w ((w.alloc (.cells (bV l).toArray 77)).alloc (.cells (rC (blk l) (.slice none 0 0)).toArray 136)) := balloc (balloc (Below.refl _ w) _) _
  have HB2 := Lib.hid hb2
  have htl : (rC (blk l) (.slice none 0 0)).toArray.toList = rC (blk l) (.slice none 0 0) := rfl
  rw [← htl] at hst
  clear hb2 htl
  generalize hC : (rC (blk l) (.slice none 0 0)).toArray = C at *
  generalize hX : bV l = X at *
  generalize hXA : X.toArray = XA at *
  clear hra hi
  go_enter Try.func144, Try.ntmps144
  go_wp2_with fail
  refine wp_load_mid 77 _ rfl w.heap.size 0 rfl X _ HR.out.1 Try.underlying77 rfl HR.out.2 ?_
  rw [hXA]
  go_wp2_with fail
  exact bodyPost_ret (v := rA (blk l) (.slice none 0 0)) (HRES.out _ _ rfl _ (by rw [World.size_alloc]; rfl)) rfl ⟨rfl, HB2.out⟩
end Go.Proofs.Ytgkelbdgdhkeoaa
