/- The reference's value, walked. -/
import Derived.Test.YtgkelbdgdhkeoaaCmdR4
namespace Go.Proofs.Ytgkelbdgdhkeoaa
open Go.RowKit
set_option linter.unusedVariables false
set_option linter.unusedSimpArgs false
open Wire Cmd

/-- The result's cell, behind another block, after a call. -/
theorem thereV {w w2 : World} {c : Obj} (hb : Below (w.heap.size + 1 + 1) ((w.alloc c).alloc (.cells Try.zeroCells136 136)) w2) : w2.there (w.heap.size + 1) 0 260 := fun j hj => by
  have h := heap_alloc_new (w.alloc c) (.cells Try.zeroCells136 136)
  rw [World.size_alloc] at h
  have h2 := (hb.block (w.heap.size + 1) (Nat.lt_succ_self _)).trans h
  rw [Nat.zero_add]
  refine ⟨?_, frozenOf h2 j⟩
  have hz := zsz2
  rw [cell_of_row w2 _ j _ _ _ h2, Array.getElem?_eq_getElem (by omega)]; rfl
theorem rC_info {v : V} {sl : Value} (hx : v.x.length = 256) : (Try.prog.info? 136).map (·.size) = some (rC v sl).length := by rw [rC_len hx]; exact infoRV


set_option maxRecDepth 100000 in
set_option maxHeartbeats 6400000 in
theorem rvalue_any (o : Op0) (c : UInt8) (hc : c = 118 ∨ c = 116 ∨ c = 115 ∨ c = 97 ∨ c = 99 ∨ c = 100) (sl : Value) (w0 w : World) (hd : Rd w0 1 sl o.data.length (bV o.data)) :
    Calls Try.prog 92 #[.agg (oC o sl), .int .u8 (c.toNat : Int)] w fun e w' => ∃ sl', e = .returned (rA (vaL (c.toNat : Int) o) sl') ∧ Rd w0 1 sl' (vaL (c.toNat : Int) o).b.length (bV (vaL (c.toNat : Int) o).b) ∧ Below w.heap.size w w' := by
  obtain ⟨k1, v1, t1, s1, p1, c1, d1⟩ := o
  have hb := balloc (balloc (Below.refl _ w) (.cells (oC ⟨k1, v1, t1, s1, p1, c1, d1⟩ sl) 26)) (.cells Try.zeroCells136 136)
  unfold oC at *
  dsimp only at hb hd ⊢
  have HB0 := Lib.hid hb
  have HDD := Lib.hid hd
  clear hb
  obtain ⟨ao, cap, rfl, _⟩ := hd
  have hwz := u64_wrap s1
  have hwp := u64_wrap p1
  have hwc := u64_wrap c1
  rcases hc with rfl | rfl | rfl | rfl | rfl | rfl
  · have HVA : Hid (vaL (((118 : UInt8).toNat : Nat) : Int) (⟨k1, v1, t1, s1, p1, c1, d1⟩ : Op0) = num (v1)) := Lib.hid rfl
    generalize hvl : vaL (((118 : UInt8).toNat : Nat) : Int) (⟨k1, v1, t1, s1, p1, c1, d1⟩ : Op0) = vl at *
    rw [show (((118 : UInt8).toNat : Nat) : Int) = 118 from rfl] at *
    clear hvl
    generalize v1 = q at *
    have HMK := Lib.hid (mk_num q)
    have HONE := Lib.hid (rC_one' (v := num q) (sl := .slice none 0 0) (by rfl))
    have HLEN : Hid ((rC (num q) (.slice none 0 0)).length = 260) := Lib.hid (rC_len rep256)
    have HRD : Hid (Rd w0 1 (.slice none 0 0) (num q).b.length (bV (num q).b)) := Lib.hid (Rd.of_own (World.ownsRow_nil w0 0 5 1))
    obtain ⟨u, hu⟩ : ∃ u, num q = u := ⟨_, rfl⟩
    obtain ⟨us, hus⟩ : ∃ us, Value.slice none 0 0 = us := ⟨_, rfl⟩
    rw [hu, hus] at HONE HLEN HRD
    rw [hu] at HVA
    have HMK2 : Hid (∀ W, Calls Try.prog 90 #[.int .u64 (q : Int)] W fun e w' => e = .returned (rA u us) ∧ Below W.heap.size W w') := Lib.hid (by rw [← hu, ← hus]; exact HMK.out)
    clear HMK hu hus
    have hzz := zsz2
    go_enter Try.func92, Try.ntmps92
    go_wp2_with fail
    refine (HMK2.out _).mono ?_
    rintro e w2 ⟨rfl, hb2⟩
    have HTH0 := Lib.hid (thereV (by simpa using hb2))
    have HB2 := Lib.hid (bthen HB0.out hb2)
    have HR0 : Hid (∃ RC : List Value, rA u us = .agg RC.toArray ∧ RC.length = 260 ∧ (∀ z ∈ RC, z.oneCell' = true)) := Lib.hid ⟨_, rfl, HLEN.out, HONE.out⟩
    obtain ⟨RC, hRC, hrl, hone⟩ := HR0.out
    have HRC := Lib.hid hRC
    rw [hRC]
    have he260 : RC.toArray.size = 260 := by rw [List.size_toArray]; exact hrl
    have HTH : Hid (w2.there (w.heap.size + 1) 0 RC.toArray.size) := Lib.hid (by rw [he260]; exact HTH0.out)
    have HI2 : Hid ((Try.prog.info? 136).map (·.size) = some RC.toArray.size) := Lib.hid (by rw [List.size_toArray, hrl]; exact infoRV)
    have HI1 : Hid ((Try.prog.info? 136).map (·.size) = some RC.length) := Lib.hid (by rw [hrl]; exact infoRV)
    have HO1 := Lib.hid (all_oneCell_toArray hone)
    have hres : Hid (∀ {fn : Func} {p : Tmp} (h : fn.results = #[.cell p 136]) (tmps : Array Value) (hp : tmps.getD p undef = .pointer (some ⟨w.heap.size + 1, 0, none⟩)), (results fn tmps).run Try.prog (w2.setCells (w.heap.size + 1) 0 RC) = .ok (.agg RC.toArray) (w2.setCells (w.heap.size + 1) 0 RC)) := Lib.hid (fun h tmps hp => results_cell_mid h tmps _ (w.heap.size + 1) 0 RC _ hp (World.rangeAt_setCells_same w2 _ 0 RC (by rw [hrl]; exact HTH0.out)) Try.underlying136 rfl HI1.out)
    clear hRC hone hb2 he260
    go_wp2_with (first
      | (refine wpList_store_mid rfl 136 _ _ rfl (w.heap.size + 1) 0 RC.toArray rfl rfl HTH.out HI2.out HO1.out ?_))
    exact bodyPost_ret (v := .agg RC.toArray) (hres.out rfl _ rfl) rfl ⟨us, by rw [← HRC.out, HVA.out], by rw [HVA.out]; exact HRD.out, belowSetC (by omega) _ _ _ HB2.out⟩
  · have HVA : Hid (vaL (((116 : UInt8).toNat : Nat) : Int) (⟨k1, v1, t1, s1, p1, c1, d1⟩ : Op0) = num (t1)) := Lib.hid rfl
    generalize hvl : vaL (((116 : UInt8).toNat : Nat) : Int) (⟨k1, v1, t1, s1, p1, c1, d1⟩ : Op0) = vl at *
    rw [show (((116 : UInt8).toNat : Nat) : Int) = 116 from rfl] at *
    clear hvl
    generalize t1 = q at *
    have HMK := Lib.hid (mk_num q)
    have HONE := Lib.hid (rC_one' (v := num q) (sl := .slice none 0 0) (by rfl))
    have HLEN : Hid ((rC (num q) (.slice none 0 0)).length = 260) := Lib.hid (rC_len rep256)
    have HRD : Hid (Rd w0 1 (.slice none 0 0) (num q).b.length (bV (num q).b)) := Lib.hid (Rd.of_own (World.ownsRow_nil w0 0 5 1))
    obtain ⟨u, hu⟩ : ∃ u, num q = u := ⟨_, rfl⟩
    obtain ⟨us, hus⟩ : ∃ us, Value.slice none 0 0 = us := ⟨_, rfl⟩
    rw [hu, hus] at HONE HLEN HRD
    rw [hu] at HVA
    have HMK2 : Hid (∀ W, Calls Try.prog 90 #[.int .u64 (q : Int)] W fun e w' => e = .returned (rA u us) ∧ Below W.heap.size W w') := Lib.hid (by rw [← hu, ← hus]; exact HMK.out)
    clear HMK hu hus
    have hzz := zsz2
    go_enter Try.func92, Try.ntmps92
    go_wp2_with fail
    refine (HMK2.out _).mono ?_
    rintro e w2 ⟨rfl, hb2⟩
    have HTH0 := Lib.hid (thereV (by simpa using hb2))
    have HB2 := Lib.hid (bthen HB0.out hb2)
    have HR0 : Hid (∃ RC : List Value, rA u us = .agg RC.toArray ∧ RC.length = 260 ∧ (∀ z ∈ RC, z.oneCell' = true)) := Lib.hid ⟨_, rfl, HLEN.out, HONE.out⟩
    obtain ⟨RC, hRC, hrl, hone⟩ := HR0.out
    have HRC := Lib.hid hRC
    rw [hRC]
    have he260 : RC.toArray.size = 260 := by rw [List.size_toArray]; exact hrl
    have HTH : Hid (w2.there (w.heap.size + 1) 0 RC.toArray.size) := Lib.hid (by rw [he260]; exact HTH0.out)
    have HI2 : Hid ((Try.prog.info? 136).map (·.size) = some RC.toArray.size) := Lib.hid (by rw [List.size_toArray, hrl]; exact infoRV)
    have HI1 : Hid ((Try.prog.info? 136).map (·.size) = some RC.length) := Lib.hid (by rw [hrl]; exact infoRV)
    have HO1 := Lib.hid (all_oneCell_toArray hone)
    have hres : Hid (∀ {fn : Func} {p : Tmp} (h : fn.results = #[.cell p 136]) (tmps : Array Value) (hp : tmps.getD p undef = .pointer (some ⟨w.heap.size + 1, 0, none⟩)), (results fn tmps).run Try.prog (w2.setCells (w.heap.size + 1) 0 RC) = .ok (.agg RC.toArray) (w2.setCells (w.heap.size + 1) 0 RC)) := Lib.hid (fun h tmps hp => results_cell_mid h tmps _ (w.heap.size + 1) 0 RC _ hp (World.rangeAt_setCells_same w2 _ 0 RC (by rw [hrl]; exact HTH0.out)) Try.underlying136 rfl HI1.out)
    clear hRC hone hb2 he260
    go_wp2_with (first
      | (refine wpList_store_mid rfl 136 _ _ rfl (w.heap.size + 1) 0 RC.toArray rfl rfl HTH.out HI2.out HO1.out ?_))
    exact bodyPost_ret (v := .agg RC.toArray) (hres.out rfl _ rfl) rfl ⟨us, by rw [← HRC.out, HVA.out], by rw [HVA.out]; exact HRD.out, belowSetC (by omega) _ _ _ HB2.out⟩
  · have HVA : Hid (vaL (((115 : UInt8).toNat : Nat) : Int) (⟨k1, v1, t1, s1, p1, c1, d1⟩ : Op0) = num (toU s1)) := Lib.hid rfl
    generalize hvl : vaL (((115 : UInt8).toNat : Nat) : Int) (⟨k1, v1, t1, s1, p1, c1, d1⟩ : Op0) = vl at *
    rw [show (((115 : UInt8).toNat : Nat) : Int) = 115 from rfl] at *
    clear hvl
    generalize toU s1 = q at *
    have HMK := Lib.hid (mk_num q)
    have HONE := Lib.hid (rC_one' (v := num q) (sl := .slice none 0 0) (by rfl))
    have HLEN : Hid ((rC (num q) (.slice none 0 0)).length = 260) := Lib.hid (rC_len rep256)
    have HRD : Hid (Rd w0 1 (.slice none 0 0) (num q).b.length (bV (num q).b)) := Lib.hid (Rd.of_own (World.ownsRow_nil w0 0 5 1))
    obtain ⟨u, hu⟩ : ∃ u, num q = u := ⟨_, rfl⟩
    obtain ⟨us, hus⟩ : ∃ us, Value.slice none 0 0 = us := ⟨_, rfl⟩
    rw [hu, hus] at HONE HLEN HRD
    rw [hu] at HVA
    have HMK2 : Hid (∀ W, Calls Try.prog 90 #[.int .u64 (q : Int)] W fun e w' => e = .returned (rA u us) ∧ Below W.heap.size W w') := Lib.hid (by rw [← hu, ← hus]; exact HMK.out)
    clear HMK hu hus
    have hzz := zsz2
    go_enter Try.func92, Try.ntmps92
    go_wp2_with fail
    refine (HMK2.out _).mono ?_
    rintro e w2 ⟨rfl, hb2⟩
    have HTH0 := Lib.hid (thereV (by simpa using hb2))
    have HB2 := Lib.hid (bthen HB0.out hb2)
    have HR0 : Hid (∃ RC : List Value, rA u us = .agg RC.toArray ∧ RC.length = 260 ∧ (∀ z ∈ RC, z.oneCell' = true)) := Lib.hid ⟨_, rfl, HLEN.out, HONE.out⟩
    obtain ⟨RC, hRC, hrl, hone⟩ := HR0.out
    have HRC := Lib.hid hRC
    rw [hRC]
    have he260 : RC.toArray.size = 260 := by rw [List.size_toArray]; exact hrl
    have HTH : Hid (w2.there (w.heap.size + 1) 0 RC.toArray.size) := Lib.hid (by rw [he260]; exact HTH0.out)
    have HI2 : Hid ((Try.prog.info? 136).map (·.size) = some RC.toArray.size) := Lib.hid (by rw [List.size_toArray, hrl]; exact infoRV)
    have HI1 : Hid ((Try.prog.info? 136).map (·.size) = some RC.length) := Lib.hid (by rw [hrl]; exact infoRV)
    have HO1 := Lib.hid (all_oneCell_toArray hone)
    have hres : Hid (∀ {fn : Func} {p : Tmp} (h : fn.results = #[.cell p 136]) (tmps : Array Value) (hp : tmps.getD p undef = .pointer (some ⟨w.heap.size + 1, 0, none⟩)), (results fn tmps).run Try.prog (w2.setCells (w.heap.size + 1) 0 RC) = .ok (.agg RC.toArray) (w2.setCells (w.heap.size + 1) 0 RC)) := Lib.hid (fun h tmps hp => results_cell_mid h tmps _ (w.heap.size + 1) 0 RC _ hp (World.rangeAt_setCells_same w2 _ 0 RC (by rw [hrl]; exact HTH0.out)) Try.underlying136 rfl HI1.out)
    clear hRC hone hb2 he260
    go_wp2_with (first
      | (refine wpList_store_mid rfl 136 _ _ rfl (w.heap.size + 1) 0 RC.toArray rfl rfl HTH.out HI2.out HO1.out ?_))
    exact bodyPost_ret (v := .agg RC.toArray) (hres.out rfl _ rfl) rfl ⟨us, by rw [← HRC.out, HVA.out], by rw [HVA.out]; exact HRD.out, belowSetC (by omega) _ _ _ HB2.out⟩
  · have HVA : Hid (vaL (((97 : UInt8).toNat : Nat) : Int) (⟨k1, v1, t1, s1, p1, c1, d1⟩ : Op0) = num (toU p1)) := Lib.hid rfl
    generalize hvl : vaL (((97 : UInt8).toNat : Nat) : Int) (⟨k1, v1, t1, s1, p1, c1, d1⟩ : Op0) = vl at *
    rw [show (((97 : UInt8).toNat : Nat) : Int) = 97 from rfl] at *
    clear hvl
    generalize toU p1 = q at *
    have HMK := Lib.hid (mk_num q)
    have HONE := Lib.hid (rC_one' (v := num q) (sl := .slice none 0 0) (by rfl))
    have HLEN : Hid ((rC (num q) (.slice none 0 0)).length = 260) := Lib.hid (rC_len rep256)
    have HRD : Hid (Rd w0 1 (.slice none 0 0) (num q).b.length (bV (num q).b)) := Lib.hid (Rd.of_own (World.ownsRow_nil w0 0 5 1))
    obtain ⟨u, hu⟩ : ∃ u, num q = u := ⟨_, rfl⟩
    obtain ⟨us, hus⟩ : ∃ us, Value.slice none 0 0 = us := ⟨_, rfl⟩
    rw [hu, hus] at HONE HLEN HRD
    rw [hu] at HVA
    have HMK2 : Hid (∀ W, Calls Try.prog 90 #[.int .u64 (q : Int)] W fun e w' => e = .returned (rA u us) ∧ Below W.heap.size W w') := Lib.hid (by rw [← hu, ← hus]; exact HMK.out)
    clear HMK hu hus
    have hzz := zsz2
    go_enter Try.func92, Try.ntmps92
    go_wp2_with fail
    refine (HMK2.out _).mono ?_
    rintro e w2 ⟨rfl, hb2⟩
    have HTH0 := Lib.hid (thereV (by simpa using hb2))
    have HB2 := Lib.hid (bthen HB0.out hb2)
    have HR0 : Hid (∃ RC : List Value, rA u us = .agg RC.toArray ∧ RC.length = 260 ∧ (∀ z ∈ RC, z.oneCell' = true)) := Lib.hid ⟨_, rfl, HLEN.out, HONE.out⟩
    obtain ⟨RC, hRC, hrl, hone⟩ := HR0.out
    have HRC := Lib.hid hRC
    rw [hRC]
    have he260 : RC.toArray.size = 260 := by rw [List.size_toArray]; exact hrl
    have HTH : Hid (w2.there (w.heap.size + 1) 0 RC.toArray.size) := Lib.hid (by rw [he260]; exact HTH0.out)
    have HI2 : Hid ((Try.prog.info? 136).map (·.size) = some RC.toArray.size) := Lib.hid (by rw [List.size_toArray, hrl]; exact infoRV)
    have HI1 : Hid ((Try.prog.info? 136).map (·.size) = some RC.length) := Lib.hid (by rw [hrl]; exact infoRV)
    have HO1 := Lib.hid (all_oneCell_toArray hone)
    have hres : Hid (∀ {fn : Func} {p : Tmp} (h : fn.results = #[.cell p 136]) (tmps : Array Value) (hp : tmps.getD p undef = .pointer (some ⟨w.heap.size + 1, 0, none⟩)), (results fn tmps).run Try.prog (w2.setCells (w.heap.size + 1) 0 RC) = .ok (.agg RC.toArray) (w2.setCells (w.heap.size + 1) 0 RC)) := Lib.hid (fun h tmps hp => results_cell_mid h tmps _ (w.heap.size + 1) 0 RC _ hp (World.rangeAt_setCells_same w2 _ 0 RC (by rw [hrl]; exact HTH0.out)) Try.underlying136 rfl HI1.out)
    clear hRC hone hb2 he260
    go_wp2_with (first
      | (refine wpList_store_mid rfl 136 _ _ rfl (w.heap.size + 1) 0 RC.toArray rfl rfl HTH.out HI2.out HO1.out ?_))
    exact bodyPost_ret (v := .agg RC.toArray) (hres.out rfl _ rfl) rfl ⟨us, by rw [← HRC.out, HVA.out], by rw [HVA.out]; exact HRD.out, belowSetC (by omega) _ _ _ HB2.out⟩
  · have HVA : Hid (vaL (((99 : UInt8).toNat : Nat) : Int) (⟨k1, v1, t1, s1, p1, c1, d1⟩ : Op0) = num (toU c1)) := Lib.hid rfl
    generalize hvl : vaL (((99 : UInt8).toNat : Nat) : Int) (⟨k1, v1, t1, s1, p1, c1, d1⟩ : Op0) = vl at *
    rw [show (((99 : UInt8).toNat : Nat) : Int) = 99 from rfl] at *
    clear hvl
    generalize toU c1 = q at *
    have HMK := Lib.hid (mk_num q)
    have HONE := Lib.hid (rC_one' (v := num q) (sl := .slice none 0 0) (by rfl))
    have HLEN : Hid ((rC (num q) (.slice none 0 0)).length = 260) := Lib.hid (rC_len rep256)
    have HRD : Hid (Rd w0 1 (.slice none 0 0) (num q).b.length (bV (num q).b)) := Lib.hid (Rd.of_own (World.ownsRow_nil w0 0 5 1))
    obtain ⟨u, hu⟩ : ∃ u, num q = u := ⟨_, rfl⟩
    obtain ⟨us, hus⟩ : ∃ us, Value.slice none 0 0 = us := ⟨_, rfl⟩
    rw [hu, hus] at HONE HLEN HRD
    rw [hu] at HVA
    have HMK2 : Hid (∀ W, Calls Try.prog 90 #[.int .u64 (q : Int)] W fun e w' => e = .returned (rA u us) ∧ Below W.heap.size W w') := Lib.hid (by rw [← hu, ← hus]; exact HMK.out)
    clear HMK hu hus
    have hzz := zsz2
    go_enter Try.func92, Try.ntmps92
    go_wp2_with fail
    refine (HMK2.out _).mono ?_
    rintro e w2 ⟨rfl, hb2⟩
    have HTH0 := Lib.hid (thereV (by simpa using hb2))
    have HB2 := Lib.hid (bthen HB0.out hb2)
    have HR0 : Hid (∃ RC : List Value, rA u us = .agg RC.toArray ∧ RC.length = 260 ∧ (∀ z ∈ RC, z.oneCell' = true)) := Lib.hid ⟨_, rfl, HLEN.out, HONE.out⟩
    obtain ⟨RC, hRC, hrl, hone⟩ := HR0.out
    have HRC := Lib.hid hRC
    rw [hRC]
    have he260 : RC.toArray.size = 260 := by rw [List.size_toArray]; exact hrl
    have HTH : Hid (w2.there (w.heap.size + 1) 0 RC.toArray.size) := Lib.hid (by rw [he260]; exact HTH0.out)
    have HI2 : Hid ((Try.prog.info? 136).map (·.size) = some RC.toArray.size) := Lib.hid (by rw [List.size_toArray, hrl]; exact infoRV)
    have HI1 : Hid ((Try.prog.info? 136).map (·.size) = some RC.length) := Lib.hid (by rw [hrl]; exact infoRV)
    have HO1 := Lib.hid (all_oneCell_toArray hone)
    have hres : Hid (∀ {fn : Func} {p : Tmp} (h : fn.results = #[.cell p 136]) (tmps : Array Value) (hp : tmps.getD p undef = .pointer (some ⟨w.heap.size + 1, 0, none⟩)), (results fn tmps).run Try.prog (w2.setCells (w.heap.size + 1) 0 RC) = .ok (.agg RC.toArray) (w2.setCells (w.heap.size + 1) 0 RC)) := Lib.hid (fun h tmps hp => results_cell_mid h tmps _ (w.heap.size + 1) 0 RC _ hp (World.rangeAt_setCells_same w2 _ 0 RC (by rw [hrl]; exact HTH0.out)) Try.underlying136 rfl HI1.out)
    clear hRC hone hb2 he260
    go_wp2_with (first
      | (refine wpList_store_mid rfl 136 _ _ rfl (w.heap.size + 1) 0 RC.toArray rfl rfl HTH.out HI2.out HO1.out ?_))
    exact bodyPost_ret (v := .agg RC.toArray) (hres.out rfl _ rfl) rfl ⟨us, by rw [← HRC.out, HVA.out], by rw [HVA.out]; exact HRD.out, belowSetC (by omega) _ _ _ HB2.out⟩
  · have HVA : Hid (vaL (((100 : UInt8).toNat : Nat) : Int) (⟨k1, v1, t1, s1, p1, c1, d1⟩ : Op0) = blob d1) := Lib.hid rfl
    generalize hvl : vaL (((100 : UInt8).toNat : Nat) : Int) (⟨k1, v1, t1, s1, p1, c1, d1⟩ : Op0) = vl at *
    rw [show (((100 : UInt8).toNat : Nat) : Int) = 100 from rfl] at *
    clear hvl
    have HMK := Lib.hid (mk_blob ao d1.length cap d1)
    have HONE := Lib.hid (rC_one' (v := blob d1) (sl := .slice ao d1.length cap) (by rfl))
    have HLEN : Hid ((rC (blob d1) (.slice ao d1.length cap)).length = 260) := Lib.hid (rC_len rep256)
    have HRD : Hid (Rd w0 1 (.slice ao d1.length cap) (blob d1).b.length (bV (blob d1).b)) := HDD
    obtain ⟨u, hu⟩ : ∃ u, blob d1 = u := ⟨_, rfl⟩
    obtain ⟨us, hus⟩ : ∃ us, Value.slice ao d1.length cap = us := ⟨_, rfl⟩
    rw [hu, hus] at HONE HLEN HRD
    rw [hu] at HVA
    have HMK2 : Hid (∀ W, Calls Try.prog 95 #[.slice ao d1.length cap] W fun e w' => e = .returned (rA u us) ∧ Below W.heap.size W w') := Lib.hid (by rw [← hu, ← hus]; exact HMK.out)
    clear HMK hu hus
    have hzz := zsz2
    go_enter Try.func92, Try.ntmps92
    go_wp2_with fail
    refine (HMK2.out _).mono ?_
    rintro e w2 ⟨rfl, hb2⟩
    have HTH0 := Lib.hid (thereV (by simpa using hb2))
    have HB2 := Lib.hid (bthen HB0.out hb2)
    have HR0 : Hid (∃ RC : List Value, rA u us = .agg RC.toArray ∧ RC.length = 260 ∧ (∀ z ∈ RC, z.oneCell' = true)) := Lib.hid ⟨_, rfl, HLEN.out, HONE.out⟩
    obtain ⟨RC, hRC, hrl, hone⟩ := HR0.out
    have HRC := Lib.hid hRC
    rw [hRC]
    have he260 : RC.toArray.size = 260 := by rw [List.size_toArray]; exact hrl
    have HTH : Hid (w2.there (w.heap.size + 1) 0 RC.toArray.size) := Lib.hid (by rw [he260]; exact HTH0.out)
    have HI2 : Hid ((Try.prog.info? 136).map (·.size) = some RC.toArray.size) := Lib.hid (by rw [List.size_toArray, hrl]; exact infoRV)
    have HI1 : Hid ((Try.prog.info? 136).map (·.size) = some RC.length) := Lib.hid (by rw [hrl]; exact infoRV)
    have HO1 := Lib.hid (all_oneCell_toArray hone)
    have hres : Hid (∀ {fn : Func} {p : Tmp} (h : fn.results = #[.cell p 136]) (tmps : Array Value) (hp : tmps.getD p undef = .pointer (some ⟨w.heap.size + 1, 0, none⟩)), (results fn tmps).run Try.prog (w2.setCells (w.heap.size + 1) 0 RC) = .ok (.agg RC.toArray) (w2.setCells (w.heap.size + 1) 0 RC)) := Lib.hid (fun h tmps hp => results_cell_mid h tmps _ (w.heap.size + 1) 0 RC _ hp (World.rangeAt_setCells_same w2 _ 0 RC (by rw [hrl]; exact HTH0.out)) Try.underlying136 rfl HI1.out)
    clear hRC hone hb2 he260
    go_wp2_with (first
      | (refine wpList_store_mid rfl 136 _ _ rfl (w.heap.size + 1) 0 RC.toArray rfl rfl HTH.out HI2.out HO1.out ?_))
    exact bodyPost_ret (v := .agg RC.toArray) (hres.out rfl _ rfl) rfl ⟨us, by rw [← HRC.out, HVA.out], by rw [HVA.out]; exact HRD.out, belowSetC (by omega) _ _ _ HB2.out⟩
end Go.Proofs.Ytgkelbdgdhkeoaa
