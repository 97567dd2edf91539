/- message.Bytes, walked. -/
import Derived.Test.YtgkelbdgdhkeoaaSMsg28
namespace Go.Proofs.Ytgkelbdgdhkeoaa
open Go.RowKit
set_option linter.unusedVariables false
set_option linter.unusedSimpArgs false
open Wire Cmd
theorem row_two (W : World) (B b : Nat) (hb : W.heap.size = b) (hB : B ≤ b) (x y : Nat) (hx : x < 18446744073709551616) (hy : y < 18446744073709551616) : RowV B (W.alloc (.cells #[.iface 23 (.int .u64 (x : Int)), .iface 23 (.int .u64 (y : Int))] 20)) (.slice (some ⟨b, 0, none⟩) 2 2) [num x, num y] :=
 row_new W B b hb hB [.iface 23 (.int .u64 (x : Int)), .iface 23 (.int .u64 (y : Int))] 2 rfl (by omega) rfl (fun W' => .cons (oany_num _ _ hx) (.cons (oany_num _ _ hy) .nil))
theorem shapeC_len (c k : Int) : (shapeC c k).length ≤ 6 := by unfold shapeC shapeI; (repeat' split) <;> decide
theorem shapeM_len2 (m : Ms0) : ∀ l : List UInt8, (shapeM m l).length ≤ 2 + 6 * l.length
 | [] => by simp [shapeM]
 | c :: l => by
  have h := shapeM_len2 m l
  have h2 := shapeC_len (c.toNat : Int) m.item.k
  simp only [shapeM, List.length_append, List.flatMap_cons, List.length_cons] at h ⊢
  omega
theorem ite_len {n : Nat} {p : Prop} [Decidable p] {a b : List V} (ha : a.length ≤ n) (hb : b.length ≤ n) : (if p then a else b).length ≤ n := by by_cases h : p <;> simp [h, ha, hb]
theorem valI_len (i : It0) : (valI i).length ≤ 6 := by
 unfold valI
 rw [List.length_cons]
 have : ∀ l : List V, l.length ≤ 5 → l.length + 1 ≤ 6 := fun l h => by omega
 exact this _ (ite_len (by simp) (ite_len (by simp) (ite_len (by simp) (ite_len (by simp) (by simp)))))
theorem valC_len (c : Int) (m : Ms0) : (valC c m).length ≤ 6 := by
 unfold valC
 exact ite_len (by simp) (ite_len (by simp) (ite_len (by simp) (ite_len (by simp) (ite_len (by simp) (ite_len (by simp) (ite_len (by simp) (ite_len (valI_len _) (by simp))))))))
theorem valM_len (m : Ms0) : ∀ l : List UInt8, (valM m l).length ≤ 2 + 6 * l.length
 | [] => by simp [valM]
 | c :: l => by
  have h := valM_len m l
  have h2 := valC_len (c.toNat : Int) m
  simp only [valM, List.length_append, List.flatMap_cons, List.length_cons] at h ⊢
  omega
/-- The row behind a round's append. -/
theorem BytesM.app {K : Nat} {w : World} {m : Ms0} {AL : List Value} {pos q : Nat} {vs v5 : Value} {W W5 : World} {c : UInt8} {xs xs2 : List Value} (h : BytesM K w m AL pos vs q W) (hc : (nmM m.k).take (q + 1) = (nmM m.k).take q ++ [c]) (ho : W.ownsRow (w.heap.size + 1) 20 1 vs (valM m ((nmM m.k).take q)).length xs) (hx : ∀ (j : Nat) (x : V), (valM m ((nmM m.k).take q))[j]? = some x → ∃ u, xs[j]? = some u ∧ AnyO 0 W u x)
  (hn2 : xs2.length = (valC (c.toNat : Int) m).length) (hx2 : ∀ (j : Nat) (x : V), (valC (c.toNat : Int) m)[j]? = some x → ∃ u, xs2[j]? = some u ∧ AnyO 0 W u x)
  (ho5 : W5.ownsRow (w.heap.size + 1) 20 1 v5 ((valM m ((nmM m.k).take q)).length + (valC (c.toNat : Int) m).length) (xs ++ xs2)) (hb : Below (w.heap.size + 1) W W5) (hg : W.grownBy W5 vs.ownBlock) : BytesM K w m AL pos v5 (q + 1) W5 := by
 obtain ⟨h1, h2, h3, h5, h6⟩ := h
 have hk := (Array.getElem?_eq_some_iff.1 h1).1
 refine ⟨(hg.block K hk (fun e => ?_)).trans h1, (hb.block _ (Nat.lt_succ_self _)).trans h2, ?_, h5.trans (hb.mono (Nat.le_succ _)), h6⟩
 ·obtain ⟨cs, f, h⟩ := own_tag ho K (by unfold ob; rw [Option.mem_toList]; exact e.symm)
  rw [h1] at h
  cases h
 ·rw [hc, valM_snoc]
  exact rowV_app ho hx hn2 hx2 ho5 hg
set_option maxRecDepth 100000 in
set_option maxHeartbeats 6400000 in
theorem bytesM_any (m : Ms0) (ok : m.Ok) (s1 s2 : Value) (w : World) (hd1 : Rd w 1 s1 m.op.data.length (bV m.op.data)) (hd2 : Rd w 1 s2 m.item.op.data.length (bV m.item.op.data)) :
  Calls Try.prog 49 #[.agg (msL m s1 s2).toArray] w (PackP w (packM m)) := by
 have HOK := Lib.hid ok
 obtain ⟨AL, hAL⟩ : ∃ L, msL m s1 s2 = L := ⟨_, rfl⟩
 have HIM : Hid ((Try.prog.info? 81).map (·.size) = some AL.length) := Lib.hid (by rw [← hAL, msL_len ok.item.data]; exact infoMs)
 have HMA : Hid (∀ X : World, X.heap[w.heap.size]? = some (.cells AL.toArray 81 (0, 0)) → MsAt X w.heap.size m s1 s2 ∧ X.rangeAt w.heap.size 0 AL) := Lib.hid (fun X hX => ⟨ms_at (fun j u hj => by
  rw [Nat.zero_add]
  rw [hAL] at hj
  exact cellIs hX (by simpa using hj)), fun j u hj => by
  rw [Nat.zero_add]
  exact cellIs hX (by simpa using hj)⟩)
 have HB0 : Hid (Below w.heap.size w (w.alloc (.cells AL.toArray 81))) := Lib.hid (balloc (Below.refl _ _) _)
 have HX0 : Hid ((w.alloc (.cells AL.toArray 81)).heap[w.heap.size]? = some (.cells AL.toArray 81 (0, 0))) := Lib.hid (heap_alloc_new w _)
 have CM : Hid (∀ W : World, Below w.heap.size w W → Calls Try.prog 75 #[.agg AL.toArray] W fun e w' => e = .returned (.bool (mayM m)) ∧ Below W.heap.size W w') := Lib.hid (fun W hW => by
  rw [← hAL]
  exact mayM_any m ok s1 s2 W (hd1.below hW) (hd2.below hW))
 have HRC : Hid ((w.alloc (.cells AL.toArray 81)).rangeAt w.heap.size 0 AL) := Lib.hid (HMA.out _ HX0.out).2
 have CV : Hid (mayM m = true → ∀ (c : Int) (W : World), Below w.heap.size w W → Calls Try.prog 105 #[.int .i32 c, .agg AL.toArray] W fun e w' => ∃ v, e = .returned v ∧ RowV W.heap.size w' v (valC c m) ∧ Below W.heap.size W w') := Lib.hid (fun hmay c W hW => by
  have hs := mayM_small hmay
  rw [← hAL]
  exact valC_any c m ok s1 s2 W (hd1.below hW) (hd2.below hW) (by omega) (by omega))
 rw [hAL]
 clear ok hd1 hd2 hAL
 obtain ⟨y, hy⟩ : ∃ y, mayM m = y := ⟨_, rfl⟩
 cases y with
 | false =>
  have HE : Hid (packM m = none) := Lib.hid (by unfold packM; rw [hy]; rfl)
  rw [hy] at CM
  clear hy
  go_enter Try.func49, Try.ntmps49
  go_wp2_with (refine wpList_load_mid rfl 81 _ rfl w.heap.size 0 rfl AL _ HRC.out Try.underlying81 rfl HIM.out ?_)
  refine (CM.out _ HB0.out).mono ?_
  rintro e w1 ⟨rfl, hb1⟩
  have HB1 := Lib.hid (bthen HB0.out hb1)
  clear hb1
  go_wp2_with fail
  go_ret2
  exact PackP.none_of HE.out rfl HB1.out
 | true =>
  have HE : Hid (packM m = pack (shapeM m (nmM m.k)) (valM m (nmM m.k))) := Lib.hid (by unfold packM; rw [hy, if_pos rfl])
  have CV2 := Lib.hid (CV.out hy)
  have HVB := Lib.hid (valM_b hy)
  rw [hy] at CM
  clear hy CV
  go_enter Try.func49, Try.ntmps49
  go_wp2_with (refine wpList_load_mid rfl 81 _ rfl w.heap.size 0 rfl AL _ HRC.out Try.underlying81 rfl HIM.out ?_)
  refine (CM.out _ HB0.out).mono ?_
  rintro e w1 ⟨rfl, hb1⟩
  have HB1 := Lib.hid (bthen HB0.out hb1)
  have HX1 : Hid (w1.heap[w.heap.size]? = some (.cells AL.toArray 81 (0, 0))) := Lib.hid ((hb1.block w.heap.size (by simp)).trans HX0.out)
  have HZ1 : Hid (w.heap.size < w1.heap.size) := Lib.hid (Array.getElem?_eq_some_iff.1 HX1.out).1
  have hwk := u64_wrap m.k
  have h0 := (HMA.out w1.drew HX1.out).1.c0
  have h1 := (HMA.out w1.drew HX1.out).1.c1
  clear hb1
  go_upto_region 3 with fail
  refine wp_region_held_drew (S := fun X => X.cell? ⟨w.heap.size, 0, none⟩ = some (.int .i64 m.k) ∧ X.cell? ⟨w.heap.size, 1, none⟩ = some (.int .u64 (m.epoch : Int))) (by kernel_rfl) ⟨h0, h1⟩ (fun hHeld => ?_)
  refine wpAnyH_take (i := 0) (v := ?_) rfl (by kernel_rfl) (by kernel_rfl) (by kernel_rfl) (fun _ _ _ h => h) (Or.inl ⟨by rfl, ?_⟩) (by assumption) ?_
  rotate_left
  ·(intro w hSw; (try dsimp only at hSw); simp only [List.getElem_toArray, List.getElem_cons_zero, List.getElem_cons_succ]; go_simp; first | done | with_reducible rfl)
  simp only [List.getElem_toArray, List.getElem_cons_zero, List.getElem_cons_succ, Act.put, List.setIfInBounds_toArray, List.set_cons_zero, List.set_cons_succ]
  refine wpAnyH_take (i := 1) (v := ?_) rfl (by kernel_rfl) (by kernel_rfl) (by kernel_rfl) (fun _ _ _ h => h) (Or.inl ⟨by rfl, ?_⟩) (by assumption) ?_
  rotate_left
  ·(intro w hSw; (try dsimp only at hSw); simp only [List.getElem_toArray, List.getElem_cons_zero, List.getElem_cons_succ]; go_simp; first | done | with_reducible rfl)
  simp only [List.getElem_toArray, List.getElem_cons_zero, List.getElem_cons_succ, Act.put, List.setIfInBounds_toArray, List.set_cons_zero, List.set_cons_succ]
  refine wpAnyH_take (i := 2) (v := ?_) rfl (by kernel_rfl) (by kernel_rfl) (by kernel_rfl) (fun _ _ _ h => h) (Or.inl ⟨by rfl, ?_⟩) (by assumption) ?_
  rotate_left
  ·(intro w hSw; (try dsimp only at hSw); simp only [List.getElem_toArray, List.getElem_cons_zero, List.getElem_cons_succ]; go_simp; first | done | with_reducible rfl)
  simp only [List.getElem_toArray, List.getElem_cons_zero, List.getElem_cons_succ, Act.put, List.setIfInBounds_toArray, List.set_cons_zero, List.set_cons_succ]
  refine wpAnyH_take (i := 3) (v := ?_) rfl (by kernel_rfl) (by kernel_rfl) (by kernel_rfl) (fun _ _ _ h => h) (Or.inl ⟨by rfl, ?_⟩) (by assumption) ?_
  rotate_left
  ·(intro w hSw; (try dsimp only at hSw); simp only [List.getElem_toArray, List.getElem_cons_zero, List.getElem_cons_succ]; go_simp; first | done | with_reducible rfl)
  simp only [List.getElem_toArray, List.getElem_cons_zero, List.getElem_cons_succ, Act.put, List.setIfInBounds_toArray, List.set_cons_zero, List.set_cons_succ]
  refine wpAnyH_take (i := 4) (v := ?_) rfl (by kernel_rfl) (by kernel_rfl) (by kernel_rfl) (fun _ _ _ h => h) (Or.inl ⟨by rfl, ?_⟩) (by assumption) ?_
  rotate_left
  ·(intro w hSw; (try dsimp only at hSw); simp only [List.getElem_toArray, List.getElem_cons_zero, List.getElem_cons_succ]; go_simp; first | done | with_reducible rfl)
  simp only [List.getElem_toArray, List.getElem_cons_zero, List.getElem_cons_succ, Act.put, List.setIfInBounds_toArray, List.set_cons_zero, List.set_cons_succ]
  refine wpAnyH_take (i := 5) (v := ?_) rfl (by kernel_rfl) (by kernel_rfl) (by kernel_rfl) (fun _ _ _ h => h) (Or.inl ⟨by rfl, ?_⟩) (by assumption) ?_
  rotate_left
  ·(intro w hSw; (try dsimp only at hSw); simp only [List.getElem_toArray, List.getElem_cons_zero, List.getElem_cons_succ]; go_simp; first | done | with_reducible rfl)
  simp only [List.getElem_toArray, List.getElem_cons_zero, List.getElem_cons_succ, Act.put, List.setIfInBounds_toArray, List.set_cons_zero, List.set_cons_succ]
  refine wpAnyH_take (i := 6) (v := ?_) rfl (by kernel_rfl) (by kernel_rfl) (by kernel_rfl) (fun _ _ _ h => h) (Or.inl ⟨by rfl, ?_⟩) (by assumption) ?_
  rotate_left
  ·(intro w hSw; (try dsimp only at hSw); simp only [List.getElem_toArray, List.getElem_cons_zero, List.getElem_cons_succ]; go_simp; first | done | with_reducible rfl)
  simp only [List.getElem_toArray, List.getElem_cons_zero, List.getElem_cons_succ, Act.put, List.setIfInBounds_toArray, List.set_cons_zero, List.set_cons_succ]
  refine wpAnyH_take (i := 8) (v := ?_) rfl (by kernel_rfl) (by kernel_rfl) (by kernel_rfl) (fun _ _ _ h => h) (Or.inl ⟨by rfl, ?_⟩) (by assumption) ?_
  rotate_left
  ·(intro w hSw; (try dsimp only at hSw); simp only [List.getElem_toArray, List.getElem_cons_zero, List.getElem_cons_succ]; go_simp; first | done | with_reducible rfl)
  simp only [List.getElem_toArray, List.getElem_cons_zero, List.getElem_cons_succ, Act.put, List.setIfInBounds_toArray, List.set_cons_zero, List.set_cons_succ]
  have hx2 : ((w1.alloc (.cells #[.iface 23 (.int .u64 ((toU m.k : Nat) : Int)), .iface 23 (.int .u64 (m.epoch : Int))] 20)).drew).heap[w.heap.size]? = some (.cells AL.toArray 81 (0, 0)) := (Below.heap_alloc _ _ _ HZ1.out).trans HX1.out
  have HX2 := Lib.hid hx2
  clear hx2
  refine wpAnyH_ready (rs := [7]) (by kernel_rfl) (by simp) ?_
  refine AllReadyH.cons rfl (fun K hK => ?_) AllReadyH.nil
  simp only [List.getElem_toArray, List.getElem_cons_zero, List.getElem_cons_succ]
  go_simp
  refine hK.out _ _ ?_ (fun hHeld => ?_)
  ·exact ⟨(HMA.out _ HX2.out).1.c0, (HMA.out _ HX2.out).1.c1⟩
  clear hK K
  try simp only [Act.put, List.setIfInBounds_toArray, List.set_cons_zero, List.set_cons_succ]
  refine wpAnyH_take (i := 9) (v := ?_) rfl (by kernel_rfl) (by kernel_rfl) (by kernel_rfl) (fun _ _ _ h => h) (Or.inl ⟨by rfl, ?_⟩) (by assumption) ?_
  rotate_left
  ·(intro w hSw; (try dsimp only at hSw); simp only [List.getElem_toArray, List.getElem_cons_zero, List.getElem_cons_succ]; go_simp; first | done | with_reducible rfl)
  simp only [List.getElem_toArray, List.getElem_cons_zero, List.getElem_cons_succ, Act.put, List.setIfInBounds_toArray, List.set_cons_zero, List.set_cons_succ]
  refine wpAnyH_done (by kernel_rfl) ?_ _
  clear hHeld h0 h1 hwk
  have HV2 := Lib.hid ((row_two w1 (w.heap.size + 1) w1.heap.size rfl HZ1.out (toU m.k) m.epoch (u64_lt _) HOK.out.epoch).below (Below.refl _ _).drew)
  have HB2 : Hid (Below w.heap.size w ((w1.alloc (.cells #[.iface 23 (.int .u64 ((toU m.k : Nat) : Int)), .iface 23 (.int .u64 (m.epoch : Int))] 20)).drew)) := Lib.hid (balloc HB1.out _).drew
  have hc0 := (HMA.out _ HX2.out).1.c0
  generalize (w1.alloc (.cells #[.iface 23 (.int .u64 ((toU m.k : Nat) : Int)), .iface 23 (.int .u64 (m.epoch : Int))] 20)).drew = w2 at *
  obtain ⟨v0, hv0⟩ : ∃ v : Value, .slice (some ⟨w1.heap.size, 0, none⟩) 2 2 = v := ⟨_, rfl⟩
  rw [hv0] at HV2
  rw [hv0]
  clear hv0
  go_wp2_with fail
  refine (namesM_any m.k _).mono ?_
  rintro e w3 ⟨rfl, hb3⟩
  clear hc0
  obtain ⟨K, hK⟩ : ∃ K, w3.heap.size = K := ⟨_, rfl⟩
  have HI : Hid (BytesM K w m AL 0 v0 0 (w3.iter (strB (nmM m.k)) 0)) := Lib.hid (by
   have hbi : Below w3.heap.size w3 (w3.iter (strB (nmM m.k)) 0) := balloc (Below.refl _ _) _
   have hb := bthen hb3 hbi
   have h2 := (Array.getElem?_eq_some_iff.1 HX2.out).1
   have h3 := hb3.size
   exact ⟨hK ▸ World.iter_heap w3 _ 0, (hb.block _ h2).trans HX2.out, HV2.out.below hb, HB2.out.trans (hb.mono HB2.out.size), by omega⟩)
  clear hb3
  go_wp2_with fail
  clear hK
  generalize w3.iter (strB (nmM m.k)) 0 = wi at HI ⊢
  have HL := Lib.hid (nmM_low m.k)
  have HCS := Lib.hid (chs_str (nmM m.k))
  have HSS := Lib.hid (str_size (nmM m.k))
  generalize hs : strB (nmM m.k) = s at *
  have HS := Lib.hid hs
  clear hs
  have hsz3 : s.size ≤ 3 := by rw [HSS.out]; exact nmM_len _
  clear HRC HX0 HB0 HX1 HZ1 HX2 HV2 HB2 CM
  go_loopg [4, 5] s.size (fun g sh vs wr => ∃ pos : Nat, pos ≤ s.size ∧ g = s.size - pos ∧ .string (strB (shapeM m ((nmM m.k).take pos))) = sh ∧ BytesM K w m AL pos vs pos wr)
  case atStart => exact ⟨0, by omega, by omega, rfl, HI.out⟩
  case round =>
   obtain ⟨pos, hp, hg, hsh, hm⟩ := hrel
   subst hsh
   have HG := Lib.hid hg
   have HM := Lib.hid hm
   have hit : wr.heap[K]? = some (.stringIter s pos) := by rw [← HS.out]; exact hm.it
   clear hg hm HI
   by_cases hlt : pos < s.size
   ·obtain ⟨c, hc⟩ : ∃ c, (s[pos]'hlt) = c := ⟨_, rfl⟩
    have hget : (nmM m.k)[pos]? = some c := by
     have h1 := chs_get hlt
     rw [HCS.out, hc] at h1; exact h1
    have hlow : c.toNat < 128 := HL.out c (List.mem_of_getElem? hget)
    have hdec : Utf8.decode s pos = (c.toNat, 1) := by rw [← hc]; exact decode_ascii s pos hlt (by rw [hc]; exact hlow)
    have hnx := fun ty => Lib.run_next_any_at (P := Try.prog) wr K s pos ty hit hlt
    simp only [hdec] at hnx
    have HM2 : Hid (BytesM K w m AL (pos + 1) u5 pos (wr.iterAt K s (pos + 1))) := Lib.hid (by rw [← HS.out]; exact HM.out.next)
    obtain ⟨wr2, hwr2⟩ : ∃ W, wr.iterAt K s (pos + 1) = W := ⟨_, rfl⟩
    rw [hwr2] at hnx HM2
    have HTK : Hid ((nmM m.k).take (pos + 1) = (nmM m.k).take pos ++ [c]) := Lib.hid (by rw [List.take_add_one, hget]; rfl)
    clear hwr2 hit hdec hc hget
    obtain ⟨xs, ho, hx⟩ := HM2.out.row
    have HMX := HMA.out wr2.drew HM2.out.bx
    have HLN : Hid ((valM m ((nmM m.k).take pos)).length ≤ 100) := Lib.hid (by
     have h1 := valM_len m ((nmM m.k).take pos)
     have h2 : ((nmM m.k).take pos).length ≤ (nmM m.k).length := by rw [List.length_take]; omega
     have h3 := nmM_len m.k
     omega)
    have HSZ : Hid (w.heap.size + 1 ≤ wr2.heap.size) := Lib.hid (Array.getElem?_eq_some_iff.1 HM2.out.bx).1
    have hk22 : wr2.drew.cell? ⟨w.heap.size, 22, none⟩ = some (.int .i64 m.item.k) := (it_at HMX.1.r22 HOK.out.item.data).c0
    have hr0 := HMX.2
    have HRS : Hid (∀ X Y : World, Below (w.heap.size + 1) X Y → (X.rangeAt w.heap.size 0 AL ∧ X.cell? ⟨w.heap.size, 22, none⟩ = some (.int .i64 m.item.k)) → (Y.rangeAt w.heap.size 0 AL ∧ Y.cell? ⟨w.heap.size, 22, none⟩ = some (.int .i64 m.item.k))) := Lib.hid (fun X Y hb h => ⟨rangeLow h.1 (Nat.lt_succ_self _) hb, (hb.cell (p := ⟨w.heap.size, 22, none⟩) (Nat.lt_succ_self _)).trans h.2⟩)
    clear HMX
    go_upto_region 7 with fail
    clear hnx
    refine wp_region_held_drew (S := fun X => X.rangeAt w.heap.size 0 AL ∧ X.cell? ⟨w.heap.size, 22, none⟩ = some (.int .i64 m.item.k)) (by kernel_rfl) ⟨hr0, hk22⟩ (fun hHeld => ?_)
    clear hr0 hk22
    refine wpAnyH_take (i := 0) (v := ?_) rfl (by kernel_rfl) (by kernel_rfl) (by kernel_rfl) (fun _ _ _ h => h) (Or.inl ⟨by rfl, ?_⟩) (by assumption) ?_
    rotate_left
    ·(intro w hSw; (try dsimp only at hSw); simp only [List.getElem_toArray, List.getElem_cons_zero, List.getElem_cons_succ]; go_simp; first | done | with_reducible rfl)
    simp only [List.getElem_toArray, List.getElem_cons_zero, List.getElem_cons_succ, Act.put, List.setIfInBounds_toArray, List.set_cons_zero, List.set_cons_succ]
    refine wpAnyH_take (i := 1) (v := ?_) rfl (by kernel_rfl) (by kernel_rfl) (by kernel_rfl) (fun _ _ _ h => h) (Or.inl ⟨by rfl, ?_⟩) (by assumption) ?_
    rotate_left
    ·(intro w hSw; (try dsimp only at hSw); simp only [List.getElem_toArray, List.getElem_cons_zero, List.getElem_cons_succ]; go_simp; first | done | with_reducible rfl)
    simp only [List.getElem_toArray, List.getElem_cons_zero, List.getElem_cons_succ, Act.put, List.setIfInBounds_toArray, List.set_cons_zero, List.set_cons_succ]
    refine wpAnyH_take (i := 2) (v := ?_) rfl (by kernel_rfl) (by kernel_rfl) (by kernel_rfl) (fun _ _ _ h => h) (Or.inl ⟨by rfl, ?_⟩) (by assumption) ?_
    rotate_left
    ·(intro w hSw; (try dsimp only at hSw); simp only [List.getElem_toArray, List.getElem_cons_zero, List.getElem_cons_succ]; go_simp; first | done | with_reducible rfl)
    simp only [List.getElem_toArray, List.getElem_cons_zero, List.getElem_cons_succ, Act.put, List.setIfInBounds_toArray, List.set_cons_zero, List.set_cons_succ]
    refine wpAnyH_take (i := 3) (v := ?_) rfl (by kernel_rfl) (by kernel_rfl) (by kernel_rfl) (fun _ _ _ h => h) (Or.inl ⟨by rfl, ?_⟩) (by assumption) ?_
    rotate_left
    ·(intro w hSw; (try dsimp only at hSw); simp only [List.getElem_toArray, List.getElem_cons_zero, List.getElem_cons_succ]; go_simp; first | done | with_reducible rfl)
    simp only [List.getElem_toArray, List.getElem_cons_zero, List.getElem_cons_succ, Act.put, List.setIfInBounds_toArray, List.set_cons_zero, List.set_cons_succ]
    refine wpAnyH_take (i := 4) (v := ?_) rfl (by kernel_rfl) (by kernel_rfl) (by kernel_rfl) (fun _ _ _ h => h) (Or.inl ⟨by rfl, ?_⟩) (by assumption) ?_
    rotate_left
    ·(intro w hSw; (try dsimp only at hSw); simp only [List.getElem_toArray, List.getElem_cons_zero, List.getElem_cons_succ]; go_simp; first | done | with_reducible rfl)
    simp only [List.getElem_toArray, List.getElem_cons_zero, List.getElem_cons_succ, Act.put, List.setIfInBounds_toArray, List.set_cons_zero, List.set_cons_succ]
    refine wpAnyH_take (i := 7) (v := ?_) rfl (by kernel_rfl) (by kernel_rfl) (by kernel_rfl) (fun _ _ _ h => h) (Or.inl ⟨by rfl, ?_⟩) (by assumption) ?_
    rotate_left
    ·(intro w hSw; (try dsimp only at hSw); simp only [List.getElem_toArray, List.getElem_cons_zero, List.getElem_cons_succ]; go_simp; first | done | with_reducible rfl)
    simp only [List.getElem_toArray, List.getElem_cons_zero, List.getElem_cons_succ, Act.put, List.setIfInBounds_toArray, List.set_cons_zero, List.set_cons_succ]
    refine wpAnyH_take (i := 8) (v := ?_) rfl (by kernel_rfl) (by kernel_rfl) (by kernel_rfl) (fun _ _ _ h => h) (Or.inl ⟨by rfl, ?_⟩) (by assumption) ?_
    rotate_left
    ·(intro w hSw; (try dsimp only at hSw); simp only [List.getElem_toArray, List.getElem_cons_zero, List.getElem_cons_succ]; go_simp; first | done | with_reducible rfl)
    simp only [List.getElem_toArray, List.getElem_cons_zero, List.getElem_cons_succ, Act.put, List.setIfInBounds_toArray, List.set_cons_zero, List.set_cons_succ]
    refine wpAnyH_take (i := 9) (v := _) rfl (by kernel_rfl) (by kernel_rfl) (by kernel_rfl) (fun _ _ _ h => h) (yieldsIf_load_mid (by rfl) 81 _ rfl (w.heap.size) (0) rfl (AL) _ (fun w hw => hw.1) (Try.underlying81) rfl (HIM.out)) (by assumption) ?_
    simp only [List.getElem_toArray, List.getElem_cons_zero, List.getElem_cons_succ, Act.put, List.setIfInBounds_toArray, List.set_cons_zero, List.set_cons_succ]
    have hst : (9223372036854775807 < (strB (shapeM m ((nmM m.k).take pos))).size + (strB (shapeC (c.toNat : Int) m.item.k)).size) = False := eq_false (by
     have q1 := shapeM_len2 m ((nmM m.k).take pos)
     have q2 : ((nmM m.k).take pos).length ≤ (nmM m.k).length := by rw [List.length_take]; omega
     have q3 := nmM_len m.k
     have q4 := shapeC_len (c.toNat : Int) m.item.k
     rw [str_size, str_size]
     omega)
    refine wpAnyH_ready (rs := [5]) (by kernel_rfl) (by simp) ?_
    refine AllReadyH.cons rfl (fun K hK => ?_) AllReadyH.nil
    simp only [List.getElem_toArray, List.getElem_cons_zero, List.getElem_cons_succ]
    go_simp
    refine (shapeC_any (c.toNat : Int) m.item.k _).mono ?_
    rintro e wx ⟨rfl, rfl⟩
    dsimp only
    refine hK.out _ _ ?_ (fun hHeld => ?_)
    ·exact hHeld
    clear hK K
    try simp only [Act.put, List.setIfInBounds_toArray, List.set_cons_zero, List.set_cons_succ]
    refine wpAnyH_take (i := 6) (v := ?_) rfl (by kernel_rfl) (by kernel_rfl) (by kernel_rfl) (fun _ _ _ h => h) (Or.inl ⟨by rfl, ?_⟩) (by assumption) ?_
    rotate_left
    ·(intro w hSw; (try dsimp only at hSw); simp only [List.getElem_toArray, List.getElem_cons_zero, List.getElem_cons_succ]; go_simp; first | done | with_reducible rfl)
    simp only [List.getElem_toArray, List.getElem_cons_zero, List.getElem_cons_succ, Act.put, List.setIfInBounds_toArray, List.set_cons_zero, List.set_cons_succ]
    clear hst
    refine wpAnyH_ready (rs := [10]) (by kernel_rfl) (by simp) ?_
    refine AllReadyH.cons rfl (fun K hK => ?_) AllReadyH.nil
    simp only [List.getElem_toArray, List.getElem_cons_zero, List.getElem_cons_succ]
    go_simp
    refine (CV2.out (c.toNat : Int) _ HM2.out.below.drew).mono ?_
    rintro e w4 ⟨v4, rfl, hrv, hb4⟩
    dsimp only
    refine hK.out _ _ ?_ (fun hHeld => ?_)
    ·exact HRS.out _ _ (hb4.mono HSZ.out) hHeld
    clear hK K
    try simp only [Act.put, List.setIfInBounds_toArray, List.set_cons_zero, List.set_cons_succ]
    have hm4 : BytesM K w m AL (pos + 1) u5 pos w4 := HM2.out.mono (bthen (Below.refl _ wr2).drew hb4)
    obtain ⟨xs2, ho2, hx2⟩ := hrv
    have hb24 : Below wr2.heap.size wr2 w4 := bthen (Below.refl _ wr2).drew hb4
    have ho4 := ownsRow_below ho hb24
    have hx4 : ∀ (j : Nat) (x : V), (valM m ((nmM m.k).take pos))[j]? = some x → ∃ u, xs[j]? = some u ∧ AnyO 0 w4 u x := fun j x hj => by
     obtain ⟨u, q1, q2⟩ := hx j x hj
     exact ⟨u, q1, q2.below hb24⟩
    have hn2 : xs2.length = (valC (c.toNat : Int) m).length := by have := ho2.1; omega
    have hone2 : ∀ u ∈ xs2, u.oneCell' = true := row_one hn2 (fun j x hj => by obtain ⟨u, q1, q2⟩ := hx2 j x hj; exact ⟨u, q1, q2.any⟩)
    have hlc := valC_len (c.toNat : Int) m
    refine wpAnyH_ready (rs := [11]) (by kernel_rfl) (by simp) ?_
    refine AllReadyH.cons rfl (fun K hK => ?_) AllReadyH.nil
    simp only [List.getElem_toArray, List.getElem_cons_zero, List.getElem_cons_succ]
    rw [if_pos (by rfl)]
    refine wp_apps _ _ 126 rfl (w.heap.size + 1) 20 _ 1 16 Try.underlying126 infoAny rfl (by decide) (by decide) _ _ _ (by rfl) ho4 _ _ _ (by rfl) (Rd.of_own ho2) hone2 (by have := HLN.out; omega) (Nat.le_trans HSZ.out hb24.size) ?_
    intro v5 w5 ho5 hb5 hg5 hs5 hn5
    refine hK.out _ _ ?_ (fun hHeld => ?_)
    ·exact HRS.out _ _ hb5 hHeld
    clear hK K
    try simp only [Act.put, List.setIfInBounds_toArray, List.set_cons_zero, List.set_cons_succ]
    have HM5 := Lib.hid (hm4.app HTK.out ho4 hx4 hn2 hx2 ho5 hb5 hg5)
    have HSH : Hid (strB (shapeM m ((nmM m.k).take pos)) ++ strB (shapeC (c.toNat : Int) m.item.k) = strB (shapeM m ((nmM m.k).take (pos + 1)))) := Lib.hid (by rw [HTK.out, shapeM_snoc, strB_app])
    refine wpAnyH_take (i := 12) (v := ?_) rfl (by kernel_rfl) (by kernel_rfl) (by kernel_rfl) (fun _ _ _ h => h) (Or.inl ⟨by rfl, ?_⟩) (by assumption) ?_
    rotate_left
    ·(intro w hSw; (try dsimp only at hSw); simp only [List.getElem_toArray, List.getElem_cons_zero, List.getElem_cons_succ]; go_simp; first | done | with_reducible rfl)
    simp only [List.getElem_toArray, List.getElem_cons_zero, List.getElem_cons_succ, Act.put, List.setIfInBounds_toArray, List.set_cons_zero, List.set_cons_succ]
    refine wpAnyH_take (i := 13) (v := ?_) rfl (by kernel_rfl) (by kernel_rfl) (by kernel_rfl) (fun _ _ _ h => h) (Or.inl ⟨by rfl, ?_⟩) (by assumption) ?_
    rotate_left
    ·(intro w hSw; (try dsimp only at hSw); simp only [List.getElem_toArray, List.getElem_cons_zero, List.getElem_cons_succ]; go_simp; first | done | with_reducible rfl)
    simp only [List.getElem_toArray, List.getElem_cons_zero, List.getElem_cons_succ, Act.put, List.setIfInBounds_toArray, List.set_cons_zero, List.set_cons_succ]
    refine wpAnyH_done (by kernel_rfl) ?_ _
    clear ho hx hHeld hm4 ho2 hx2 hb24 ho4 hx4 hn2 hone2 hlc ho5 hb5 hg5 hs5 hn5 hb4
    go_wp2_with fail
    go_roundg (s.size - (pos + 1))
    case rel => exact ⟨pos + 1, by omega, rfl, by rw [HSH.out], HM5.out⟩
    case measure => have := HG.out; omega
   ·obtain rfl : pos = s.size := by omega
    have hnx := fun ty => Lib.run_next_end_at (P := Try.prog) wr K s s.size ty hit (by omega)
    have HTK : Hid ((nmM m.k).take s.size = nmM m.k) := Lib.hid (List.take_of_length_le (by rw [HSS.out]; exact Nat.le_refl _))
    obtain ⟨ao, cap, rfl, hnc, hany⟩ := HM.out.row.anys
    rw [HTK.out] at hany
    rw [HTK.out]
    have HSL := Lib.hid (shapeM_len m)
    have CP := pack_any (strB (shapeM m (nmM m.k))) hany 7000 HVB.out (by omega) (by
     have h1 := HSL.out
     rw [str_size]
     have : (shapeM m (nmM m.k)).length * (7000 + 260) ≤ 20 * 7260 := Nat.mul_le_mul_right _ h1
     omega) hnc
    rw [chs_str, ← HE.out] at CP
    have HCP := Lib.hid CP
    have HBW := Lib.hid HM.out.below
    clear CP hany hnc hit HM
    generalize strB (shapeM m (nmM m.k)) = sq at *
    go_wp2_with fail
    refine HCP.out.mono ?_
    rintro e w6 ⟨hb6, hP⟩
    have HB6 := Lib.hid (bthen HBW.out hb6)
    clear hb6 hnx
    cases hq : packM m with
    | none =>
     rw [hq] at hP
     obtain rfl := hP
     have HQ := Lib.hid hq
     clear hq
     go_wp2_with fail
     go_ret2
     exact PackP.none_of HQ.out rfl HB6.out
    | some bs =>
     rw [hq] at hP
     obtain ⟨v6, rfl, ho6⟩ := hP
     have HO6 : Hid (w6.ownsRow w.heap.size 5 1 v6 bs.length (bV bs)) := Lib.hid (ownsRow_base ho6 HBW.out.size)
     have HQ := Lib.hid hq
     clear hq ho6
     go_wp2_with fail
     go_ret2
     exact PackP.some_of HQ.out rfl HO6.out HB6.out
end Go.Proofs.Ytgkelbdgdhkeoaa
