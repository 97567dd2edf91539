/- message.May, walked. -/
import Derived.Deep.LoopGhost
import Derived.Lib.OthersKept
import Derived.Test.YtgkelbdgdhkeoaaGreatPMsg20
import Derived.Test.YtgkelbdgdhkeoaaGreatPMsg22
namespace Go.Proofs.YtgkelbdgdhkeoaaGreat
open Go.RowKit
set_option linter.unusedVariables false
set_option linter.unusedSimpArgs false
open Wire Cmd
theorem setM_data (b : Ms0) (c : Int) (m : Ms0) (hb : b.item.data.length = 256) (hm : m.item.data.length = 256) : (setM b c m).item.data.length = 256 := by
 unfold setM
 (repeat' split) <;> first | exact hb | exact hm
theorem bareM_data (m : Ms0) (hm : m.item.data.length = 256) : ∀ l : List UInt8, (bareM m l).item.data.length = 256 := by
 have h : ∀ (l : List UInt8) (b : Ms0), b.item.data.length = 256 → (l.foldl (fun b c => setM b (c.toNat : Int) m) b).item.data.length = 256 := by
  intro l
  induction l with
  | nil => intro b hb; exact hb
  | cons c l ih => intro b hb; exact ih _ (setM_data b _ m hb hm)
 intro l
 exact h l (msK m.k m.epoch) List.length_replicate
/-- What a round of May knows of memory. -/
structure MMay (B K : Nat) (w : World) (m : Ms0) (AL : List Value) (pos q : Nat) (W : World) : Prop where
 it : W.heap[K]? = some (.stringIter (strB (nmM m.k)) pos)
 bx : W.heap[B]? = some (.cells AL.toArray 80 (0, 0))
 br : BoxM w (B + 1) (bareM m ((nmM m.k).take q)) W
 below : Below B w W
 kb : B + 1 < K
theorem BoxM.lt {w0 : World} {P : Nat} {b : Ms0} {X : World} (h : BoxM w0 P b X) : P < X.heap.size := by
 obtain ⟨_, _, h, _⟩ := h
 exact (Array.getElem?_eq_some_iff.1 h).1
theorem BoxM.heap {w0 : World} {P : Nat} {b : Ms0} {X Y : World} (h : BoxM w0 P b X) (he : Y.heap[P]? = X.heap[P]?) : BoxM w0 P b Y := by
 obtain ⟨t1, t2, h1, h2⟩ := h
 exact ⟨t1, t2, he.trans h1, h2⟩
theorem MMay.next {B K : Nat} {w : World} {m : Ms0} {AL : List Value} {pos q p' : Nat} {W : World} (h : MMay B K w m AL pos q W) : MMay B K w m AL p' q (W.iterAt K (strB (nmM m.k)) p') := by
 obtain ⟨h1, h2, h3, h5, h6⟩ := h
 exact ⟨Lib.iterAt_heap W K _ pos p' h1, (Lib.iterAt_other _ _ _ _ _ (by omega)).trans h2, h3.heap (Lib.iterAt_other _ _ _ _ _ (by omega)), Lib.below_iterAt h5 (by omega) _ _, h6⟩
theorem MMay.step {B K : Nat} {w : World} {m : Ms0} {AL : List Value} {pos q : Nat} {W W' : World} (h : MMay B K w m AL pos q W) {c : UInt8} (hc : (nmM m.k)[q]? = some c) (hb : BoxM w (B + 1) (setM (bareM m ((nmM m.k).take q)) (c.toNat : Int) m) W') (hm : Mods [B + 1] W W') : MMay B K w m AL pos (q + 1) W' := by
 obtain ⟨h1, h2, h3, h5, h6⟩ := h
 have hk := (Array.getElem?_eq_some_iff.1 h1).1
 have hbl := h3.lt
 refine ⟨(hm.block _ hk (by simp; omega)).trans h1, (hm.block _ (by omega) (by simp)).trans h2, ?_, h5.trans (hm.below (by simp) (by omega)), h6⟩
 rw [List.take_add_one, hc]
 exact (bareM_snoc m ((nmM m.k).take q) c) ▸ hb
def msZ (k : Int) (e : Nat) : List Value := msL (msK k e) (.slice none 0 0) (.slice none 0 0)
theorem msZ_eq (k : Int) (e : Nat) : (Tryz.zeroCells80.toList.set 0 (.int .i64 k)).set 1 (.int .u64 (e : Int)) = msZ k e := by kernel_rfl
theorem msZ_len (k : Int) (e : Nat) : (msZ k e).length = 290 := by kernel_rfl
theorem msZ_one (k : Int) (e : Nat) : ∀ u ∈ msZ k e, u.oneCell' = true := msL_one rfl rfl
theorem zeroM290 : Tryz.zeroCells80.size = 290 := by kernel_rfl
theorem newM_store (w : World) (k : Int) (e : Nat) : (storeCells ⟨w.heap.size, 0, none⟩ ((Tryz.zeroCells80.toList.set 0 (.int .i64 k)).set 1 (.int .u64 (e : Int)))).run Tryz.prog (w.alloc (.cells Tryz.zeroCells80 80)) = .ok () (w.alloc (.cells (msZ k e).toArray 80)) := by
 rw [msZ_eq]
 exact run_storeNew (P := Tryz.prog) w 80 Tryz.zeroCells80 (msZ k e).toArray (by rw [zeroM290, List.size_toArray, msZ_len]) (by simpa using msZ_one k e)
set_option maxRecDepth 100000 in
set_option maxHeartbeats 6400000 in
theorem mayM_any (m : Ms0) (ok : m.Ok) (s1 s2 : Value) (w : World) (hd1 : Rd w 1 s1 m.op.data.length (bV m.op.data)) (hd2 : Rd w 1 s2 m.item.op.data.length (bV m.item.op.data)) :
  Calls Tryz.prog 41 #[.agg (msL m s1 s2).toArray] w fun e w' => e = .returned (.bool (mayM m)) ∧ Below w.heap.size w w' := by
 have HD1 := Lib.hid hd1
 have HD2 := Lib.hid hd2
 have HOK := Lib.hid ok
 have HMD := Lib.hid (bareM_data m ok.item.data)
 obtain ⟨AL, hAL⟩ : ∃ L, msL m s1 s2 = L := ⟨_, rfl⟩
 have HA0 := Lib.hid (ms_at (m := m) (s1 := s1) (s2 := s2) (by rw [hAL]; exact range_new w 80 AL))
 have c0 := HA0.out.c0
 have c1 := HA0.out.c1
 have HIM : Hid ((Tryz.prog.info? 80).map (·.size) = some AL.length) := Lib.hid (by rw [← hAL, msL_len ok.item.data]; exact infoMs)
 have HKP : Hid (∀ (c : Int) (b : Ms0) (W : World), Below w.heap.size w W → BoxM w (w.heap.size + 1) b W → b.item.data.length = 256 → Calls Tryz.prog 62 #[.int .i32 c, .pointer (some ⟨w.heap.size + 1, 0, none⟩), .agg AL.toArray] W (KeptP w W (w.heap.size + 1) (setM b c m) (kept c m))) := Lib.hid (fun c b W hb hx hd => by
  rw [← hAL]
  exact kept_any c m ok s1 s2 b (w.heap.size + 1) w W hb hx hd1 hd2 (Nat.le_succ _) hd)
 have HSM : Hid (∀ (b : Ms0) (t1 t2 : Value) (W : World), Below w.heap.size w W → b.item.data.length = 256 → Rd w 1 t1 b.op.data.length (bV b.op.data) → Rd w 1 t2 b.item.op.data.length (bV b.item.op.data) → Calls Tryz.prog 63 #[.agg AL.toArray, .agg (msL b t1 t2).toArray] W fun e w' => e = .returned (.bool (msEq m b)) ∧ Below W.heap.size W w') := Lib.hid (fun b t1 t2 W hb hd h1 h2 => by
  rw [← hAL]
  exact sameM_any m b s1 s2 t1 t2 W ok.item.data hd (hd1.below hb) (hd2.below hb) (h1.below hb) (h2.below hb))
 have hst := newM_store (w.alloc (.cells AL.toArray 80)) m.k m.epoch
 rw [World.size_alloc] at hst
 have HZ := Lib.hid (show msZ m.k m.epoch = msL (bareM m ((nmM m.k).take 0)) (.slice none 0 0) (.slice none 0 0) from rfl)
 have HB2 : Hid (Below w.heap.size w ((w.alloc (.cells AL.toArray 80)).alloc (.cells (msZ m.k m.epoch).toArray 80))) := Lib.hid (balloc (balloc (Below.refl _ _) _) _)
 have HX2 : Hid (((w.alloc (.cells AL.toArray 80)).alloc (.cells (msZ m.k m.epoch).toArray 80)).heap[w.heap.size]? = some (.cells AL.toArray 80 (0, 0)) ∧ BoxM w (w.heap.size + 1) (bareM m ((nmM m.k).take 0)) ((w.alloc (.cells AL.toArray 80)).alloc (.cells (msZ m.k m.epoch).toArray 80))) := Lib.hid ⟨(Below.heap_alloc _ _ _ (by simp)).trans (heap_alloc_new w _), _, _, by
  have h := heap_alloc_new (w.alloc (.cells AL.toArray 80)) (.cells (msZ m.k m.epoch).toArray 80)
  rw [World.size_alloc] at h
  rw [HZ.out] at h ⊢
  exact h, Rd.of_own (World.ownsRow_nil w 0 5 1), Rd.of_own (World.ownsRow_nil w 0 5 1)⟩
 have HZ2 : Hid (((w.alloc (.cells AL.toArray 80)).alloc (.cells (msZ m.k m.epoch).toArray 80)).heap.size = w.heap.size + 2) := Lib.hid (by simp)
 have HMA : Hid (∀ X : World, X.heap[w.heap.size]? = some (.cells AL.toArray 80 (0, 0)) → MsAt X w.heap.size m s1 s2) := Lib.hid (fun X hX => ms_at (fun j u hj => by
  rw [Nat.zero_add]
  rw [hAL] at hj
  exact cellIs hX (by simpa using hj)))
 have c0' := (HMA.out _ HX2.out.1).c0
 rw [hAL]
 clear ok hd1 hd2 hAL
 go_enter Tryz.func41, Tryz.ntmps41
 go_wp2_with fail
 clear hst c0 c0' c1 HA0
 refine (namesM_any m.k _).mono ?_
 rintro e w1 ⟨rfl, hb1⟩
 obtain ⟨K, hK⟩ : ∃ K, w1.heap.size = K := ⟨_, rfl⟩
 have HI : Hid (MMay w.heap.size K w m AL 0 0 (w1.iter (strB (nmM m.k)) 0)) := Lib.hid (by
  have hs1 := hb1.size
  rw [HZ2.out] at hs1
  have hbi : Below w1.heap.size w1 (w1.iter (strB (nmM m.k)) 0) := balloc (Below.refl _ _) _
  have hb12 := bthen hb1 hbi
  refine ⟨hK ▸ World.iter_heap w1 _ 0, (hb12.block _ (by rw [HZ2.out]; omega)).trans HX2.out.1, HX2.out.2.heap (hb12.block _ (by rw [HZ2.out]; omega)), bthen HB2.out hb12, by omega⟩)
 clear hb1
 go_wp2_with fail
 generalize w1.iter (strB (nmM m.k)) 0 = w2 at HI ⊢
 clear hK
 have hsz3 : (strB (nmM m.k)).size ≤ 3 := by rw [str_size]; exact nmM_len _
 have HL := Lib.hid (nmM_low m.k)
 have HCS := Lib.hid (chs_str (nmM m.k))
 have HSS := Lib.hid (str_size (nmM m.k))
 generalize hs : strB (nmM m.k) = s at *
 have HS := Lib.hid hs
 clear hs
 go_loopg [] s.size (fun g wr => ∃ pos : Nat, pos ≤ s.size ∧ g = s.size - pos ∧ MMay w.heap.size K w m AL pos pos wr ∧ ((nmM m.k).take pos).all (fun c => kept (c.toNat : Int) m) = true)
 case atStart => exact ⟨0, by omega, by omega, HI.out, rfl⟩
 case round =>
  obtain ⟨pos, hp, hg, hm, hall⟩ := hrel
  have HG := Lib.hid hg
  have HM := Lib.hid hm
  have HALL := Lib.hid hall
  have hit : wr.heap[K]? = some (.stringIter s pos) := by rw [← HS.out]; exact hm.it
  clear hg hm hall
  by_cases hlt : pos < s.size
  ·obtain ⟨c, hc⟩ : ∃ c, (s[pos]'hlt) = c := ⟨_, rfl⟩
   have hget : (nmM m.k)[pos]? = some c := by
    have h1 := chs_get hlt
    rw [HCS.out, hc] at h1; exact h1
   have hlow : c.toNat < 128 := HL.out c (List.mem_of_getElem? hget)
   have hdec : Utf8.decode s pos = (c.toNat, 1) := by rw [← hc]; exact decode_ascii s pos hlt (by rw [hc]; exact hlow)
   have hnx := fun ty => Lib.run_next_any_at (P := Tryz.prog) wr K s pos ty hit hlt
   simp only [hdec] at hnx
   have HM2 : Hid (MMay w.heap.size K w m AL (pos + 1) pos (wr.iterAt K s (pos + 1))) := Lib.hid (by rw [← HS.out]; exact HM.out.next)
   obtain ⟨wr2, hwr2⟩ : ∃ W, wr.iterAt K s (pos + 1) = W := ⟨_, rfl⟩
   rw [hwr2] at hnx HM2
   have HRC : Hid (wr2.rangeAt w.heap.size 0 AL) := Lib.hid (fun j u hj => by
    rw [Nat.zero_add]
    exact cellIs HM2.out.bx (by simpa using hj))
   have HCW := Lib.hid (HKP.out (c.toNat : Int) _ wr2 HM2.out.below HM2.out.br (HMD.out _))
   have HGET := Lib.hid hget
   clear hwr2 hit hdec hc hget
   go_wp2_with (refine wpList_load_mid rfl 80 _ rfl w.heap.size 0 rfl AL _ HRC.out Tryz.underlying80 rfl HIM.out ?_)
   refine HCW.out.mono ?_
   rintro e w3 ⟨rfl, hbx3, hmd3⟩
   have HM3 : Hid (MMay w.heap.size K w m AL (pos + 1) (pos + 1) w3) := Lib.hid (HM2.out.step HGET.out hbx3 hmd3)
   clear hbx3 hmd3 hnx HCW
   obtain ⟨bw, hbw⟩ : ∃ b, kept (c.toNat : Int) m = b := ⟨_, rfl⟩
   rw [hbw]
   have HBW := Lib.hid hbw
   clear hbw
   cases bw with
   | false =>
    have HE : Hid (mayM m = false) := Lib.hid (by
     unfold mayM
     have : (nmM m.k).all (fun c => kept (c.toNat : Int) m) = false := by
      rw [Bool.eq_false_iff]
      intro h
      have := List.all_eq_true.1 h c (List.mem_of_getElem? HGET.out)
      rw [HBW.out] at this; cases this
     rw [this]; rfl)
    go_wp2_with fail
    go_ret
    exact ⟨by rw [HE.out]; rfl, HM3.out.below⟩
   | true =>
    have HA2 : Hid (((nmM m.k).take (pos + 1)).all (fun c => kept (c.toNat : Int) m) = true) := Lib.hid (by
     rw [List.take_add_one, HGET.out]
     simp only [Option.toList_some, List.all_append, HALL.out, Bool.true_and, List.all_cons, List.all_nil, Bool.and_true]
     exact HBW.out)
    go_wp2_with fail
    go_roundg (s.size - (pos + 1))
    case rel => exact ⟨pos + 1, by omega, rfl, HM3.out, HA2.out⟩
    case measure => have := HG.out; omega
  ·obtain rfl : pos = s.size := by omega
   have hnx := fun ty => Lib.run_next_end_at (P := Tryz.prog) wr K s s.size ty hit (by omega)
   have htk : (nmM m.k).take s.size = nmM m.k := List.take_of_length_le (by rw [HSS.out]; exact Nat.le_refl _)
   have HAL2 : Hid ((nmM m.k).all (fun c => kept (c.toNat : Int) m) = true) := Lib.hid (by have := HALL.out; rw [htk] at this; exact this)
   obtain ⟨t1, t2, hbr, hr1, hr2⟩ := HM.out.br
   rw [htk] at hbr hr1 hr2
   have CS := HSM.out (bareM m (nmM m.k)) t1 t2 wr HM.out.below (HMD.out _) hr1 hr2
   have HIB : Hid ((Tryz.prog.info? 80).map (·.size) = some (msL (bareM m (nmM m.k)) t1 t2).length) := Lib.hid (by rw [msL_len (HMD.out _)]; exact infoMs)
   have HEQ : Hid (∀ x, msEq m (bareM m (nmM m.k)) = x → mayM m = ((decide (1 ≤ m.k) && decide (m.k ≤ 15)) && x)) := Lib.hid (fun x h => by unfold mayM; rw [HAL2.out, h]; rfl)
   obtain ⟨q, hq⟩ : ∃ q, msEq m (bareM m (nmM m.k)) = q := ⟨_, rfl⟩
   have HEQ2 := Lib.hid (HEQ.out q hq)
   rw [hq] at CS
   have HCS2 := Lib.hid CS
   have c0 := (HMA.out wr HM.out.bx).c0
   have HRC : Hid (wr.rangeAt w.heap.size 0 AL) := Lib.hid (fun j u hj => by
    rw [Nat.zero_add]
    exact cellIs HM.out.bx (by simpa using hj))
   obtain ⟨BL, hBL⟩ : ∃ L, msL (bareM m (nmM m.k)) t1 t2 = L := ⟨_, rfl⟩
   rw [hBL] at HIB HCS2 hbr
   have HRD : Hid (wr.rangeAt (w.heap.size + 1) 0 BL) := Lib.hid (fun j u hj => by
    rw [Nat.zero_add]
    exact cellIs hbr (by simpa using hj))
   clear CS hq HEQ hBL hbr hr1 hr2 htk hit HI
   by_cases k1 : 1 ≤ m.k
   ·have e1 : decide (1 ≤ m.k) = true := decide_eq_true k1
    by_cases k9 : m.k ≤ 15
    ·have e2 : decide (m.k ≤ 15) = true := decide_eq_true k9
     have HE : Hid (mayM m = q) := Lib.hid (by rw [HEQ2.out, e1, e2]; rfl)
     go_wp2_with (first
      | (refine wpList_load_met (by kernel_rfl) 80 _ rfl w.heap.size 0 rfl AL _ HRC.out Tryz.underlying80 rfl HIM.out ?_)
      | (refine wpList_load_met (by kernel_rfl) 80 _ rfl (w.heap.size + 1) 0 rfl BL _ HRD.out Tryz.underlying80 rfl HIB.out ?_))
     refine HCS2.out.mono ?_
     rintro e w3 ⟨rfl, hb3⟩
     have HB3 := Lib.hid (HM.out.below.trans (hb3.mono HM.out.below.size))
     clear hb3
     go_wp2_with fail
     go_ret
     exact ⟨by rw [HE.out]; rfl, HB3.out⟩
    ·have HE : Hid (mayM m = false) := Lib.hid (by rw [HEQ2.out, decide_eq_false k9, Bool.and_false]; rfl)
     have e2 : decide (m.k ≤ 15) = false := decide_eq_false k9
     have k9' : 15 < m.k := by omega
     clear k9
     go_wp2_with fail
     go_ret
     exact ⟨by rw [HE.out]; rfl, HM.out.below⟩
   ·have HE : Hid (mayM m = false) := Lib.hid (by rw [HEQ2.out, decide_eq_false k1]; rfl)
    have e1 : decide (1 ≤ m.k) = false := decide_eq_false k1
    have k1' : m.k < 1 := by omega
    clear k1
    go_wp2_with fail
    go_ret
    exact ⟨by rw [HE.out]; rfl, HM.out.below⟩
end Go.Proofs.YtgkelbdgdhkeoaaGreat
