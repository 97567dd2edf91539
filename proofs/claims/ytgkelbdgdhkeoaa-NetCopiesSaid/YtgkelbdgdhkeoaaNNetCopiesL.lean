/- The law NetCopies, walked. -/
import Derived.Test.YtgkelbdgdhkeoaaNNE
import Derived.Test.YtgkelbdgdhkeoaaNND
namespace Go.Proofs.Ytgkelbdgdhkeoaa
open Go.RowKit
set_option linter.unusedVariables false
set_option linter.unusedSimpArgs false
/-- A net, its copy, and the reference's. -/
structure Trio (w0 w : World) (B : Nat) (sv : Value) (K : List Lt) (D : Nat) (su : Value) (L : List Lt) (C : Nat) (sw : Value) (M : List Lt) : Prop where
 n : NetAt w0.heap.size w B sv K
 c : NetAt w0.heap.size w D su L
 r : RNetAt w0.heap.size w0 w C sw M
 ne : D ∉ nF B sv ∧ ∀ k ∈ ob su, k ∉ nF B sv
 below : Below w0.heap.size w0 w
theorem Trio.mono {w0 w w' : World} {B D C : Nat} {sv su sw : Value} {K L M : List Lt} (h : Trio w0 w B sv K D su L C sw M) (hb : Below w.heap.size w w') : Trio w0 w' B sv K D su L C sw M :=
 ⟨h.n.below hb, h.c.below hb, h.r.below hb, h.ne, bthen h.below hb⟩
theorem Trio.chg {w0 w w' : World} {B D C : Nat} {sv su sw : Value} {K K' L M : List Lt} (h : Trio w0 w B sv K D su L C sw M) (hn : NetAt w0.heap.size w' B sv K') (hc : Chg (nF B sv) w w' (nF B sv)) : Trio w0 w' B sv K' D su L C sw M :=
 ⟨hn, h.c.kept hc.1 h.ne.1 h.ne.2 (fun x hx k hk hf => by
  obtain ⟨cs, f, h2⟩ := own_tagS (h.c.byt x hx) k hk
  rcases List.mem_cons.1 hf with h1 | h1
  ·exact tag_neq h2 h.n.box (by decide) h1
  ·obtain ⟨cs', f', h3⟩ := own_tagS h.n.row k h1
   exact tag_neq h2 h3 (by decide) rfl), h.r.past h.n hc.1, h.ne, chg_below h.below hc h.n.ge (fun k hk => ownsRow_ge h.n.row k hk)⟩
/-- What a slice of bytes of its own may be made to hold changes none of them. -/
theorem Trio.spoilt {w0 w w' : World} {B D C s m : Nat} {sv su sw v : Value} {K L M : List Lt} {xs : List Value} (h : Trio w0 w B sv K D su L C sw M) (ho : w.ownsRow s 5 1 v m xs) (hm : Mods (ob v) w w')
  (h1 : ∀ x ∈ K, ∀ k ∈ ob x.v, k < s) (h2 : ∀ x ∈ L, ∀ k ∈ ob x.v, k < s) (hs : w0.heap.size ≤ s) : Trio w0 w' B sv K D su L C sw M := by
 have htag : ∀ (j : Nat) (cs : Array Value) (e : TypeId) (f : Nat × Nat), w.heap[j]? = some (.cells cs e f) → e ≠ 5 → j ∉ ob v := fun j cs e f hj he hjo => by
  obtain ⟨cs', f', h3⟩ := own_tagS ho j hjo
  exact tag_neq hj h3 he rfl
 have hrow : ∀ {b n z : Nat} {e : TypeId} {u : Value} {ys : List Value}, w.ownsRow b e z u n ys → e ≠ 5 → ∀ k ∈ ob u, k ∉ ob v := fun hr he k hk => by
  obtain ⟨cs, f, h3⟩ := own_tagS hr k hk
  exact htag _ _ _ _ h3 he
 have hge : ∀ k ∈ ob v, s ≤ k := ownsRow_ge ho
 refine ⟨h.n.kept hm (htag _ _ _ _ h.n.box (by decide)) (hrow h.n.row (by decide)) (fun x hx k hk hf => ?_), h.c.kept hm (htag _ _ _ _ h.c.box (by decide)) (hrow h.c.row (by decide)) (fun x hx k hk hf => ?_),
  h.r.mods hm (htag _ _ _ _ h.r.box (by decide)) (hrow h.r.row (by decide)), h.ne, h.below.trans (hm.below (fun k hk => Nat.le_trans hs (hge k hk)) h.below.size)⟩
 ·have := h1 x hx k hk; have := hge k hf; omega
 ·have := h2 x hx k hk; have := hge k hf; omega
set_option maxRecDepth 100000 in
set_option maxHeartbeats 6400000 in
theorem netCopies_walk (ao : Option Addr) (n cap : Nat) (l : List St) (i t : Int) (w : World) (hv : Steps w ao n cap l) :
  Calls Try.prog 10 #[.slice ao n cap, .int .i64 i, .int .i64 t] w fun e w' => e = .returned (.bool true) ∧ Below w.heap.size w w' := by
 have CK := Lib.hid (fun W => known20_any W)
 have CMU := much20_any ao n cap l w hv
 have HV := Lib.hid hv
 obtain ⟨y, hy⟩ : ∃ y, muchN l = y := ⟨_, rfl⟩
 rw [hy] at CMU
 have HY := Lib.hid hy
 clear hv hy
 cases y with
 | true =>
  go_enter Try.func10, Try.ntmps10
  go_wp2_with fail
  refine CMU.mono ?_
  rintro e w1 ⟨rfl, rfl⟩
  go_wp2_with fail
  refine (CK.out _).mono ?_
  rintro e w2 ⟨rfl, hb⟩
  have HB := Lib.hid hb
  clear hb
  go_wp2_with fail
  go_ret
  exact ⟨rfl, HB.out⟩
 | false =>
 by_cases h0 : t < 0
 ·have q0 : decide (t < 0) = true := decide_eq_true h0
  clear h0
  go_enter Try.func10, Try.ntmps10
  go_wp2_with fail
  refine CMU.mono ?_
  rintro e w1 ⟨rfl, rfl⟩
  go_wp2_with fail
  refine (CK.out _).mono ?_
  rintro e w2 ⟨rfl, hb⟩
  have HB := Lib.hid hb
  clear hb
  go_wp2_with fail
  go_ret
  exact ⟨rfl, HB.out⟩
 have q0 : decide (t < 0) = false := decide_eq_false h0
 by_cases h1 : 20 < t
 ·have q1 : decide (20 < t) = true := decide_eq_true h1
  clear h0 h1
  go_enter Try.func10, Try.ntmps10
  go_wp2_with fail
  refine CMU.mono ?_
  rintro e w1 ⟨rfl, rfl⟩
  go_wp2_with fail
  refine (CK.out _).mono ?_
  rintro e w2 ⟨rfl, hb⟩
  have HB := Lib.hid hb
  clear hb
  go_wp2_with fail
  go_ret
  exact ⟨rfl, HB.out⟩
 have q1 : decide (20 < t) = false := decide_eq_false h1
 have HT : Hid (0 ≤ t ∧ t ≤ 20) := Lib.hid (by omega)
 have HS := Lib.hid (muchN_no HY.out)
 have HNL : Hid (n ≤ 60 ∧ n ≤ cap ∧ cap ≤ 9223372036854775807) := Lib.hid (by
  obtain ⟨a, b, c, _⟩ := HV.out
  unfold maxLen at c
  have := HS.out.1
  omega)
 have hnl := HNL.out
 have CN := new_any w.heap.size w (Nat.le_refl _)
 clear h0 h1
 go_enter Try.func10, Try.ntmps10
 go_wp2_with fail
 refine CMU.mono ?_
 rintro e w0 ⟨rfl, rfl⟩
 clear CMU
 go_wp2_with fail
 refine CN.mono ?_
 rintro e w1 ⟨rfl, hn1, hb1⟩
 have HN1 := Lib.hid hn1
 have HB1 := Lib.hid hb1
 clear hn1 hb1 CN
 obtain ⟨w2, hw2⟩ : ∃ W, w1.alloc (.cells #[.slice none 0 0] 95) = W := ⟨_, rfl⟩
 have HD0 : Hid (Duo w w2 w.heap.size (.slice none 0 0) [] w1.heap.size (.slice none 0 0) [] 0) := Lib.hid (by
  rw [← hw2]
  exact ⟨HN1.out.below (balloc (Below.refl _ _) _), ⟨heap_alloc_new w1 _, World.ownsRow_nil _ _ _ _, fun x hx => (by cases hx), HB1.out.size⟩, rfl, ⟨Nat.le_refl _, fun x hx => by cases hx⟩, balloc HB1.out _⟩)
 obtain ⟨C, hC⟩ : ∃ C, w1.heap.size = C := ⟨_, rfl⟩
 obtain ⟨B, hB⟩ : ∃ B, w.heap.size = B := ⟨_, rfl⟩
 go_upto_region 6 with fail
 clear hw2
 rw [hC, hB] at HD0
 clear hC hB
 go_wp2_with fail
 go_loopw [9] (fun iv wr => ∃ k : Nat, k ≤ n ∧ iv = .int .i64 (k : Int) ∧ ∃ sv L sw M, Duo w wr B sv L C sw M k) (fun iv _ => n - (intOf iv).toNat)
 case atStart => exact ⟨0, by omega, rfl, _, _, _, _, HD0.out⟩
 case round =>
  obtain ⟨k, hk, rfl, sv, L, sw, M, hd⟩ := hrel
  have HD := Lib.hid hd
  clear hd
  by_cases hlt : k < n
  ·obtain ⟨x, hx⟩ : ∃ x, l[k]? = some x := ⟨_, List.getElem?_eq_getElem (by rw [HV.out.1]; exact hlt)⟩
   have hr : Rd w 1 x.v x.b.length (bV x.b) := by
    obtain ⟨_, _, _, _, _, _, _, h⟩ := HV.out.2.2.2.2 k x hx
    exact h
   obtain ⟨b, off, rfl, _, c0, c1, c2, _⟩ := (HV.out.below HD.out.below).2.2.2.2 k x hx
   have CD := do_any w wr _ sv L C sw M k HD.out (by omega) x hr (HS.out.2 x (List.mem_of_getElem? hx))
   obtain ⟨ax, cx, ex, _⟩ := hr
   rw [ex] at c2 CD
   unfold DoP at CD
   clear hx ex
   go_wp2_with fail
   refine CD.mono ?_
   rintro e w3 ⟨rfl, ⟨sv3, L3, sw3, M3, hd3⟩, _⟩
   have HD3 := Lib.hid hd3
   clear hd3 CD
   go_wp2_with fail
   go_roundw
   case rel => exact ⟨k + 1, by omega, by go_num, _, _, _, _, HD3.out⟩
   case measure => simp [intOf]; omega
  ·obtain rfl : k = n := by omega
   have hll := HD.out.small.1
   have CCP := copy_at w.heap.size wr B sv L HD.out.below.size HD.out.n (by have := HNL.out; omega)
   clear q0 q1
   go_wp2_with fail
   refine CCP.mono ?_
   rintro e wc ⟨D, su, rfl, hcn, hcb, hD, hsu⟩
   have HTR : Hid (Trio w wc B sv L D su L C sw M) := Lib.hid ⟨HD.out.n.below hcb, hcn, HD.out.r.below hcb, ⟨fun hf => by
    rcases List.mem_cons.1 hf with h1 | h1
    ·have := HD.out.n.lt; omega
    ·have := ownsRow_lt HD.out.n.row D h1; omega, fun k hk hf => by
    have h0 := hsu k hk
    rcases List.mem_cons.1 hf with h1 | h1
    ·have := HD.out.n.lt; omega
    ·have := ownsRow_lt HD.out.n.row k h1; omega⟩, bthen HD.out.below hcb⟩
   have HBC := Lib.hid (And.intro HD.out.same HD.out.small)
   clear hcn hcb hD hsu CCP
   rcases at_cases L i with ⟨j, x, rfl, hx⟩ | hi
   ·have CA := carried_in _ _ _ _ _ j x HTR.out.n hx
    go_wp2_with fail
    refine CA.mono ?_
    rintro e wd ⟨rfl, rfl⟩
    clear CA
    go_wp2_with fail
    obtain ⟨T, rfl⟩ : ∃ T : Nat, t = (T : Int) := ⟨t.toNat, by have := HT.out; omega⟩
    have hT : T ≤ 20 := by have := HT.out; omega
    obtain ⟨⟨yt, yc, yv, yb⟩, hy, hk1, hk2, hk3⟩ := same_at HD.out.same hx
    dsimp only at hk1 hk2 hk3
    subst hk1 hk2 hk3
    obtain ⟨ay, cy, ey⟩ := rdV HD.out.r _ (List.mem_of_getElem? hy)
    dsimp only at ey
    subst ey
    have HX := Lib.hid (And.intro hx hy)
    have hcar : x.car ≤ 60 := by have := (HBC.out.2.2 x (List.mem_of_getElem? hx)).1; have := HNL.out; omega
    have HXB := Lib.hid (HBC.out.2.2 x (List.mem_of_getElem? hx)).2
    have HJ : Hid (j < L.length ∧ j < M.length) := Lib.hid ⟨(List.getElem?_eq_some_iff.1 hx).1, (List.getElem?_eq_some_iff.1 hy).1⟩
    have HRV := Lib.hid (HD.out.r.byt _ (List.mem_of_getElem? hy))
    dsimp only at HRV
    obtain ⟨nb, hnb⟩ : ∃ n, x.b.length = n := ⟨_, rfl⟩
    have HNB := Lib.hid hnb
    have hnb3 : nb ≤ 3000 := by have := HXB.out; omega
    clear hx hy
    go_loopw [12] (fun iv wr => ∃ q : Nat, q ≤ T ∧ iv = .int .i64 (q : Int) ∧ Trio w wr B sv (L.set j ⟨x.to_, x.car + q, x.v, x.b⟩) D su L C sw M) (fun iv _ => T - (intOf iv).toNat)
    case atStart => exact ⟨0, by omega, rfl, by
     obtain ⟨hlt', hge'⟩ := List.getElem?_eq_some_iff.1 HX.out.1
     have e : L.set j (L[j]'hlt') = L := List.set_getElem_self hlt'
     rw [hge'] at e
     show Trio w wc B sv (L.set j x) D su L C sw M
     rw [e]
     exact HTR.out⟩
    case round =>
     obtain ⟨q, hq, rfl, htr⟩ := hrel
     have HTQ := Lib.hid htr
     clear htr
     by_cases hlq : q < T
     ·have hKj : (L.set j ⟨x.to_, x.car + q, x.v, x.b⟩)[j]? = some ⟨x.to_, x.car + q, x.v, x.b⟩ := by rw [List.getElem?_set_self (by have := HJ.out.1; omega)]
      have CA := carry_in _ _ _ _ _ j ⟨x.to_, x.car + q, x.v, x.b⟩ HTQ.out.n hKj (by show x.b.length ≤ _; omega) (by show x.car + q < _; omega)
      unfold CarryP at CA
      rw [List.set_set] at CA
      have q5 : decide ((q : Int) < (T : Int)) = true := decide_eq_true (by omega)
      have CN := Lib.hid (fun (W : World) => num20_any 0 W)
      clear hKj
      go_wp2_with fail
      refine CA.mono ?_
      rintro e we ⟨v1, rfl, ho1, hn1, hc1⟩
      try dsimp only at ho1 hn1
      have HT1 := Lib.hid (HTQ.out.chg hn1 hc1)
      have HO1 := Lib.hid ho1
      obtain ⟨av, cv, rfl, _, _, ⟨_, hv1, hv2⟩, _⟩ := Rd.of_own ho1
      unfold maxLen at hv2
      have CR := rat_in _ _ _ _ _ _ j ⟨x.to_, x.car, .slice ay x.b.length cy, x.b⟩ HT1.out.r HX.out.2
      dsimp only at CR
      clear ho1 hn1 hc1 CA
      rw [hnb] at CR hv1 HO1 HRV ⊢
      go_wp2_with fail
      refine CR.mono ?_
      rintro e wf ⟨rfl, hbf⟩
      have HT2 := Lib.hid (HT1.out.mono hbf)
      have HO2 := Lib.hid (ownsRow_below HO1.out hbf)
      have htx := run_text wf _ _ x.b (Rd.of_own HO2.out)
      have hty := run_text wf _ _ x.b (HRV.out.below HT2.out.below)
      obtain ⟨sx, hsx⟩ : ∃ s, strB x.b = s := ⟨_, rfl⟩
      rw [hsx] at htx hty
      have HBS := Lib.hid hnb
      clear hbf CR hsx hnb
      go_wp2_with (go_at_call 65; refine (CN.out _).mono ?_; rintro e wx ⟨rfl, rfl⟩)
      clear htx hty CN
      go_loopw [19] (fun iv ws => ∃ k : Nat, k ≤ nb ∧ iv = .int .i64 (k : Int) ∧ (∃ zs : List Int, zs.length = nb ∧ ws.ownsRow wr.heap.size 5 1 (.slice av nb cv) nb (nVN zs)) ∧ Mods (ob (.slice av nb cv)) wf ws) (fun iv _ => nb - (intOf iv).toNat)
      case atStart => exact ⟨0, by omega, rfl, ⟨x.b.map fun x => (x.toNat : Int), by rw [List.length_map]; exact HBS.out, by
       rw [show nVN (x.b.map fun x => (x.toNat : Int)) = bV x.b from by simp [nVN, bV, Function.comp_def]]
       exact HO2.out⟩, Mods.refl _ _⟩
      case round =>
       obtain ⟨m, hm, rfl, ⟨zs, hzl, hown⟩, hmm⟩ := hrel
       by_cases hltm : m < nb
       ·obtain ⟨g, rfl⟩ : ∃ g, av = some ⟨g, 0, none⟩ := by
         rcases hown.2 with ⟨hv, hn0⟩ | ⟨g, cap', cur, hv, _⟩
         ·omega
         ·simp at hv; exact ⟨g, hv.1⟩
        obtain ⟨z, hz⟩ : ∃ z, zs[m]? = some z := ⟨_, List.getElem?_eq_getElem (by omega)⟩
        have hcell := hown.cellAt m (by omega)
        have hfz := hown.frozenAt m
        have hxz : (nVN zs)[m]? = some (.int .u8 z) := by simp [nVN, hz]
        rw [hxz] at hcell
        have HST := Lib.hid (fun u => hown.stored m u)
        have HM := Lib.hid hmm
        have HZL := Lib.hid hzl
        clear hxz hz hown hmm hzl
        go_wp2_with fail
        go_roundw
        case rel =>
         refine ⟨m + 1, by omega, by go_num, ⟨zs.set m ((z + 1) % 256), by rw [List.length_set]; exact HZL.out, ?_⟩, HM.out.setCell (p := ⟨g, m, none⟩) (by simp [ob_some]) _⟩
         have h2 := (HST.out (.int .u8 ((z + 1) % 256))).1
         simpa [nVN, List.map_set] using h2
        case measure => simp [intOf]; omega
       ·obtain rfl : m = nb := by omega
        have HT3 := Lib.hid (HT2.out.spoilt HO2.out hmm (fun y hy k hk => by
         rcases List.mem_or_eq_of_mem_set hy with h | rfl
         ·exact ownsRow_lt (HTQ.out.c.byt y h) k hk
         ·exact ownsRow_lt (HTQ.out.c.byt x (List.mem_of_getElem? HX.out.1)) k hk) (fun y hy k hk => ownsRow_lt (HTQ.out.c.byt y hy) k hk) HTQ.out.below.size)
        clear hown hmm
        go_wp2_with fail
        go_roundw
        case rel => exact ⟨q + 1, by omega, by go_num, HT3.out⟩
        case measure => simp [intOf]; omega
     ·obtain rfl : q = T := by omega
      have q5 : decide ((q : Int) < (q : Int)) = false := decide_eq_false (by omega)
      have hKj : (L.set j ⟨x.to_, x.car + q, x.v, x.b⟩)[j]? = some ⟨x.to_, x.car + q, x.v, x.b⟩ := by rw [List.getElem?_set_self (by have := HJ.out.1; omega)]
      have CA := carried_in _ _ _ _ _ j ⟨x.to_, x.car + q, x.v, x.b⟩ HTQ.out.n hKj
      have hsum : ((x.car + q : Nat) : Int) = (x.car : Int) + (q : Int) := by omega
      dsimp only at CA
      rw [hsum] at CA
      have CS := Lib.hid (same_at2 _ _ _ _ _ _ _ _ HTQ.out.n HTQ.out.c)
      have hsm : decide ((L.set j ⟨x.to_, x.car + q, x.v, x.b⟩).map key = L.map key) = decide (q = 0) := decide_eq_decide.2 ⟨fun h => by
       have h1 : ((L.set j ⟨x.to_, x.car + q, x.v, x.b⟩).map key)[j]? = some (x.to_, x.car + q, x.b) := by rw [List.getElem?_map, hKj]; rfl
       rw [h, List.getElem?_map, HX.out.1] at h1
       have h2 : x.car = x.car + q := (Prod.mk.inj (Prod.mk.inj (Option.some.inj h1)).2).1
       omega, fun h => by
       subst h
       obtain ⟨hlt', hge'⟩ := List.getElem?_eq_some_iff.1 HX.out.1
       have e : L.set j (L[j]'hlt') = L := List.set_getElem_self hlt'
       rw [hge'] at e
       exact congrArg (List.map key) e⟩
      rw [hsm] at CS
      have CD := Lib.hid (fun (W : World) (hW : Below wr.heap.size wr W) => carried_in _ _ _ _ _ j x (HTQ.out.mono hW).c HX.out.1)
      have HBW := Lib.hid HTQ.out.below
      have r0 := HTQ.out.r.cell
      obtain ⟨aw, cw, rfl, _⟩ := Rd.of_own HTQ.out.r.row
      have q6 : decide ((0 : Int) ≤ (j : Int)) = true := decide_eq_true (by omega)
      have q7 : j < M.length := HJ.out.2
      clear hsm hKj hsum
      rcases Nat.eq_zero_or_pos q with rfl | hpos
      ·rw [decide_eq_true (rfl : (0 : Nat) = 0)] at CS
       go_wp2_with fail
       refine CA.mono ?_
       rintro e wy ⟨rfl, hwy⟩
       subst hwy
       go_wp2_with fail
       go_wp2_with fail
       refine CS.out.mono ?_
       rintro e wy ⟨rfl, hby⟩
       have HBY := Lib.hid hby
       clear hby
       go_wp2_with fail
       refine (CD.out _ HBY.out).mono ?_
       rintro e wz ⟨rfl, hwz⟩
       subst hwz
       go_wp2_with fail
       refine (CK.out _).mono ?_
       rintro e wz ⟨rfl, hbz⟩
       have HBZ := Lib.hid (bthen HBW.out (bthen HBY.out hbz))
       clear hbz
       go_wp2_with fail
       go_ret
       exact ⟨rfl, HBZ.out⟩
      ·rw [decide_eq_false (by omega : ¬ q = 0)] at CS
       have q8 : ((q : Int) == 0) = false := by rw [beq_eq_false_iff_ne]; omega
       go_wp2_with fail
       refine CA.mono ?_
       rintro e wy ⟨rfl, hwy⟩
       subst hwy
       go_wp2_with fail
       go_wp2_with fail
       refine CS.out.mono ?_
       rintro e wy ⟨rfl, hby⟩
       have HBY := Lib.hid hby
       clear hby
       go_wp2_with fail
       refine (CD.out _ HBY.out).mono ?_
       rintro e wz ⟨rfl, hwz⟩
       subst hwz
       go_wp2_with fail
       refine (CK.out _).mono ?_
       rintro e wz ⟨rfl, hbz⟩
       have HBZ := Lib.hid (bthen HBW.out (bthen HBY.out hbz))
       clear hbz
       go_wp2_with fail
       go_ret
       exact ⟨rfl, HBZ.out⟩
   ·have CA := carried_out _ _ _ _ _ i HTR.out.n hi
    go_wp2_with fail
    refine CA.mono ?_
    rintro e wd ⟨rfl, rfl⟩
    clear CA
    go_wp2_with fail
    obtain ⟨T, rfl⟩ : ∃ T : Nat, t = (T : Int) := ⟨t.toNat, by have := HT.out; omega⟩
    have hT : T ≤ 20 := by have := HT.out; omega
    have HI := Lib.hid hi
    have hiM : i < 0 ∨ (M.length : Int) ≤ i := by have := HD.out.len; omega
    have HIM := Lib.hid hiM
    clear hi hiM
    go_loopw [12] (fun iv wr => ∃ q : Nat, q ≤ T ∧ iv = .int .i64 (q : Int) ∧ Trio w wr B sv L D su L C sw M) (fun iv _ => T - (intOf iv).toNat)
    case atStart => exact ⟨0, by omega, rfl, HTR.out⟩
    case round =>
     obtain ⟨q, hq, rfl, htr⟩ := hrel
     have HTQ := Lib.hid htr
     clear htr
     by_cases hlq : q < T
     ·have CA := carry_out _ _ _ _ _ i HTQ.out.n HI.out
      have CR := rat_out _ _ _ _ _ _ i HTQ.out.r HIM.out
      have CN := Lib.hid (fun (W : World) => num20_any 6 W)
      have q5 : decide ((q : Int) < (T : Int)) = true := decide_eq_true (by omega)
      go_wp2_with fail
      refine CA.mono ?_
      rintro e we ⟨rfl, rfl⟩
      go_wp2_with fail
      refine CR.mono ?_
      rintro e wf ⟨rfl, hwf⟩
      subst hwf
      have htx := run_text wr _ _ [] (Rd.of_own (World.ownsRow_nil wr 0 5 1))
      go_wp2_with (go_at_call 65; refine (CN.out _).mono ?_; rintro e wx ⟨rfl, rfl⟩)
      clear CA CR htx
      go_loopw [19] (fun iv ws => iv = .int .i64 0 ∧ ws = wr) (fun _ _ => 0)
      case atStart => exact ⟨rfl, rfl⟩
      case round =>
       obtain ⟨rfl, hws⟩ := hrel
       subst hws
       go_wp2_with fail
       go_roundw
       case rel => exact ⟨q + 1, by omega, by go_num, HTQ.out⟩
       case measure => simp [intOf]; omega
     ·obtain rfl : q = T := by omega
      have q5 : decide ((q : Int) < (q : Int)) = false := decide_eq_false (by omega)
      have CS := Lib.hid (same_at2 _ _ _ _ _ _ _ _ HTQ.out.n HTQ.out.c)
      have hsm : decide (L.map key = L.map key) = true := decide_eq_true rfl
      rw [hsm] at CS
      have CD := Lib.hid (fun (W : World) (hW : Below wr.heap.size wr W) => carried_out _ _ _ _ _ i (HTQ.out.mono hW).c HI.out)
      have HBW := Lib.hid HTQ.out.below
      have r0 := HTQ.out.r.cell
      obtain ⟨aw, cw, rfl, _⟩ := Rd.of_own HTQ.out.r.row
      clear hsm
      by_cases hneg : 0 ≤ i
      ·have q6 : decide (0 ≤ i) = true := decide_eq_true hneg
       have q7 : decide (i < (M.length : Int)) = false := decide_eq_false (by have := HIM.out; omega)
       clear hneg
       go_wp2_with fail
       refine CS.out.mono ?_
       rintro e wy ⟨rfl, hby⟩
       have HBY := Lib.hid hby
       clear hby
       go_wp2_with fail
       refine (CD.out _ HBY.out).mono ?_
       rintro e wz ⟨rfl, hwz⟩
       subst hwz
       go_wp2_with fail
       refine (CK.out _).mono ?_
       rintro e wz ⟨rfl, hbz⟩
       have HBZ := Lib.hid (bthen HBW.out (bthen HBY.out hbz))
       clear hbz
       go_wp2_with fail
       go_ret
       exact ⟨rfl, HBZ.out⟩
      ·have q6 : decide (0 ≤ i) = false := decide_eq_false hneg
       clear hneg
       go_wp2_with fail
       refine CS.out.mono ?_
       rintro e wy ⟨rfl, hby⟩
       have HBY := Lib.hid hby
       clear hby
       go_wp2_with fail
       refine (CD.out _ HBY.out).mono ?_
       rintro e wz ⟨rfl, hwz⟩
       subst hwz
       go_wp2_with fail
       refine (CK.out _).mono ?_
       rintro e wz ⟨rfl, hbz⟩
       have HBZ := Lib.hid (bthen HBW.out (bthen HBY.out hbz))
       clear hbz
       go_wp2_with fail
       go_ret
       exact ⟨rfl, HBZ.out⟩
end Go.Proofs.Ytgkelbdgdhkeoaa
