/- wire.high, walked over slices.Backward's iterator. -/
import Derived.Test.YtgkelbdgdhkeoaaBaseIn
import Derived.Test.YtgkelbdgdhkeoaaWire4
namespace Go.Proofs.Ytgkelbdgdhkeoaa
open Go.RowKit Go.Shelf
set_option linter.unusedVariables false
attribute [local go_sem] Oper.semAt_some
open Wire

/-- Bytes with their places, from behind. -/
def backL (bs : List UInt8) : List (Nat × UInt8) := (List.range bs.length).map fun i => (bs.length - 1 - i, bs.getD (bs.length - 1 - i) 0)
def itemVb (x : Nat × UInt8) : Array Value := #[.int .i64 (x.1 : Int), .int .u8 (x.2.toNat : Int)]
theorem backL_len (bs : List UInt8) : (backL bs).length = bs.length := by simp [backL]
theorem backL_take (bs : List UInt8) (j i : Nat) (h : bs.length = j + 1 + i) : (backL bs).take j ++ [(i, bs.getD i 0)] = (backL bs).take (j + 1) := by
  have h1 : (backL bs)[j]? = some (i, bs.getD i 0) := by
    have e : bs.length - 1 - j = i := by omega
    have h2 : (List.range bs.length)[j]? = some j := by rw [List.getElem?_range (by omega)]
    simp only [backL, List.getElem?_map, h2, Option.map_some, e]
  rw [List.take_add_one, h1]
  rfl

set_option maxRecDepth 100000 in
set_option maxHeartbeats 2000000 in
theorem back_stops (F : Fence) (n : Nat) (hfn : F.fn 165) (hro : F.round = none) (hn : 1 ≤ n) (Ba Bn : Nat) (ao : Option Addr) (cap m : Nat) (bs : List UInt8) (w : World) (hBa : Ba < w.heap.size)
    (hrd : Rd w 1 (.slice ao m cap) m (bV bs)) (hnb : ∀ b off, ao = some ⟨b, off, none⟩ → 0 < m → b ≠ Bn) (hne : Ba ≠ Bn) (hBn : Bn < w.heap.size) (hca : w.cell? ⟨Ba, 0, none⟩ = some (.slice ao m cap)) (hm : m ≤ 1000000) :
    SeqStopsK F n Try.prog 165 #[.pointer (some ⟨Ba, 0, none⟩)] itemVb (KpF fun _ k => k = Bn) (fun ys => ys = backL bs) (fun pre => pre <+: backL bs) m w := by
  intro l J Jx W hW hJ hJx hY h0
  have hlen : bs.length = m := by obtain ⟨_, _, _, hl, _⟩ := hrd; simpa [bV] using hl
  have hca' : W.cell? ⟨Ba, 0, none⟩ = some (.slice ao m cap) := (hW.cell (p := ⟨Ba, 0, none⟩) hBa).trans hca
  have hrd' := hrd.below hW
  have hcapm : m ≤ cap := by obtain ⟨_, _, hv, _, _, hc, _⟩ := hrd; obtain ⟨rfl, _, rfl⟩ := Value.slice.inj hv; exact hc.2.1
  have HRD := Lib.hid hrd'
  have HL := Lib.hid hlen
  have HNB := Lib.hid hnb
  have HH0 := Lib.hid h0
  clear hrd hrd' hca hlen hnb h0
  refine callsIn_of_wp Try.func165 rfl hfn ?_ hro
  simp only [Try.ntmps165, List.size_toArray, List.length_cons, List.length_nil, Nat.reduceAdd, Nat.reduceSub, Array.replicate_succ, Array.replicate_zero, List.push_toArray, List.append_toArray, List.nil_append, List.cons_append]
  gi_wp2
  gi_loopw [3] (fun d wr => ∃ j : Nat, j ≤ m ∧ d = .int .i64 ((m : Int) - 1 - (j : Int)) ∧ J ((backL bs).take j) wr ∧ KpF (fun _ k => k = Bn) W wr)
    (fun d _ => (intOf d + 1).toNat)
  case atStart =>
    exact ⟨0, Nat.zero_le _, by simp, by simpa using HH0.out, KpF.refl _ _⟩
  case round =>
    obtain ⟨j, hj, rfl, hJs, hbw⟩ := hrel
    have hca2 : wr.cell? ⟨Ba, 0, none⟩ = some (.slice ao m cap) := hbw.cell hca' hne
    by_cases hlt : j < m
    · obtain ⟨i, hi⟩ : ∃ i, m = j + 1 + i := ⟨m - 1 - j, by omega⟩
      have hd : (m : Int) - 1 - (j : Int) = (i : Int) := by omega
      have hbi : bs[i]? = some (bs.getD i 0) := by
        have h1 : i < bs.length := by rw [HL.out]; omega
        simp [List.getD, h1]
      obtain ⟨_, _, hv, _, _, _, hcc⟩ := HRD.out
      obtain ⟨rfl, _, rfl⟩ := Value.slice.inj hv
      obtain ⟨b, off, rfl, hbl, hcell⟩ := hcc i _ (bV_get hbi)
      have hc2 := hbw.cell hcell (HNB.out b off rfl (by omega))
      have HT := Lib.hid (backL_take bs j i (by rw [HL.out]; exact hi))
      obtain ⟨fn, tmps, assign, body, hy, hR⟩ := hY _ (i, bs.getD i 0) _ hJs (by rw [List.length_take, backL_len, HL.out]; omega)
      dsimp only [itemVb] at hy
      rw [hd]
      have HDI := Lib.hid hd
      have him : (i : Int) < (m : Int) := by omega
      have HM := Lib.hid hi
      generalize bs.getD i 0 = c at *
      have hcb := byte_lt c
      clear hY hcc hv hcell hJs hbi hd hi
      gi_wp2
      refine hR.mono ?_
      rintro e W3 (⟨rfl, hJ3, hk3⟩ | ⟨rfl, hx3⟩)
      · have hk4 := hbw.trans hk3
        rw [HT.out] at hJ3
        clear hy hR hk3 hbw
        gi_wp2
        go_roundw
        case rel => exact ⟨j + 1, by omega, by have := HDI.out; go_num, hJ3, hk4⟩
        case measure => first | (simp [intOf]; done) | (simp [intOf]; omega)
      · gi_wp2
        refine bodyPost_ret (results_none rfl _ _ _) rfl ?_
        exact ⟨⟨_, rfl⟩, .inr ⟨_, by rw [HT.out]; exact List.take_prefix _ _, hx3⟩⟩
    · obtain rfl : j = m := by omega
      have hd : (j : Int) - 1 - (j : Int) = -1 := by omega
      rw [hd]
      clear hd
      gi_wp2
      go_end0
      refine ⟨⟨_, rfl⟩, .inl ?_⟩
      rw [← HL.out, ← backL_len, List.take_length] at hJs
      exact ⟨_, rfl, hJs⟩

theorem back_in (F : Fence) (n : Nat) (hfn : F.fn 162) (hro : F.round = none) (v : Value) (w : World) (hv : ∃ ao m cap, v = .slice ao m cap) : CallsIn F n Try.prog 162 #[v] w fun e w' =>
    e = .returned (.func (.func 165) #[] #[.pointer (some ⟨w.heap.size, 0, none⟩)]) ∧ w.alloc (.cells #[v] 24) = w' := by
  obtain ⟨ao, m, cap, rfl⟩ := hv
  refine callsIn_of_wp Try.func162 rfl hfn ?_ hro
  simp only [Try.ntmps162, List.size_toArray, List.length_cons, List.length_nil, Nat.reduceAdd, Nat.reduceSub, Array.replicate_succ, Array.replicate_zero, List.push_toArray, List.append_toArray, List.nil_append, List.cons_append]
  gi_wp2
  go_ret
  exact ⟨rfl, rfl⟩

/-- The number of the bytes gone over so far. -/
def highL (pre : List (Nat × UInt8)) : Nat := pre.foldl (fun n x => n * 256 + x.2.toNat) 0
theorem highL_snoc (pre : List (Nat × UInt8)) (x : Nat × UInt8) : highL (pre ++ [x]) = highL pre * 256 + x.2.toNat := by simp [highL]
theorem highL_go (pre : List (Nat × UInt8)) : ∀ n, pre.foldl (fun n x => n * 256 + x.2.toNat) n < (n + 1) * 256 ^ pre.length := by
  induction pre with
  | nil => intro n; simp
  | cons x l ih =>
    intro n
    have h := ih (n * 256 + x.2.toNat)
    have hx := x.2.toNat_lt
    rw [List.foldl_cons, List.length_cons, Nat.pow_succ]
    refine Nat.lt_of_lt_of_le h ?_
    rw [Nat.mul_comm (256 ^ l.length) 256, ← Nat.mul_assoc]
    exact Nat.mul_le_mul_right _ (by omega)
theorem highL_lt (pre : List (Nat × UInt8)) : highL pre < 256 ^ pre.length := by
  have := highL_go pre 0
  simpa [highL] using this
theorem highL_take (bs : List UInt8) : ∀ j, j ≤ bs.length → highL ((backL bs).take j) = sum (bs.drop (bs.length - j)) := by
  intro j
  induction j with
  | zero => intro _; simp [highL, sum]
  | succ j ih =>
    intro hj
    obtain ⟨i, hi⟩ : ∃ i, bs.length = j + 1 + i := ⟨bs.length - 1 - j, by omega⟩
    rw [← backL_take bs j i hi, highL_snoc, ih (by omega)]
    have e1 : bs.length - (j + 1) = i := by omega
    have e2 : bs.length - j = i + 1 := by omega
    have hd : bs.drop i = bs.getD i 0 :: bs.drop (i + 1) := by
      rw [List.drop_eq_getElem_cons (show i < bs.length by omega)]
      simp [List.getD, show i < bs.length by omega]
    rw [e1, e2, hd, sum]
    dsimp only
    omega
theorem highL_all (bs : List UInt8) : highL (backL bs) = sum bs := by
  have := highL_take bs bs.length (Nat.le_refl _)
  rw [← backL_len, List.take_length, backL_len, Nat.sub_self, List.drop_zero] at this
  exact this

theorem results_cell_int {P : Program} {fn : Func} {p : Tmp} {ty : TypeId} {k : IntKind} {n : Int} (h : fn.results = #[.cell p ty]) (hty : P.underlying ty = some (.int k)) (tmps : Array Value) (w : World) (a : Addr)
    (hp : tmps.getD p undef = .pointer (some a)) (hc : w.cell? a = some (.int k n)) : (results fn tmps).run P w = .ok (.int k n) w := by
  have hp' : tmps[p]?.getD undef = .pointer (some a) := by simpa using hp
  simp [results, h, hp', asAddr, loadVar, isAgg, Sem.run_bind, run_underlying hty, go_sem, hc]
theorem or_low (y c : Nat) (hy : y < 72057594037927936) (hc : c < 256) : bits .or .u64 ((y : Int) * 256) (c : Int) = ((y * 256 + c : Nat) : Int) := by
  have h2 : ((y : Int) * 256) = ((y * 256 : Nat) : Int) := by omega
  rw [h2, bits_or_u64_nat _ _ (by omega) (by omega)]
  have := Nat.two_pow_add_eq_or_of_lt (i := 8) (b := c) (by omega) y
  have h3 : y * 256 ||| c = y * 256 + c := by
    have e : 2 ^ 8 * y = y * 256 := by omega
    rw [e] at this
    exact this.symm
  rw [h3]

set_option maxRecDepth 100000 in
set_option maxHeartbeats 2000000 in
theorem high_in (ao : Option Addr) (cap m : Nat) (bs : List UInt8) (w : World) (hrd : Rd w 1 (.slice ao m cap) m (bV bs)) (hm : m ≤ 8) :
    CallsIn Fence.wide 5 Try.prog 158 #[.slice ao m cap] w fun e w' => e = .returned (.int .u64 (sum bs : Int)) ∧ Below w.heap.size w w' := by
  have hro : Fence.wide.round = none := rfl
  have h1 : 1 ≤ 5 := by omega
  have HRD := Lib.hid hrd
  refine callsIn_of_wp_marks Try.func158 rfl trivial ?_ hro
  simp only [Try.ntmps158, List.size_toArray, List.length_cons, List.length_nil, Nat.reduceAdd, Nat.reduceSub, Array.replicate_succ, Array.replicate_zero, List.push_toArray, List.append_toArray, List.nil_append, List.cons_append]
  clear hrd
  gi_wp2_with (refine ⟨trivial, ?_⟩; gi_at_call 162; refine (back_in _ _ trivial hro _ _ ⟨_, _, _, rfl⟩).mono ?_; rintro e w' ⟨rfl, rfl⟩)
  have c0 := newCell w (.int .u64 0) 23
  have c1 := newCell (w.alloc (.cells #[.int .u64 0] 23)) (.slice ao m cap) 24
  simp only [World.size_alloc] at c1
  have hB0 : Below w.heap.size w ((w.alloc (.cells #[.int .u64 0] 23)).alloc (.cells #[.slice ao m cap] 24)) := balloc (balloc (Below.refl _ _) _) _
  have hnb : ∀ b off, ao = some ⟨b, off, none⟩ → 0 < m → b ≠ w.heap.size := by
    intro b off ha h0
    obtain ⟨_, _, hv, hl, _, _, hcc⟩ := HRD.out
    obtain ⟨rfl, _, rfl⟩ := Value.slice.inj hv
    have hl2 : bs.length = m := by simpa [bV] using hl
    obtain ⟨b', off', hb', hlt, _⟩ := hcc 0 _ (bV_get (List.getElem?_eq_getElem (by omega)))
    rw [ha] at hb'
    obtain ⟨rfl, rfl⟩ : b = b' ∧ off = off' := by simpa using hb'
    omega
  refine wpIn_rangeFunc_ownF hro h1 (gf := 165) (lb := #[.pointer (some ⟨w.heap.size + 1, 0, none⟩)]) rfl trivial (enters_of Try.func165 (by kernel_rfl) rfl)
    (back_stops Fence.wide (5 - 1) trivial hro (by omega) (w.heap.size + 1) w.heap.size ao cap m bs _ (by simp) (HRD.out.below hB0) hnb (by omega) (by simp; omega) c1.1 (by omega))
    KpF.trans (KpF.put (fun _ _ _ _ _ _ _ _ h => h)) (Below.refl _ _) (fun _ => rfl)
    (fun pre W => (W.cell? ⟨w.heap.size, 0, none⟩ = some (.int .u64 (highL pre : Int)) ∧ W.frozen? ⟨w.heap.size, 0, none⟩ = false) ∧ Below w.heap.size w W)
    (fun _ _ _ => False)
    (OwnFrom.and (Own.from (fun s A B row hs hg hr => ⟨cell_kept hs.1 hg hr, (frozen_kept hs.1 hg hr).trans hs.2⟩) _) (ownFrom_below (Nat.le_refl _) (by simp; omega)))
    (fun _ _ _ _ _ hs _ _ => hs)
    ⟨⟨cellAlloc _ c0.1, frozenAlloc _ c0.1 c0.2⟩, hB0⟩
    (fun x => { tmps := #[.slice ao m cap, undef, .pointer (some ⟨w.heap.size, 0, none⟩), undef, .int .u8 (x.2.toNat : Int), .slice ao m cap, .func (.func 165) #[] #[.pointer (some ⟨w.heap.size + 1, 0, none⟩)], .int .i64 (x.1 : Int), .int .u8 (x.2.toNat : Int), undef, undef, undef, undef, undef, undef], defers := [] }) ?assign ?body ?done ?stop
  case assign =>
    intro l x W K hK
    gi_wp2
    simpa [itemVb] using hK
  case body =>
    rintro l pre x W ⟨⟨hc, hf⟩, hB⟩ hlt
    have hy : highL pre < 72057594037927936 := by
      have h2 := highL_lt pre
      have h3 : 256 ^ pre.length ≤ 256 ^ 7 := Nat.pow_le_pow_right (by omega) (by omega)
      omega
    have HS := Lib.hid (highL_snoc pre x)
    have hxb := byte_lt x.2
    generalize hyy : highL pre = y at *
    have HY := Lib.hid hyy
    clear hyy
    have HO := or_low y x.2.toNat hy hxb
    rw [← HS.out] at HO
    have HO2 := Lib.hid HO
    clear HO
    gi_wp2
    rw [HO2.out]
    refine ⟨KeepsOthers.setCell _ _ _, KpF.setCell _ _ rfl (fun k h => h), ⟨?_, by rw [World.frozen?_setCell]; exact hf⟩, hB.setCell (p := ⟨w.heap.size, 0, none⟩) (Nat.le_refl _) _⟩
    rw [World.cell?_setCell_same' _ _ _ (by rw [hc]; rfl)]
  case done =>
    rintro D ys W hD rfl ⟨⟨hc, hf⟩, hB⟩ hK
    rw [highL_all] at hc
    generalize hyy : sum bs = y at *
    have HYY := Lib.hid hyy
    clear hyy
    have hne : D ≠ w.heap.size := by simp at hD; omega
    have hK2 : (W.setCell ⟨w.heap.size, 0, none⟩ (.int .u64 (y : Int))).heap[D]? = some (Obj.deferred (some [])) := (setOther _ _ hne).trans hK
    have hc2 : ((W.setCell ⟨w.heap.size, 0, none⟩ (.int .u64 (y : Int))).putObj D (.deferred none)).cell? ⟨w.heap.size, 0, none⟩ = some (.int .u64 (y : Int)) :=
      (World.cell?_of_block (World.putObj_heap_other (show w.heap.size ≠ D by omega))).trans (World.cell?_setCell_same' _ _ _ (by rw [hc]; rfl))
    have hB2 := hB.setCell (p := ⟨w.heap.size, 0, none⟩) (Nat.le_refl _) (.int .u64 (y : Int))
    have HK2 := Lib.hid hK2
    have HC2 := Lib.hid hc2
    have HB2 := Lib.hid hB2
    clear hK2 hc2 hB2
    gi_wp2
    refine ⟨by simp, .inl ⟨_, _, rfl, run_takeDeferred HK2.out, ?_⟩⟩
    exact ⟨_, results_cell_int rfl Try.underlying23 _ _ ⟨w.heap.size, 0, none⟩ rfl HC2.out, by rw [HYY.out], HB2.out.trans (belowK_b (w := w) (Nat.le_refl _) _ D _ _ (by simp at hD; omega) HK2.out rfl rfl)⟩
  case stop =>
    rintro D c pre W _ _ h _
    exact h.elim

theorem high_any (v : Value) (m : Nat) (bs : List UInt8) (w : World) (hrd : Rd w 1 v m (bV bs)) (hm : m ≤ 8) :
    Calls Try.prog 158 #[v] w fun e w' => e = .returned (.int .u64 (sum bs : Int)) ∧ Below w.heap.size w w' := by
  have h := hrd
  obtain ⟨ao, cap, rfl, _⟩ := h
  exact callsIn_wide.1 (high_in ao cap m bs w hrd hm)
end Go.Proofs.Ytgkelbdgdhkeoaa
