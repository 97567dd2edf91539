import Derived.Test.YtgmahhdnjikdjaaGreatVG13
import Derived.Test.YtgmahhdnjikdjaaGreatVG14
set_option linter.unusedVariables false
set_option linter.unusedSimpArgs false
/- store: readPages, walked. -/
namespace Go.Proofs.YtgmahhdnjikdjaaGreat
open Go.RowKit Wire
set_option linter.unusedVariables false
set_option linter.unusedSimpArgs false
theorem partC_eq (cs : List Nat) (i : Nat) : partC cs i = (cs.drop (i * 120)).take 120 ++ List.replicate (120 - ((cs.drop (i * 120)).take 120).length) 0 := by
 unfold partC splice
 rw [List.take_zero, List.nil_append, List.drop_replicate, Nat.zero_add]
theorem parts_flat (cs : List Nat) : ∀ i, (i ≠ 0 → (i - 1) * 120 < cs.length) → ((List.range i).map (partC cs)).flatten = cs.take (i * 120) ++ List.replicate (i * 120 - cs.length) 0
 | 0, _ => by simp
 | i + 1, h => by
  have hi : i * 120 < cs.length := h (by omega)
  rw [List.range_succ, List.map_append, List.flatten_append, parts_flat cs i (fun hn => by omega), show i * 120 - cs.length = 0 by omega, List.replicate_zero, List.append_nil, List.map_cons, List.map_nil, List.flatten_cons, List.flatten_nil, List.append_nil, partC_eq, ← List.append_assoc, show (i + 1) * 120 = i * 120 + 120 by omega, List.take_add]
  congr 2
  rw [List.length_take, List.length_drop]
  omega
theorem parts_all {cs : List Nat} (h : 1 ≤ cs.length) : ((List.range (pagesN cs.length)).map (partC cs)).flatten = cs ++ List.replicate (pagesN cs.length * 120 - cs.length) 0 := by
 have hp : pagesN cs.length = (cs.length - 1) / 120 + 1 := by unfold pagesN; rw [if_neg (by omega)]
 rw [parts_flat cs _ (fun _ => by rw [hp]; omega), List.take_of_length_le (by rw [hp]; omega)]
/-- Pages that were read, in memory. -/
def PgR (w : World) (b : Nat) (v : Value) (n : Nat) (cs : List Nat) : Prop := ∃ L, w.ownsRow b 188 1 v n L ∧ ∀ k x, L[k]? = some x → ∃ g, x = .slice (some ⟨g, 0, none⟩) 120 120 ∧ BoxC w g (partC cs k)
theorem PgR.mods {w w' : World} {b n : Nat} {v : Value} {cs F : List Nat} (h : PgR w b v n cs) (hm : Mods F w w') (h1 : ∀ k ∈ ob v, k ∉ F) (h2 : ∀ k cs f, w.heap[k]? = some (.cells cs 172 f) → k ∉ F) : PgR w' b v n cs := by
 obtain ⟨L, ho, hL⟩ := h
 refine ⟨L, ownsRow_at ho (fun k hk => hm.block k (ownsRow_lt ho k hk) (h1 k hk)), fun k x hx => ?_⟩
 obtain ⟨g, hg, hb⟩ := hL k x hx
 exact ⟨g, hg, (hm.block g (Array.getElem?_eq_some_iff.1 hb).1 (h2 g _ _ hb)).trans hb⟩
theorem PgR.below {w w' : World} {b n : Nat} {v : Value} {cs : List Nat} (h : PgR w b v n cs) (hb : Below w.heap.size w w') : PgR w' b v n cs :=
 h.mods (F := []) (Mods.of_below hb) (fun k _ => by simp) (fun k _ _ _ => by simp)
theorem PgR.pgs {w : World} {b n : Nat} {v : Value} {cs : List Nat} (h : PgR w b v n cs) : PgsAt w v n ((List.range n).map (partC cs)) := by
 obtain ⟨L, ho, hL⟩ := h
 have hl := ho.1
 rw [Nat.mul_one] at hl
 refine ⟨L, Rd.of_own ho, hl, by simp, fun k x p hx hp => ?_⟩
 obtain ⟨g, rfl, hb⟩ := hL k x hx
 have hk : k < n := by rw [← hl]; exact (List.getElem?_eq_some_iff.1 hx).1
 rw [List.getElem?_map, List.getElem?_range hk] at hp
 obtain rfl := Option.some.inj hp
 exact ⟨partC_len _ _, ⟨_, _, rfl⟩, hb.rd (partC_len _ _) (by omega)⟩
/-- What readPages has, behind so many pages. -/
def RPs (b : Nat) (wr : World) (q : Nat) (mcs dcs : List Nat) (n0 n1 : Nat) : Prop := ∃ v0 v1, wr.heap[q]? = some (.cells #[v0, v1] 250 (0, 0)) ∧ PgR wr b v0 n0 mcs ∧ PgR wr b v1 n1 dcs ∧ ∀ k ∈ ob v1, k ∉ ob v0
theorem RPs.below {b : Nat} {w w' : World} {q : Nat} {mcs dcs : List Nat} {n0 n1 : Nat} (h : RPs b w q mcs dcs n0 n1) (hb : Below w.heap.size w w') : RPs b w' q mcs dcs n0 n1 := by
 obtain ⟨v0, v1, hq, h0, h1, hd⟩ := h
 exact ⟨v0, v1, (hb.block q (Array.getElem?_eq_some_iff.1 hq).1).trans hq, h0.below hb, h1.below hb, hd⟩
theorem infoU16s : (Tryz.prog.info? 188).map (fun i => (i.zero, i.size, i.bytes)) = some (some (.slice none 0 0), 1, 24) := by kernel_rfl
/-- A page more. -/
theorem PgR.snoc {w w' : World} {b n g : Nat} {v v' : Value} {cs : List Nat} {L : List Value} (ho : w.ownsRow b 188 1 v n L) (hL : ∀ k x, L[k]? = some x → ∃ g, x = .slice (some ⟨g, 0, none⟩) 120 120 ∧ BoxC w g (partC cs k)) (hg : BoxC w g (partC cs n)) (hm : Mods (ob v) w w') (ho' : w'.ownsRow b 188 1 v' (n + 1) (L ++ [.slice (some ⟨g, 0, none⟩) 120 120])) : PgR w' b v' (n + 1) cs := by
 have ht : ∀ k cs f, w.heap[k]? = some (.cells cs 172 f) → k ∉ ob v := fun k cs f hk hk2 => by
  obtain ⟨cs2, f2, h2⟩ := own_tagS ho k hk2
  rw [hk] at h2
  have e := (Obj.cells.inj (Option.some.inj h2)).2.1
  exact absurd e (by decide)
 have hl := ho.1
 rw [Nat.mul_one] at hl
 refine ⟨_, ho', fun k x hx => ?_⟩
 by_cases hk : k < n
 ·rw [List.getElem?_append_left (by omega)] at hx
  obtain ⟨g', rfl, hb⟩ := hL k x hx
  exact ⟨g', rfl, (hm.block g' (Array.getElem?_eq_some_iff.1 hb).1 (ht g' _ _ hb)).trans hb⟩
 ·rw [List.getElem?_append_right (by omega)] at hx
  have hk2 : k = n := by
   have := (List.getElem?_eq_some_iff.1 hx).1
   simp at this
   omega
  subst hk2
  rw [hl, Nat.sub_self] at hx
  obtain rfl := Option.some.inj hx
  exact ⟨g, rfl, (hm.block g (Array.getElem?_eq_some_iff.1 hg).1 (ht g _ _ hg)).trans hg⟩
theorem RPs.push0 {b : Nat} {w w1 : World} {q n0 n1 g : Nat} {mcs dcs L : List Nat} {v0 v1 v' : Value} {LL : List Value} (hq : w.heap[q]? = some (.cells #[v0, v1] 250 (0, 0))) (ho : w.ownsRow b 188 1 v0 n0 LL) (hL : ∀ k x, LL[k]? = some x → ∃ g, x = .slice (some ⟨g, 0, none⟩) 120 120 ∧ BoxC w g (partC mcs k)) (hg : BoxC w g (partC mcs n0)) (h1 : PgR w b v1 n1 dcs) (hd : ∀ k ∈ ob v1, k ∉ ob v0) (hc : Chg (ob v0) w w1 (ob v')) (ho' : w1.ownsRow b 188 1 v' (n0 + 1) (LL ++ [.slice (some ⟨g, 0, none⟩) 120 120])) : RPs b (w1.setCell ⟨q, 0, none⟩ v') q mcs dcs (n0 + 1) n1 := by
 have hqn : q ∉ ob v0 := ob_tag ho hq (by decide)
 have hq1 : w1.heap[q]? = some (.cells #[v0, v1] 250 (0, 0)) := (hc.1.block q (Array.getElem?_eq_some_iff.1 hq).1 hqn).trans hq
 have p0 : PgR w1 b v' (n0 + 1) mcs := PgR.snoc ho hL hg hc.1 ho'
 have p1 : PgR w1 b v1 n1 dcs := h1.mods hc.1 hd (fun k cs f hk => ob_tag ho hk (by decide))
 have hms : Mods [q] w1 (w1.setCell ⟨q, 0, none⟩ v') := (Mods.refl _ _).setCell (p := ⟨q, 0, none⟩) (List.mem_singleton.2 rfl) _
 have hu : ∀ k cs f, w1.heap[k]? = some (.cells cs 172 f) → k ∉ [q] := fun k cs f hk hk2 => by
  rw [List.mem_singleton.1 hk2, hq1] at hk
  exact absurd (Obj.cells.inj (Option.some.inj hk)).2.1 (by decide)
 have ho1 := p1
 obtain ⟨L1, hL1, _⟩ := ho1
 refine ⟨v', v1, setOf hq1 0 v', p0.mods hms (fun k hk hk2 => ob_tag ho' hq1 (by decide) (by rw [← List.mem_singleton.1 hk2]; exact hk)) hu, p1.mods hms (fun k hk hk2 => ob_tag hL1 hq1 (by decide) (by rw [← List.mem_singleton.1 hk2]; exact hk)) hu, fun k hk hk2 => ?_⟩
 rcases hc.2 k hk2 with h | h
 ·exact hd k hk h
 ·obtain ⟨L0, hL0, _⟩ := h1
  have := ownsRow_lt hL0 k hk
  omega
theorem RPs.push1 {b : Nat} {w w1 : World} {q n0 n1 g : Nat} {mcs dcs L : List Nat} {v0 v1 v' : Value} {LL : List Value} (hq : w.heap[q]? = some (.cells #[v0, v1] 250 (0, 0))) (ho : w.ownsRow b 188 1 v1 n1 LL) (hL : ∀ k x, LL[k]? = some x → ∃ g, x = .slice (some ⟨g, 0, none⟩) 120 120 ∧ BoxC w g (partC dcs k)) (hg : BoxC w g (partC dcs n1)) (h1 : PgR w b v0 n0 mcs) (hd : ∀ k ∈ ob v1, k ∉ ob v0) (hc : Chg (ob v1) w w1 (ob v')) (ho' : w1.ownsRow b 188 1 v' (n1 + 1) (LL ++ [.slice (some ⟨g, 0, none⟩) 120 120])) : RPs b (w1.setCell ⟨q, 1, none⟩ v') q mcs dcs n0 (n1 + 1) := by
 have hqn : q ∉ ob v1 := ob_tag ho hq (by decide)
 have hq1 : w1.heap[q]? = some (.cells #[v0, v1] 250 (0, 0)) := (hc.1.block q (Array.getElem?_eq_some_iff.1 hq).1 hqn).trans hq
 have p0 : PgR w1 b v' (n1 + 1) dcs := PgR.snoc ho hL hg hc.1 ho'
 have p1 : PgR w1 b v0 n0 mcs := h1.mods hc.1 (fun k hk hk2 => hd k hk2 hk) (fun k cs f hk => ob_tag ho hk (by decide))
 have hms : Mods [q] w1 (w1.setCell ⟨q, 1, none⟩ v') := (Mods.refl _ _).setCell (p := ⟨q, 1, none⟩) (List.mem_singleton.2 rfl) _
 have hu : ∀ k cs f, w1.heap[k]? = some (.cells cs 172 f) → k ∉ [q] := fun k cs f hk hk2 => by
  rw [List.mem_singleton.1 hk2, hq1] at hk
  exact absurd (Obj.cells.inj (Option.some.inj hk)).2.1 (by decide)
 have ho1 := p1
 obtain ⟨L1, hL1, _⟩ := ho1
 refine ⟨v0, v', setOf hq1 1 v', p1.mods hms (fun k hk hk2 => ob_tag hL1 hq1 (by decide) (by rw [← List.mem_singleton.1 hk2]; exact hk)) hu, p0.mods hms (fun k hk hk2 => ob_tag ho' hq1 (by decide) (by rw [← List.mem_singleton.1 hk2]; exact hk)) hu, fun k hk hk2 => ?_⟩
 rcases hc.2 k hk with h | h
 ·exact hd k h hk2
 ·obtain ⟨L0, hL0, _⟩ := h1
  have := ownsRow_lt hL0 k hk2
  omega
theorem join_ps {n : Nat} {cs : List Nat} (hl : cs.length = n) (hn : 1 ≤ n) : (((List.range (pagesN n)).map (partC cs)).flatten).take n = cs ∧ ∀ x ∈ (((List.range (pagesN n)).map (partC cs)).flatten).drop n, x = 0 := by
 subst hl
 rw [parts_all hn]
 refine ⟨by rw [List.take_left], fun x hx => ?_⟩
 rw [List.drop_left] at hx
 exact List.eq_of_mem_replicate hx
set_option maxRecDepth 100000 in
set_option maxHeartbeats 12800000 in
theorem srp_at (n0 : Nat) (w : World) (B : Nat) (iv jv : Value) (d : Dk) (h : DkAt n0 w B iv jv d) (s : Su) (m k : Nat) (hsm : s.mt = (m : Int)) (hsk : s.data = (k : Int)) (hpg : ∀ i, s.pages.getD i 0 < 4294967296) (mcs dcs : List Nat) (hml : mcs.length = m) (hdl : dcs.length = k) (h1 : 1 ≤ m ∧ m ≤ 1000) (h2 : 1 ≤ k ∧ k ≤ 1000) (hmc : ∀ c ∈ mcs, c < 65536) (hdc : ∀ c ∈ dcs, c < 65536) (P : Nat) (hP : pagesN m + pagesN k = P) (hP6 : P ≤ 6) (hfit : ∀ i, i < P → (2 + s.pages.getD i 0) * 4 + 4 ≤ d.img.length) (hn : d.img.length ≤ 1000000) (hgd : ∀ i, i < P → rdB d.img (2 + s.pages.getD i 0) = wpB s.pages mcs dcs i) :
  Calls Tryz.prog 93 #[.pointer (some ⟨B, 0, none⟩), suV s] w fun e w' => ∃ pm pd Fm Fd, e = .returned (.tuple #[pt pm, pt pd, .int .i64 0]) ∧ IA w' pm ⟨mcs, mcs, 0, 0⟩ Fm ∧ IA w' pd ⟨dcs, dcs, 0, 0⟩ Fd ∧ Below w.heap.size w w' ∧ (∀ k ∈ Fm, w.heap.size ≤ k) ∧ (∀ k ∈ Fd, w.heap.size ≤ k) ∧ ∀ k ∈ Fd, k ∉ Fm := by
 obtain ⟨w0, hw0⟩ : ∃ W, w.alloc (.cells (suL s).toArray 72) = W := ⟨_, rfl⟩
 have hb0 : Below w.heap.size w w0 := by rw [← hw0]; exact balloc (Below.refl _ _) _
 have hx0 : w0.heap[w.heap.size]? = some (.cells (suL s).toArray 72 (0, 0)) := by rw [← hw0]; exact heap_alloc_new _ _
 obtain ⟨w1, hw1⟩ : ∃ W, w0.alloc (.cells #[.slice none 0 0, .slice none 0 0] 250) = W := ⟨_, rfl⟩
 have hb1 : Below w0.heap.size w0 w1 := by rw [← hw1]; exact balloc (Below.refl _ _) _
 have hx1 : w1.heap[w0.heap.size]? = some (.cells #[.slice none 0 0, .slice none 0 0] 250 (0, 0)) := by rw [← hw1]; exact heap_alloc_new _ _
 obtain ⟨q, hq⟩ : ∃ q, w0.heap.size = q := ⟨_, rfl⟩
 rw [hq] at hx1
 have HQE := Lib.hid hq
 have HX0 : Hid (w1.heap[w.heap.size]? = some (.cells (suL s).toArray 72 (0, 0))) := Lib.hid ((hb1.block _ (Array.getElem?_eq_some_iff.1 hx0).1).trans hx0)
 have HRP : Hid (RPs q w1 q mcs dcs 0 0) := Lib.hid ⟨_, _, hx1, ⟨[], World.ownsRow_nil _ _ _ _, fun k x hx => (by simp at hx)⟩, ⟨[], World.ownsRow_nil _ _ _ _, fun k x hx => (by simp at hx)⟩, fun k hk => (by cases hk)⟩
 have HB0 := Lib.hid hb0
 have HB1 : Hid (Below q w0 w1) := Lib.hid (by rw [← hq]; exact hb1)
 have HDK := Lib.hid h
 have HX00 := Lib.hid hx0
 have HQL : Hid (w.heap.size < q ∧ q < w1.heap.size) := Lib.hid ⟨by rw [← hq]; exact (Array.getElem?_eq_some_iff.1 hx0).1, (Array.getElem?_eq_some_iff.1 hx1).1⟩
 have CPM0 := pages_any w0 m (by omega)
 have CPD := pages_any w1 k (by omega)
 have c1 := cellOf hx0 1 (v := .int .i64 (m : Int)) (by rw [← hsm]; rfl)
 have c2 := cellOf HX0.out 2 (v := .int .i64 (k : Int)) (by rw [← hsk]; rfl)
 have HNN := Lib.hid hn
 have HMC := Lib.hid (And.intro hmc hdc)
 have HPG := Lib.hid hpg
 have HFT := Lib.hid hfit
 have HGA := Lib.hid hgd
 have HLE := Lib.hid (And.intro hml hdl)
 have HSM := Lib.hid (And.intro hsm hsk)
 obtain ⟨f, hf⟩ : ∃ f, pagesN m = f := ⟨_, rfl⟩
 obtain ⟨f2, hf2⟩ : ∃ f, pagesN k = f := ⟨_, rfl⟩
 have HFF := Lib.hid (And.intro hf hf2)
 rw [hf] at CPM0
 rw [hf2] at CPD
 rw [hf, hf2] at hP
 subst hP
 rw [suL_v]
 clear h hb0 hx0 hb1 hx1 hn hmc hdc hpg hfit hgd hml hdl hsm hsk hf hf2
 go_enter Tryz.func93, Tryz.ntmps93
 go_wp2_with fail
 (try rw [hw0])
 refine CPM0.mono ?_
 rintro e w2 ⟨rfl, rfl⟩
 clear CPM0
 go_wp2_with fail
 (try rw [hw1])
 (try rw [hq])
 clear hw0 hw1 hq
 refine CPD.mono ?_
 rintro e w2 ⟨rfl, rfl⟩
 clear CPD c1 c2
 go_wp2_with fail
 go_loopw [26] (fun v wr => ∃ i : Nat, i ≤ f + f2 ∧ v = .int .i64 (i : Int) ∧ Below q w0 wr ∧ RPs q wr q mcs dcs (min i f) (i - f)) (fun v _ => f + f2 - (Go.RowKit.intOf v).toNat)
 case atStart => exact ⟨0, by omega, rfl, HB1.out, by rw [Nat.zero_min, Nat.zero_sub]; exact HRP.out⟩
 case round =>
  obtain ⟨i, hi, rfl, hbr, hrp⟩ := hrel
  have HBR := Lib.hid hbr
  have HRR := Lib.hid hrp
  clear hbr hrp
  have HBW : Hid (Below w.heap.size w wr) := Lib.hid (HB0.out.trans (HBR.out.mono (Nat.le_of_lt HQL.out.1)))
  have HX : Hid (wr.heap[w.heap.size]? = some (.cells (suL s).toArray 72 (0, 0))) := Lib.hid ((HBR.out.block _ HQL.out.1).trans HX00.out)
  have HQR : Hid (q ≤ wr.heap.size) := Lib.hid (by
   obtain ⟨v0, v1, h1, _⟩ := HRR.out
   exact Nat.le_of_lt (Array.getElem?_eq_some_iff.1 h1).1)
  by_cases hlt : i < f + f2
  ·have hi6' : (i : Int) < 6 := by omega
   have HPC : Hid (wr.cell? ⟨w.heap.size, 3 + i, none⟩ = some (.int .u32 ((s.pages.getD i 0 : Nat) : Int))) := Lib.hid (cellOf HX.out (3 + i) (by rw [List.getElem?_toArray]; exact suL_pg s (by omega)))
   have HPC1 : Hid (w.heap.size < wr.heap.size) := Lib.hid (Array.getElem?_eq_some_iff.1 HX.out).1
   have HFI := Lib.hid (HFT.out i hlt)
   have HGD := Lib.hid (HGA.out i hlt)
   have hpl := HPG.out i
   obtain ⟨bb, hb⟩ : ∃ b, wpB s.pages mcs dcs i = b := ⟨_, rfl⟩
   rw [hb] at HGD
   have HBL : Hid (bb.length = 256) := Lib.hid (by rw [← hb]; exact wpB_len _ _ _ _)
   have HWB : Hid (wpB s.pages mcs dcs i = bb) := Lib.hid hb
   obtain ⟨LB, hL⟩ : ∃ L, bV bb = L := ⟨_, rfl⟩
   have HLB := Lib.hid hL
   have HLL : Hid (LB.length = 256) := Lib.hid (by rw [← hL, bV_len, HBL.out])
   have HL1 : Hid (∀ u ∈ LB, u.oneCell' = true) := Lib.hid (by rw [← hL]; exact bV_one bb)
   obtain ⟨pn, hpn⟩ : ∃ x, s.pages.getD i 0 = x := ⟨_, rfl⟩
   rw [hpn] at HPC HFI hpl HGD
   have HPN := Lib.hid hpn
   have hwr1 : IntKind.i64.wrap (pn : Int) = (pn : Int) := IntWalk.i64_in _ ⟨by omega, by omega⟩
   have hwr2 : IntKind.i64.wrap (2 + (pn : Int)) = 2 + (pn : Int) := IntWalk.i64_in _ ⟨by omega, by omega⟩
   have CRD : Hid (∀ X, Below wr.heap.size wr X → Calls Tryz.prog 63 #[.pointer (some ⟨B, 0, none⟩), .int .i64 (2 + (pn : Int))] X fun e w' => e = .returned (.tuple #[.agg LB.toArray, .int .i64 0]) ∧ Below X.heap.size X w') := Lib.hid (fun X hX => by
    have h1 := sread_at n0 X B iv jv d (HDK.out.below (bthn HBW.out hX)) (2 + pn) HFI.out HNN.out
    rw [show ((2 + pn : Nat) : Int) = 2 + (pn : Int) by omega, HGD.out, show bA bb = .agg (bV bb).toArray from rfl, HLB.out] at h1
    exact h1)
   clear hb hL hpn
   by_cases hfi : f ≤ i
   ·obtain ⟨x, hx⟩ : ∃ x, i - f = x := ⟨_, rfl⟩
    have hxe : (i : Int) - (f : Int) = (x : Int) := by omega
    have CPO : Hid (∀ X, Calls Tryz.prog 137 #[.int .u32 (pn : Int), .int .i64 (x : Int), .agg LB.toArray] X fun e w' => ∃ g, e = .returned (.tuple #[.slice (some ⟨g, 0, none⟩) 120 120, .int .i64 0]) ∧ BoxC w' g (partC dcs (i - f)) ∧ X.heap.size ≤ g ∧ Below X.heap.size X w') := Lib.hid (fun X => by
     have h1 := pof_at X pn x hpl (by omega) (partC dcs x) (partC_len _ _) (partC_lt HMC.out.2 x)
     have e : pageB pn x (partC dcs x) = bb := by
      rw [← HWB.out]
      unfold wpB wpIdx wpCs
      rw [HLE.out.1, HFF.out.1, if_pos hfi, if_pos hfi, HPN.out, hx]
     rw [e, show bA bb = .agg (bV bb).toArray from rfl, HLB.out] at h1
     rw [hx]
     exact h1)
    clear hx
    go_upto_region 9 with fail
    (try rw [hxe])
    clear hxe
    have CR := CRD.out wr (Below.refl _ _)
    have hc3 := HPC.out
    go_wp2_with fail
    refine CR.mono ?_
    rintro e x1 ⟨rfl, hb1⟩
    dsimp only
    have hst := run_storeNew (P := Tryz.prog) x1 78 Tryz.zeroCells78 LB.toArray (by rw [show LB.toArray.size = 256 from by rw [List.size_toArray]; exact HLL.out]; kernel_rfl) (fun u hu => HL1.out u (by simpa using hu))
    obtain ⟨x2, hx2⟩ : ∃ W, x1.alloc (.cells LB.toArray 78) = W := ⟨_, rfl⟩
    have hb2 : Below x1.heap.size x1 x2 := by rw [← hx2]; exact balloc (Below.refl _ _) _
    have HR2 : Hid (x2.rangeAt x1.heap.size 0 LB) := Lib.hid (rangeOf (by rw [← hx2]; exact heap_alloc_new _ _))
    have HB2 := Lib.hid (bthn hb1 hb2)
    have HXL : Hid (x1.heap.size < x2.heap.size) := Lib.hid (by rw [← hx2]; exact (Array.getElem?_eq_some_iff.1 (heap_alloc_new _ _)).1)
    have HPC2 : Hid (x2.cell? ⟨w.heap.size, 3 + i, none⟩ = some (.int .u32 (pn : Int))) := Lib.hid ((HB2.out.cell (p := ⟨w.heap.size, 3 + i, none⟩) HPC1.out).trans HPC.out)
    have HPC3 : Hid (w.heap.size < x2.heap.size) := Lib.hid (Nat.lt_of_lt_of_le HPC1.out HB2.out.size)
    have HIB : Hid ((Tryz.prog.info? 78).map (·.size) = some LB.length) := Lib.hid (by rw [HLL.out]; exact infoBlk)
    rw [hx2] at hst
    clear CR hb1 hx2 hb2 hc3
    have hll := HLL.out
    go_wp2_with fail
    clear hst hll
    have HSS : Hid (∀ X, Below x2.heap.size x2 X → (X.cell? ⟨w.heap.size, 3 + i, none⟩ = some (.int .u32 (pn : Int)) ∧ X.rangeAt x1.heap.size 0 LB) ∧ Below x2.heap.size x2 X) := Lib.hid (fun X hb => ⟨⟨(World.cell?_of_block (hb.block _ (HPC3.out))).trans (HPC2.out), (rangeSt HR2.out HXL.out hb)⟩, hb⟩)
    refine wp_region_held_drew (S := fun X => (X.cell? ⟨w.heap.size, 3 + i, none⟩ = some (.int .u32 (pn : Int)) ∧ X.rangeAt x1.heap.size 0 LB) ∧ Below x2.heap.size x2 X) (by kernel_rfl) (HSS.out _ (Below.refl _ _).drew) (fun hHeld => ?_)
    have hbe : Below x2.heap.size x2 x2.drew := (Below.refl _ _).drew
    obtain ⟨wd, hwd⟩ : ∃ y, x2.drew = y := ⟨_, rfl⟩
    rw [hwd] at hHeld hbe ⊢
    have HBE := Lib.hid hbe
    have HS0 : Hid (x2.heap.size ≤ wd.heap.size) := Lib.hid HBE.out.size
    clear hwd hbe
    refine wpAnyH_take (i := 0) (v := ?_) rfl (by kernel_rfl) (by kernel_rfl) (by kernel_rfl) (fun _ _ _ h => h) (Or.inl ⟨by rfl, ?_⟩) (by assumption) ?_
    rotate_left
    ·(intro w hSw; (try dsimp only at hSw); simp only [List.getElem_toArray, List.getElem_cons_zero, List.getElem_cons_succ]; go_simp; first | done | with_reducible rfl)
    simp only [List.getElem_toArray, List.getElem_cons_zero, List.getElem_cons_succ, Act.put, List.setIfInBounds_toArray, List.set_cons_zero, List.set_cons_succ]
    refine wpAnyH_take (i := 1) (v := ?_) rfl (by kernel_rfl) (by kernel_rfl) (by kernel_rfl) (fun _ _ _ h => h) (Or.inl ⟨by rfl, ?_⟩) (by assumption) ?_
    rotate_left
    ·(intro w hSw; (try dsimp only at hSw); simp only [List.getElem_toArray, List.getElem_cons_zero, List.getElem_cons_succ]; go_simp; first | done | with_reducible rfl)
    simp only [List.getElem_toArray, List.getElem_cons_zero, List.getElem_cons_succ, Act.put, List.setIfInBounds_toArray, List.set_cons_zero, List.set_cons_succ]
    refine wpAnyH_take (i := 4) (v := ?_) rfl (by kernel_rfl) (by kernel_rfl) (by kernel_rfl) (fun _ _ _ h => h) (Or.inl ⟨by rfl, ?_⟩) (by assumption) ?_
    rotate_left
    ·(intro w hSw; (try dsimp only at hSw); simp only [List.getElem_toArray, List.getElem_cons_zero, List.getElem_cons_succ]; go_simp; first | done | with_reducible rfl)
    simp only [List.getElem_toArray, List.getElem_cons_zero, List.getElem_cons_succ, Act.put, List.setIfInBounds_toArray, List.set_cons_zero, List.set_cons_succ]
    refine wpAnyH_take (i := 5) (v := _) rfl (by kernel_rfl) (by kernel_rfl) (by kernel_rfl) (fun _ _ _ h => h) (yieldsIf_load_mid (by rfl) 78 _ rfl (x1.heap.size) (0) rfl (LB) _ (fun w hSw => hSw.1.2) (Tryz.underlying78) rfl (HIB.out)) (by assumption) ?_
    simp only [List.getElem_toArray, List.getElem_cons_zero, List.getElem_cons_succ, Act.put, List.setIfInBounds_toArray, List.set_cons_zero, List.set_cons_succ]
    refine wpAnyH_take (i := 2) (v := ?_) rfl (by kernel_rfl) (by kernel_rfl) (by kernel_rfl) (fun _ _ _ h => h) (Or.inl ⟨by rfl, ?_⟩) (by assumption) ?_
    rotate_left
    ·(intro w hSw; (try dsimp only at hSw); simp only [List.getElem_toArray, List.getElem_cons_zero, List.getElem_cons_succ]; go_simp; first | done | with_reducible rfl)
    simp only [List.getElem_toArray, List.getElem_cons_zero, List.getElem_cons_succ, Act.put, List.setIfInBounds_toArray, List.set_cons_zero, List.set_cons_succ]
    refine wpAnyH_take (i := 3) (v := ?_) rfl (by kernel_rfl) (by kernel_rfl) (by kernel_rfl) (fun _ _ _ h => h) (Or.inl ⟨by rfl, ?_⟩) (by assumption) ?_
    rotate_left
    ·(intro w hSw; (try dsimp only at hSw); simp only [List.getElem_toArray, List.getElem_cons_zero, List.getElem_cons_succ]; go_simp; first | done | with_reducible rfl)
    simp only [List.getElem_toArray, List.getElem_cons_zero, List.getElem_cons_succ, Act.put, List.setIfInBounds_toArray, List.set_cons_zero, List.set_cons_succ]
    refine wpAnyH_ready (rs := [6]) (by kernel_rfl) (by simp) ?_
    refine AllReadyH.cons rfl (fun K hK => ?_) (AllReadyH.nil)
    simp only [List.getElem_toArray, List.getElem_cons_zero, List.getElem_cons_succ]
    go_simp
    refine (CPO.out _).mono ?_
    rintro e w6 ⟨g6, rfl, hbx6, hge6, hb6⟩
    dsimp only
    have HBE := Lib.hid (bthen HBE.out hb6)
    have hSp := HSS.out _ HBE.out
    clear hHeld
    refine hK.out _ _ hSp (fun hHeld => ?_)
    clear hSp hK K
    try simp only [Act.put, List.setIfInBounds_toArray, List.set_cons_zero, List.set_cons_succ]
    have HBX := Lib.hid hbx6
    clear hbx6 hge6
    have HC6 := Lib.hid hb6
    clear hb6
    refine wpAnyH_take (i := 7) (v := ?_) rfl (by kernel_rfl) (by kernel_rfl) (by kernel_rfl) (fun _ _ _ h => h) (Or.inl ⟨by rfl, ?_⟩) (by assumption) ?_
    rotate_left
    ·(intro w hSw; (try dsimp only at hSw); simp only [List.getElem_toArray, List.getElem_cons_zero, List.getElem_cons_succ]; go_simp; first | done | with_reducible rfl)
    simp only [List.getElem_toArray, List.getElem_cons_zero, List.getElem_cons_succ, Act.put, List.setIfInBounds_toArray, List.set_cons_zero, List.set_cons_succ]
    refine wpAnyH_take (i := 8) (v := ?_) rfl (by kernel_rfl) (by kernel_rfl) (by kernel_rfl) (fun _ _ _ h => h) (Or.inl ⟨by rfl, ?_⟩) (by assumption) ?_
    rotate_left
    ·(intro w hSw; (try dsimp only at hSw); simp only [List.getElem_toArray, List.getElem_cons_zero, List.getElem_cons_succ]; go_simp; first | done | with_reducible rfl)
    simp only [List.getElem_toArray, List.getElem_cons_zero, List.getElem_cons_succ, Act.put, List.setIfInBounds_toArray, List.set_cons_zero, List.set_cons_succ]
    refine wpAnyH_take (i := 9) (v := ?_) rfl (by kernel_rfl) (by kernel_rfl) (by kernel_rfl) (fun _ _ _ h => h) (Or.inl ⟨by rfl, ?_⟩) (by assumption) ?_
    rotate_left
    ·(intro w hSw; (try dsimp only at hSw); simp only [List.getElem_toArray, List.getElem_cons_zero, List.getElem_cons_succ]; go_simp; first | done | with_reducible rfl)
    simp only [List.getElem_toArray, List.getElem_cons_zero, List.getElem_cons_succ, Act.put, List.setIfInBounds_toArray, List.set_cons_zero, List.set_cons_succ]
    refine wpAnyH_take (i := 10) (v := ?_) rfl (by kernel_rfl) (by kernel_rfl) (by kernel_rfl) (fun _ _ _ h => h) (Or.inl ⟨by rfl, ?_⟩) (by assumption) ?_
    rotate_left
    ·(intro w hSw; (try dsimp only at hSw); simp only [List.getElem_toArray, List.getElem_cons_zero, List.getElem_cons_succ]; go_simp; first | done | with_reducible rfl)
    simp only [List.getElem_toArray, List.getElem_cons_zero, List.getElem_cons_succ, Act.put, List.setIfInBounds_toArray, List.set_cons_zero, List.set_cons_succ]
    refine wpAnyH_take (i := 11) (v := ?_) rfl (by kernel_rfl) (by kernel_rfl) (by kernel_rfl) (fun _ _ _ h => h) (Or.inl ⟨by rfl, ?_⟩) (by assumption) ?_
    rotate_left
    ·(intro w hSw; (try dsimp only at hSw); simp only [List.getElem_toArray, List.getElem_cons_zero, List.getElem_cons_succ]; go_simp; first | done | with_reducible rfl)
    simp only [List.getElem_toArray, List.getElem_cons_zero, List.getElem_cons_succ, Act.put, List.setIfInBounds_toArray, List.set_cons_zero, List.set_cons_succ]
    refine wpAnyH_done (by kernel_rfl) ?_ _
    have HEND := Lib.hid hHeld.2
    have HSE := Lib.hid hHeld.1
    clear hHeld
    clear HSS HSE HEND
    have HB6 := Lib.hid (bthn HB2.out HBE.out)
    go_upto_region 15 with fail
    obtain ⟨v0, v1, hq6, p0, p1, hdj⟩ := HRR.out.below HB6.out
    obtain ⟨w15, hw15⟩ : ∃ W, w6.alloc (.cells #[.slice (some ⟨g6, 0, none⟩) 120 120] 188) = W := ⟨_, rfl⟩
    have hb15 : Below w6.heap.size w6 w15 := by rw [← hw15]; exact balloc (Below.refl _ _) _
    have HRD : Hid (Rd w15 1 (.slice (some ⟨w6.heap.size, 0, none⟩) 1 1) 1 [.slice (some ⟨g6, 0, none⟩) 120 120]) := Lib.hid (by
     have h1 := rdCells (X := w15) (g := w6.heap.size) (n := 1) (size := 1) (by rw [← hw15]; exact heap_alloc_new _ _) rfl (by omega)
     exact h1)
    have HB15 := Lib.hid (bthn HB6.out hb15)
    have HBX15 : Hid (BoxC w15 g6 (partC dcs (i - f))) := Lib.hid ((hb15.block _ (Array.getElem?_eq_some_iff.1 HBX.out).1).trans HBX.out)
    have HQ15 : Hid (w15.heap[q]? = some (.cells #[v0, v1] 250 (0, 0))) := Lib.hid ((hb15.block q (Array.getElem?_eq_some_iff.1 hq6).1).trans hq6)
    have HP0 := Lib.hid (p0.below hb15)
    have HP1 := Lib.hid (p1.below hb15)
    have HDJ := Lib.hid hdj
    have HQS : Hid (q ≤ w15.heap.size) := Lib.hid (Nat.le_of_lt (Array.getElem?_eq_some_iff.1 HQ15.out).1)
    clear p0 p1 hdj hb15
    obtain ⟨L, ho, hL⟩ := HP1.out
    obtain ⟨a0, k0, rfl⟩ := rowSl ho
    have HO := Lib.hid ho
    have HLX := Lib.hid hL
    have cq6 := cellOf hq6 1 rfl
    obtain ⟨xx, hxx⟩ : ∃ x, i - f = x := ⟨_, rfl⟩
    rw [hxx] at cq6 HO HQ15 HBX15 HDJ
    have HXX := Lib.hid hxx
    have hxl : xx ≤ 6 := by omega
    clear ho hL hq6 hxx
    go_wp2_with (at_builtin; go_must (refine wpList_apps rfl _ _ 249 rfl q 188 _ 1 24 Tryz.underlying249 infoU16s rfl (by decide) (by decide) (.slice a0 xx k0) xx L (by rfl) HO.out _ 1 [.slice (some ⟨g6, 0, none⟩) 120 120] (by rfl) HRD.out (fun u hu => by rw [List.mem_singleton.1 hu]; rfl) (by omega) HQS.out ?_); intro v7 w7 ho7 hb7 hg7 hs7 hn7; obtain ⟨a7, k7, rfl⟩ := rowSl ho7; have HO7 := Lib.hid ho7; have HB7 := Lib.hid hb7; have HC7 := Lib.hid (Chg.of_grown hg7 hs7); clear ho7 hb7 hg7 hs7 hn7; have hq7 := (HC7.out.1.block q (Array.getElem?_eq_some_iff.1 HQ15.out).1 (ob_tag HO.out HQ15.out (by decide))).trans HQ15.out; have cq7 := cellOf hq7 1 rfl; have fq7 := frozenOf hq7 1; clear hq7)
    clear cq6 cq7 fq7 hw15
    go_roundw
    case rel => exact ⟨i + 1, by omega, by go_num, (((HBR.out.trans (HB15.out.mono HQR.out)).trans HB7.out).setCell (p := ⟨q, 1, none⟩) (Nat.le_refl _) _), by
     rw [show min (i + 1) f = min i f by omega, show i + 1 - f = xx + 1 by have := HXX.out; omega]
     exact RPs.push1 (L := []) HQ15.out HO.out HLX.out HBX15.out HP0.out HDJ.out HC7.out HO7.out⟩
    case measure => simp [Go.RowKit.intOf]; omega
   ·have CPO : Hid (∀ X, Calls Tryz.prog 137 #[.int .u32 (pn : Int), .int .i64 (i : Int), .agg LB.toArray] X fun e w' => ∃ g, e = .returned (.tuple #[.slice (some ⟨g, 0, none⟩) 120 120, .int .i64 0]) ∧ BoxC w' g (partC mcs (min i f)) ∧ X.heap.size ≤ g ∧ Below X.heap.size X w') := Lib.hid (fun X => by
     have h1 := pof_at X pn i hpl (by omega) (partC mcs i) (partC_len _ _) (partC_lt HMC.out.1 i)
     have e : pageB pn i (partC mcs i) = bb := by
      rw [← HWB.out]
      unfold wpB wpIdx wpCs
      rw [HLE.out.1, HFF.out.1, if_neg hfi, if_neg hfi, HPN.out]
     rw [e, show bA bb = .agg (bV bb).toArray from rfl, HLB.out] at h1
     rw [show min i f = i by omega]
     exact h1)
    go_upto_region 9 with fail
    have CR := CRD.out wr (Below.refl _ _)
    have hc3 := HPC.out
    go_wp2_with fail
    refine CR.mono ?_
    rintro e x1 ⟨rfl, hb1⟩
    dsimp only
    have hst := run_storeNew (P := Tryz.prog) x1 78 Tryz.zeroCells78 LB.toArray (by rw [show LB.toArray.size = 256 from by rw [List.size_toArray]; exact HLL.out]; kernel_rfl) (fun u hu => HL1.out u (by simpa using hu))
    obtain ⟨x2, hx2⟩ : ∃ W, x1.alloc (.cells LB.toArray 78) = W := ⟨_, rfl⟩
    have hb2 : Below x1.heap.size x1 x2 := by rw [← hx2]; exact balloc (Below.refl _ _) _
    have HR2 : Hid (x2.rangeAt x1.heap.size 0 LB) := Lib.hid (rangeOf (by rw [← hx2]; exact heap_alloc_new _ _))
    have HB2 := Lib.hid (bthn hb1 hb2)
    have HXL : Hid (x1.heap.size < x2.heap.size) := Lib.hid (by rw [← hx2]; exact (Array.getElem?_eq_some_iff.1 (heap_alloc_new _ _)).1)
    have HPC2 : Hid (x2.cell? ⟨w.heap.size, 3 + i, none⟩ = some (.int .u32 (pn : Int))) := Lib.hid ((HB2.out.cell (p := ⟨w.heap.size, 3 + i, none⟩) HPC1.out).trans HPC.out)
    have HPC3 : Hid (w.heap.size < x2.heap.size) := Lib.hid (Nat.lt_of_lt_of_le HPC1.out HB2.out.size)
    have HIB : Hid ((Tryz.prog.info? 78).map (·.size) = some LB.length) := Lib.hid (by rw [HLL.out]; exact infoBlk)
    rw [hx2] at hst
    clear CR hb1 hx2 hb2 hc3
    have hll := HLL.out
    go_wp2_with fail
    clear hst hll
    have HSS : Hid (∀ X, Below x2.heap.size x2 X → (X.cell? ⟨w.heap.size, 3 + i, none⟩ = some (.int .u32 (pn : Int)) ∧ X.rangeAt x1.heap.size 0 LB) ∧ Below x2.heap.size x2 X) := Lib.hid (fun X hb => ⟨⟨(World.cell?_of_block (hb.block _ (HPC3.out))).trans (HPC2.out), (rangeSt HR2.out HXL.out hb)⟩, hb⟩)
    refine wp_region_held_drew (S := fun X => (X.cell? ⟨w.heap.size, 3 + i, none⟩ = some (.int .u32 (pn : Int)) ∧ X.rangeAt x1.heap.size 0 LB) ∧ Below x2.heap.size x2 X) (by kernel_rfl) (HSS.out _ (Below.refl _ _).drew) (fun hHeld => ?_)
    have hbe : Below x2.heap.size x2 x2.drew := (Below.refl _ _).drew
    obtain ⟨wd, hwd⟩ : ∃ y, x2.drew = y := ⟨_, rfl⟩
    rw [hwd] at hHeld hbe ⊢
    have HBE := Lib.hid hbe
    have HS0 : Hid (x2.heap.size ≤ wd.heap.size) := Lib.hid HBE.out.size
    clear hwd hbe
    refine wpAnyH_take (i := 0) (v := ?_) rfl (by kernel_rfl) (by kernel_rfl) (by kernel_rfl) (fun _ _ _ h => h) (Or.inl ⟨by rfl, ?_⟩) (by assumption) ?_
    rotate_left
    ·(intro w hSw; (try dsimp only at hSw); simp only [List.getElem_toArray, List.getElem_cons_zero, List.getElem_cons_succ]; go_simp; first | done | with_reducible rfl)
    simp only [List.getElem_toArray, List.getElem_cons_zero, List.getElem_cons_succ, Act.put, List.setIfInBounds_toArray, List.set_cons_zero, List.set_cons_succ]
    refine wpAnyH_take (i := 1) (v := ?_) rfl (by kernel_rfl) (by kernel_rfl) (by kernel_rfl) (fun _ _ _ h => h) (Or.inl ⟨by rfl, ?_⟩) (by assumption) ?_
    rotate_left
    ·(intro w hSw; (try dsimp only at hSw); simp only [List.getElem_toArray, List.getElem_cons_zero, List.getElem_cons_succ]; go_simp; first | done | with_reducible rfl)
    simp only [List.getElem_toArray, List.getElem_cons_zero, List.getElem_cons_succ, Act.put, List.setIfInBounds_toArray, List.set_cons_zero, List.set_cons_succ]
    refine wpAnyH_take (i := 4) (v := ?_) rfl (by kernel_rfl) (by kernel_rfl) (by kernel_rfl) (fun _ _ _ h => h) (Or.inl ⟨by rfl, ?_⟩) (by assumption) ?_
    rotate_left
    ·(intro w hSw; (try dsimp only at hSw); simp only [List.getElem_toArray, List.getElem_cons_zero, List.getElem_cons_succ]; go_simp; first | done | with_reducible rfl)
    simp only [List.getElem_toArray, List.getElem_cons_zero, List.getElem_cons_succ, Act.put, List.setIfInBounds_toArray, List.set_cons_zero, List.set_cons_succ]
    refine wpAnyH_take (i := 5) (v := _) rfl (by kernel_rfl) (by kernel_rfl) (by kernel_rfl) (fun _ _ _ h => h) (yieldsIf_load_mid (by rfl) 78 _ rfl (x1.heap.size) (0) rfl (LB) _ (fun w hSw => hSw.1.2) (Tryz.underlying78) rfl (HIB.out)) (by assumption) ?_
    simp only [List.getElem_toArray, List.getElem_cons_zero, List.getElem_cons_succ, Act.put, List.setIfInBounds_toArray, List.set_cons_zero, List.set_cons_succ]
    refine wpAnyH_take (i := 2) (v := ?_) rfl (by kernel_rfl) (by kernel_rfl) (by kernel_rfl) (fun _ _ _ h => h) (Or.inl ⟨by rfl, ?_⟩) (by assumption) ?_
    rotate_left
    ·(intro w hSw; (try dsimp only at hSw); simp only [List.getElem_toArray, List.getElem_cons_zero, List.getElem_cons_succ]; go_simp; first | done | with_reducible rfl)
    simp only [List.getElem_toArray, List.getElem_cons_zero, List.getElem_cons_succ, Act.put, List.setIfInBounds_toArray, List.set_cons_zero, List.set_cons_succ]
    refine wpAnyH_take (i := 3) (v := ?_) rfl (by kernel_rfl) (by kernel_rfl) (by kernel_rfl) (fun _ _ _ h => h) (Or.inl ⟨by rfl, ?_⟩) (by assumption) ?_
    rotate_left
    ·(intro w hSw; (try dsimp only at hSw); simp only [List.getElem_toArray, List.getElem_cons_zero, List.getElem_cons_succ]; go_simp; first | done | with_reducible rfl)
    simp only [List.getElem_toArray, List.getElem_cons_zero, List.getElem_cons_succ, Act.put, List.setIfInBounds_toArray, List.set_cons_zero, List.set_cons_succ]
    refine wpAnyH_ready (rs := [6]) (by kernel_rfl) (by simp) ?_
    refine AllReadyH.cons rfl (fun K hK => ?_) (AllReadyH.nil)
    simp only [List.getElem_toArray, List.getElem_cons_zero, List.getElem_cons_succ]
    go_simp
    refine (CPO.out _).mono ?_
    rintro e w6 ⟨g6, rfl, hbx6, hge6, hb6⟩
    dsimp only
    have HBE := Lib.hid (bthen HBE.out hb6)
    have hSp := HSS.out _ HBE.out
    clear hHeld
    refine hK.out _ _ hSp (fun hHeld => ?_)
    clear hSp hK K
    try simp only [Act.put, List.setIfInBounds_toArray, List.set_cons_zero, List.set_cons_succ]
    have HBX := Lib.hid hbx6
    clear hbx6 hge6
    have HC6 := Lib.hid hb6
    clear hb6
    refine wpAnyH_take (i := 7) (v := ?_) rfl (by kernel_rfl) (by kernel_rfl) (by kernel_rfl) (fun _ _ _ h => h) (Or.inl ⟨by rfl, ?_⟩) (by assumption) ?_
    rotate_left
    ·(intro w hSw; (try dsimp only at hSw); simp only [List.getElem_toArray, List.getElem_cons_zero, List.getElem_cons_succ]; go_simp; first | done | with_reducible rfl)
    simp only [List.getElem_toArray, List.getElem_cons_zero, List.getElem_cons_succ, Act.put, List.setIfInBounds_toArray, List.set_cons_zero, List.set_cons_succ]
    refine wpAnyH_take (i := 8) (v := ?_) rfl (by kernel_rfl) (by kernel_rfl) (by kernel_rfl) (fun _ _ _ h => h) (Or.inl ⟨by rfl, ?_⟩) (by assumption) ?_
    rotate_left
    ·(intro w hSw; (try dsimp only at hSw); simp only [List.getElem_toArray, List.getElem_cons_zero, List.getElem_cons_succ]; go_simp; first | done | with_reducible rfl)
    simp only [List.getElem_toArray, List.getElem_cons_zero, List.getElem_cons_succ, Act.put, List.setIfInBounds_toArray, List.set_cons_zero, List.set_cons_succ]
    refine wpAnyH_take (i := 9) (v := ?_) rfl (by kernel_rfl) (by kernel_rfl) (by kernel_rfl) (fun _ _ _ h => h) (Or.inl ⟨by rfl, ?_⟩) (by assumption) ?_
    rotate_left
    ·(intro w hSw; (try dsimp only at hSw); simp only [List.getElem_toArray, List.getElem_cons_zero, List.getElem_cons_succ]; go_simp; first | done | with_reducible rfl)
    simp only [List.getElem_toArray, List.getElem_cons_zero, List.getElem_cons_succ, Act.put, List.setIfInBounds_toArray, List.set_cons_zero, List.set_cons_succ]
    refine wpAnyH_take (i := 10) (v := ?_) rfl (by kernel_rfl) (by kernel_rfl) (by kernel_rfl) (fun _ _ _ h => h) (Or.inl ⟨by rfl, ?_⟩) (by assumption) ?_
    rotate_left
    ·(intro w hSw; (try dsimp only at hSw); simp only [List.getElem_toArray, List.getElem_cons_zero, List.getElem_cons_succ]; go_simp; first | done | with_reducible rfl)
    simp only [List.getElem_toArray, List.getElem_cons_zero, List.getElem_cons_succ, Act.put, List.setIfInBounds_toArray, List.set_cons_zero, List.set_cons_succ]
    refine wpAnyH_take (i := 11) (v := ?_) rfl (by kernel_rfl) (by kernel_rfl) (by kernel_rfl) (fun _ _ _ h => h) (Or.inl ⟨by rfl, ?_⟩) (by assumption) ?_
    rotate_left
    ·(intro w hSw; (try dsimp only at hSw); simp only [List.getElem_toArray, List.getElem_cons_zero, List.getElem_cons_succ]; go_simp; first | done | with_reducible rfl)
    simp only [List.getElem_toArray, List.getElem_cons_zero, List.getElem_cons_succ, Act.put, List.setIfInBounds_toArray, List.set_cons_zero, List.set_cons_succ]
    refine wpAnyH_done (by kernel_rfl) ?_ _
    have HEND := Lib.hid hHeld.2
    have HSE := Lib.hid hHeld.1
    clear hHeld
    clear HSS HSE HEND
    have HB6 := Lib.hid (bthn HB2.out HBE.out)
    go_upto_region 15 with fail
    obtain ⟨v0, v1, hq6, p0, p1, hdj⟩ := HRR.out.below HB6.out
    obtain ⟨w15, hw15⟩ : ∃ W, w6.alloc (.cells #[.slice (some ⟨g6, 0, none⟩) 120 120] 188) = W := ⟨_, rfl⟩
    have hb15 : Below w6.heap.size w6 w15 := by rw [← hw15]; exact balloc (Below.refl _ _) _
    have HRD : Hid (Rd w15 1 (.slice (some ⟨w6.heap.size, 0, none⟩) 1 1) 1 [.slice (some ⟨g6, 0, none⟩) 120 120]) := Lib.hid (by
     have h1 := rdCells (X := w15) (g := w6.heap.size) (n := 1) (size := 1) (by rw [← hw15]; exact heap_alloc_new _ _) rfl (by omega)
     exact h1)
    have HB15 := Lib.hid (bthn HB6.out hb15)
    have HBX15 : Hid (BoxC w15 g6 (partC mcs (min i f))) := Lib.hid ((hb15.block _ (Array.getElem?_eq_some_iff.1 HBX.out).1).trans HBX.out)
    have HQ15 : Hid (w15.heap[q]? = some (.cells #[v0, v1] 250 (0, 0))) := Lib.hid ((hb15.block q (Array.getElem?_eq_some_iff.1 hq6).1).trans hq6)
    have HP0 := Lib.hid (p0.below hb15)
    have HP1 := Lib.hid (p1.below hb15)
    have HDJ := Lib.hid hdj
    have HQS : Hid (q ≤ w15.heap.size) := Lib.hid (Nat.le_of_lt (Array.getElem?_eq_some_iff.1 HQ15.out).1)
    clear p0 p1 hdj hb15
    obtain ⟨L, ho, hL⟩ := HP0.out
    obtain ⟨a0, k0, rfl⟩ := rowSl ho
    have HO := Lib.hid ho
    have HLX := Lib.hid hL
    have cq6 := cellOf hq6 0 rfl
    have hmi : min i f = i := by omega
    rw [hmi] at cq6 HO HQ15 HBX15 HDJ
    have HMI := Lib.hid hmi
    clear ho hL hq6 hmi
    go_wp2_with (at_builtin; go_must (refine wpList_apps rfl _ _ 249 rfl q 188 _ 1 24 Tryz.underlying249 infoU16s rfl (by decide) (by decide) (.slice a0 i k0) i L (by rfl) HO.out _ 1 [.slice (some ⟨g6, 0, none⟩) 120 120] (by rfl) HRD.out (fun u hu => by rw [List.mem_singleton.1 hu]; rfl) (by omega) HQS.out ?_); intro v7 w7 ho7 hb7 hg7 hs7 hn7; obtain ⟨a7, k7, rfl⟩ := rowSl ho7; have HO7 := Lib.hid ho7; have HB7 := Lib.hid hb7; have HC7 := Lib.hid (Chg.of_grown hg7 hs7); clear ho7 hb7 hg7 hs7 hn7; have hq7 := (HC7.out.1.block q (Array.getElem?_eq_some_iff.1 HQ15.out).1 (ob_tag HO.out HQ15.out (by decide))).trans HQ15.out; have cq7 := cellOf hq7 0 rfl; have fq7 := frozenOf hq7 0; clear hq7)
    clear cq6 cq7 fq7 hw15
    go_roundw
    case rel => exact ⟨i + 1, by omega, by go_num, (((HBR.out.trans (HB15.out.mono HQR.out)).trans HB7.out).setCell (p := ⟨q, 0, none⟩) (Nat.le_refl _) _), by
     rw [show min (i + 1) f = i + 1 by omega, show i + 1 - f = i - f by omega]
     exact RPs.push0 (L := []) HQ15.out HO.out HLX.out HBX15.out HP1.out HDJ.out HC7.out HO7.out⟩
    case measure => simp [Go.RowKit.intOf]; omega
  ·obtain rfl : i = f + f2 := by omega
   obtain ⟨v0, v1, hq, p0, p1, hdj⟩ := HRR.out
   rw [show min (f + f2) f = f by omega] at p0
   rw [show f + f2 - f = f2 by omega] at p1
   have hg0 := p0.pgs
   have HG1 := Lib.hid p1.pgs
   obtain ⟨L0, ho0, _⟩ := p0
   obtain ⟨a0, k0, rfl⟩ := rowSl ho0
   obtain ⟨L1, ho1, _⟩ := p1
   obtain ⟨a1, k1, rfl⟩ := rowSl ho1
   have CJ0 : Calls Tryz.prog 138 #[.int .i64 (m : Int), .slice a0 f k0] wr fun e w' => ∃ v', e = .returned (.tuple #[v', .int .i64 0]) ∧ Rd w' 1 v' m (cV mcs) ∧ Below wr.heap.size wr w' := by
    obtain ⟨j1, j2⟩ := join_ps HLE.out.1 h1.1
    rw [HFF.out.1] at j1 j2
    have h9 := join_at wr m _ _ h1.1 h1.2 (by rw [HFF.out.1]; exact hg0) j2
    rw [j1] at h9
    exact h9
   have CJ1 : Hid (∀ X, Below wr.heap.size wr X → Calls Tryz.prog 138 #[.int .i64 (k : Int), .slice a1 f2 k1] X fun e w' => ∃ v', e = .returned (.tuple #[v', .int .i64 0]) ∧ Rd w' 1 v' k (cV dcs) ∧ Below X.heap.size X w') := Lib.hid (fun X hX => by
    obtain ⟨j1, j2⟩ := join_ps HLE.out.2 h2.1
    rw [HFF.out.2] at j1 j2
    have h9 := join_at X k _ _ h2.1 h2.2 (by rw [HFF.out.2]; exact HG1.out.below hX) j2
    rw [j1] at h9
    exact h9)
   have c1 := cellOf HX.out 1 (v := .int .i64 (m : Int)) (by rw [← HSM.out.1]; rfl)
   have HC2 : Hid (wr.cell? ⟨w.heap.size, 2, none⟩ = some (.int .i64 (k : Int))) := Lib.hid (cellOf HX.out 2 (by rw [← HSM.out.2]; rfl))
   have cq0 := cellOf hq 0 rfl
   have HQ1 := Lib.hid (cellOf hq 1 rfl)
   have HQW : Hid (w.heap.size < wr.heap.size ∧ q < wr.heap.size) := Lib.hid ⟨(Array.getElem?_eq_some_iff.1 HX.out).1, (Array.getElem?_eq_some_iff.1 hq).1⟩
   clear hq hg0 ho0 ho1 hdj
   go_wp2_with fail
   refine CJ0.mono ?_
   rintro e xa ⟨va, rfl, hra, hba⟩
   dsimp only
   have CJ := CJ1.out xa hba
   have HRA := Lib.hid hra
   have HBA := Lib.hid hba
   clear c1 cq0 CJ0 hra hba
   have c2 := (HBA.out.cell (p := ⟨w.heap.size, 2, none⟩) HQW.out.1).trans HC2.out
   have cq1 := (HBA.out.cell (p := ⟨q, 1, none⟩) HQW.out.2).trans HQ1.out
   go_wp2_with fail
   refine CJ.mono ?_
   rintro e xb ⟨vb, rfl, hrb, hbb⟩
   dsimp only
   have HRB := Lib.hid hrb
   have HBB := Lib.hid (bthn HBA.out hbb)
   have CN := new_in va m mcs (HRA.out.below hbb) h1
   clear c2 cq1 CJ hrb hbb
   go_wp2_with fail
   refine CN.mono ?_
   rintro e xc ⟨pm, Fm, rfl, hia, hbc, hge⟩
   dsimp only
   have HIA := Lib.hid hia
   have HBC := Lib.hid (bthn HBB.out hbc)
   have HGE : Hid (∀ k ∈ Fm, w.heap.size ≤ k) := Lib.hid (fun j hj => Nat.le_trans (bthn HBW.out HBB.out).size (hge j hj))
   have CN2 := new_in vb k dcs (HRB.out.below hbc) h2
   clear CN hia hbc hge
   go_wp2_with fail
   refine CN2.mono ?_
   rintro e xd ⟨pd, Fd, rfl, hid2, hbd, hge⟩
   dsimp only
   have HID := Lib.hid hid2
   have HIM := Lib.hid (HIA.out.same (fun j hj => hbd.block j (HIA.out.lt j hj)))
   have HBD := Lib.hid (bthn HBW.out (bthn HBC.out hbd))
   have HGD : Hid ((∀ k ∈ Fd, w.heap.size ≤ k) ∧ ∀ k ∈ Fd, k ∉ Fm) := Lib.hid ⟨fun j hj => Nat.le_trans (bthn HBW.out HBC.out).size (hge j hj), fun j hj hj2 => by
    have := hge j hj
    have := HIA.out.lt j hj2
    omega⟩
   clear CN2 hid2 hbd hge
   go_wp2_with fail
   go_ret3
   exact ⟨pm, pd, Fm, Fd, rfl, HIM.out, HID.out, HBD.out, HGE.out, HGD.out.1, HGD.out.2⟩
end Go.Proofs.YtgmahhdnjikdjaaGreat
