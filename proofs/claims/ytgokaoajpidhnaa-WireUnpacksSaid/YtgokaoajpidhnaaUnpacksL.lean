/- WireUnpacks, walked. -/
import Derived.Deep.DeepCutAuto
import Derived.Test.YtgokaoajpidhnaaJoinsL
import Derived.Test.YtgokaoajpidhnaaAre
import Derived.Test.YtgokaoajpidhnaaRUnpack
import Derived.Test.YtgokaoajpidhnaaShapesL
namespace Go.Proofs.Ytgokaoajpidhnaa
open Go.RowKit
set_option linter.unusedVariables false
set_option linter.unusedSimpArgs false
open Wire

/-- The reference's Unpack, in one form. -/
theorem ru_any (s : ByteArray) {w0 w : World} {v : Value} {m : Nat} {bs : List UInt8} (hrd : Rd w0 1 v m (bV bs)) (hb0 : Below w0.heap.size w0 w) (hm : m ≤ 20000) (hs : s.size ≤ 40) :
    Calls Try.prog 59 #[.string s, v] w fun e w' => ∃ ao cap cs, e = .returned (.tuple #[.slice ao (uvals (chs s) bs).length cap, .int .i64 (ulen (chs s) bs : Int), .int .i64 (ucode (chs s) bs)]) ∧ Below w.heap.size w w' ∧ RVrow w0 w.heap.size w' (.slice ao (uvals (chs s) bs).length cap) cs ∧ cs.map Prod.fst = uvals (chs s) bs := by
  refine (runpack_any s hrd hb0 hm hs).mono ?_
  rintro e w' ⟨hb, hP⟩
  unfold uvals ulen ucode
  by_cases hy : may (chs s) = true
  · rw [if_pos hy] at hP
    rw [if_pos hy, if_pos hy, if_pos hy]
    cases hu : unpack (chs s) bs with
    | none =>
      rw [hu] at hP
      obtain rfl := hP
      exact ⟨none, 0, [], rfl, hb, RVrow.nil _ _ _, rfl⟩
    | some lk =>
      obtain ⟨l, k⟩ := lk
      rw [hu] at hP
      obtain ⟨v', cs, rfl, ho, hl⟩ := hP
      obtain ⟨ao, cap, rfl, _⟩ := Rd.of_own ho.1
      subst hl
      have e1 : (cs.map Prod.fst).length = cs.length := by simp
      refine ⟨ao, cap, cs, ?_, hb, ?_, rfl⟩
      · show Ending.returned (.tuple #[.slice ao cs.length cap, _, _]) = .returned (.tuple #[.slice ao (cs.map Prod.fst).length cap, _, _])
        rw [e1]; rfl
      · show RVrow w0 w.heap.size w' (.slice ao (cs.map Prod.fst).length cap) cs
        rw [e1]; exact ho
  · rw [if_neg hy] at hP
    rw [if_neg hy, if_neg hy, if_neg hy]
    obtain rfl := hP
    exact ⟨none, 0, [], rfl, hb, RVrow.nil _ _ _, rfl⟩

theorem Outs.at {base : Nat} {w w' : World} {v : Value} {l : List V} (h : Outs base w v l) (hs : ∀ k, base ≤ k → k < w.heap.size → w'.heap[k]? = w.heap[k]?) : Outs base w' v l := by
  obtain ⟨xs, ho, hx⟩ := h
  refine ⟨xs, ownsRow_at ho (fun k hk => hs k (ownsRow_ge ho k hk) (ownsRow_lt ho k hk)), fun j x hj => ?_⟩
  obtain ⟨u, h1, h2⟩ := hx j x hj
  exact ⟨u, h1, h2.at fun k hk => hs k (h2.lt k hk).1 (h2.lt k hk).2⟩
theorem RVrow.at {w0 : World} {base : Nat} {w w' : World} {v : Value} {cs : List (V × Value)} (h : RVrow w0 base w v cs) (hs : ∀ k, base ≤ k → k < w.heap.size → w'.heap[k]? = w.heap[k]?) : RVrow w0 base w' v cs :=
  ⟨ownsRow_at h.1 (fun k hk => hs k (ownsRow_ge h.1 k hk) (ownsRow_lt h.1 k hk)), h.2⟩
theorem Outs.same {base : Nat} {w : World} {v : Value} {l : List V} (h : Outs base w v l) : SameVs l l := by
  obtain ⟨xs, ho, hx⟩ := h
  refine ⟨rfl, fun j x y hj hk => ?_⟩
  rw [hj] at hk
  obtain rfl := Option.some.inj hk
  obtain ⟨u, _, h2⟩ := hx j x hj
  refine ⟨rfl, ?_⟩
  rcases h2 with ⟨h, _⟩ | ⟨h, _⟩ | ⟨h, _⟩ | ⟨h, _⟩
  · exact .inl ⟨h, rfl⟩
  · exact .inr (.inl ⟨h, rfl⟩)
  · exact .inr (.inr (.inl ⟨h, rfl⟩))
  · exact .inr (.inr (.inr ⟨h, rfl⟩))

/-- A row of bytes whose values are whatever numbers. -/
def nV (zs : List Int) : List Value := zs.map (Value.int .u8)

set_option maxRecDepth 100000 in
set_option maxHeartbeats 12800000 in
theorem wireUnpacks_walk (s : ByteArray) (v : Value) (n : Nat) (bs : List UInt8) (w : World) (hrd : Rd w 1 v n (bV bs)) :
    Calls Try.prog 11 #[.string s, v] w fun e w' => e = .returned (.bool true) ∧ Below w.heap.size w w' := by
  have hlen : bs.length = n := by obtain ⟨_, _, _, hl, _⟩ := hrd; simpa [bV] using hl
  have HLN := Lib.hid hlen
  have HRD := Lib.hid hrd
  have CK := fun W => known1_any W
  have CN := fun n W => num1_any n W
  have CM := much_any s none 0 0 [] w ⟨rfl, by omega, by unfold maxLen; omega, fun _ => rfl, fun j x hj => by simp at hj⟩
  obtain ⟨ao, cap, rfl, _, _, ⟨_, hc1, hc2⟩, _⟩ := hrd
  unfold maxLen at hc2
  clear hlen
  go_enter Try.func11, Try.ntmps11
  go_wp2_with fail
  refine CM.mono ?_
  rintro e w2 ⟨⟨y, rfl, hy⟩, rfl⟩
  clear CM
  cases y with
  | true =>
    clear hy
    go_wp2_with fail
    refine (CK w).mono ?_
    rintro e w1 ⟨rfl, hb⟩
    go_wp2_with fail
    go_ret
    exact ⟨rfl, hb⟩
  | false =>
  obtain ⟨hs40, _, _⟩ := hy rfl
  clear hy
  by_cases hn3 : 20000 < n
  · go_wp2_with fail
    refine (CK w).mono ?_
    rintro e w1 ⟨rfl, hb⟩
    go_wp2_with fail
    go_ret
    exact ⟨rfl, hb⟩
  go_wp2_with (at_builtin; go_must (refine wpList_apps rfl _ _ 36 rfl w.heap.size 5 _ 1 1 Try.underlying36 infoByte rfl (by decide) (by decide) _ 0 [] rfl (World.ownsRow_nil _ _ _ _) _ n (bV bs) rfl HRD.out (bV_one bs) (by omega) (Nat.le_refl _) ?_); intro vo w1 ho1 hb1 _ _ _; simp only [Nat.zero_add, List.nil_append] at ho1)
  have CU := u_any s (Rd.of_own ho1) (by omega) (by omega)
  have HB1 := Lib.hid hb1
  have HO1 := Lib.hid ho1
  clear ho1 hb1
  go_wp2_with fail
  refine CU.mono ?_
  rintro e w2 ⟨ao2, cap2, rfl, hb2, ho2⟩
  have HB12 := Lib.hid hb2
  have HB2 := Lib.hid (HB1.out.trans (hb2.mono HB1.out.size))
  have HO2 := Lib.hid ho2
  have CR := ru_any s HRD.out HB2.out (by omega) (by omega)
  clear CU hb2 ho2
  go_wp2_with fail
  refine CR.mono ?_
  rintro e w3 ⟨ao3, cap3, cs, rfl, hb3, ho3, hcs⟩
  have HB23 := Lib.hid hb3
  have HB3 := Lib.hid (HB2.out.trans (hb3.mono HB2.out.size))
  have HO3 := Lib.hid ho3
  have HCS := Lib.hid hcs
  have ho13 := ownsRow_below (ownsRow_below HO1.out HB12.out) HB23.out
  have hlt13 := ownsRow_lt HO1.out
  obtain ⟨aow, capw, rfl, _, _, _, _⟩ := Rd.of_own ho13
  have HO13 := Lib.hid ho13
  have HLT := Lib.hid hlt13
  clear CR hb3 ho3 hcs ho13 hlt13
  generalize hul : (uvals (chs s) bs).length = nu at *
  generalize ulen (chs s) bs = ku at *
  generalize ucode (chs s) bs = cu at *
  have HUL := Lib.hid hul
  clear hul
  go_wp2_with fail
  go_loopw [12] (fun i wr => ∃ (k : Nat) (zs : List Int), k ≤ n ∧ i = .int .i64 (k : Int) ∧ zs.length = n ∧ wr.ownsRow w.heap.size 5 1 (.slice aow n capw) n (nV zs) ∧ Mods (ob (.slice aow n capw)) w3 wr ∧ Below w.heap.size w wr)
    (fun i _ => n - (intOf i).toNat)
  case atStart =>
    exact ⟨0, bs.map fun b => (b.toNat : Int), by omega, rfl, by simp [HLN.out], by rw [show nV (bs.map fun b => (b.toNat : Int)) = bV bs from by simp [nV, bV, Function.comp_def]]; exact HO13.out, Mods.refl _ _, HB3.out⟩
  case round =>
    obtain ⟨k, zs, hk, rfl, hzl, hown, hmod, hbel⟩ := hrel
    have HMOD := Lib.hid hmod
    have HBEL := Lib.hid hbel
    clear hmod hbel
    by_cases hlt : k < n
    · obtain ⟨g, rfl⟩ : ∃ g, aow = some ⟨g, 0, none⟩ := by
        rcases hown.2 with ⟨hv, hn0⟩ | ⟨g, cap', cur, hv, _⟩
        · omega
        · simp at hv; exact ⟨g, hv.1⟩
      obtain ⟨z, hz⟩ : ∃ z, zs[k]? = some z := ⟨_, List.getElem?_eq_getElem (by omega)⟩
      have hcell := hown.cellAt k (by omega)
      have hfz := hown.frozenAt k
      have hx : (nV zs)[k]? = some (.int .u8 z) := by simp [nV, hz]
      rw [hx] at hcell
      have hge := (hown.lt g rfl).1
      have HGE := Lib.hid hge
      have HST := Lib.hid (fun u => hown.stored k u)
      have hcc : n ≤ capw ∧ capw ≤ 9223372036854775807 := by
        obtain ⟨a1, c1, e1, _, _, ⟨_, q1, q2⟩, _⟩ := Rd.of_own hown
        obtain ⟨_, _, rfl⟩ := Value.slice.inj e1
        unfold maxLen at q2
        exact ⟨q1, q2⟩
      have HZL := Lib.hid hzl
      clear hx hz hown hge hzl
      go_wp2_with fail
      go_roundw
      case rel =>
        refine ⟨k + 1, zs.set k ((z + 1) % 256), by omega, by go_num, by simpa using HZL.out, ?_, HMOD.out.setCell (p := ⟨g, k, none⟩) (by simp [ob_some]) _, HBEL.out.setCell (p := ⟨g, k, none⟩) HGE.out _⟩
        have := (HST.out (.int .u8 ((z + 1) % 256))).1
        simpa [nV, List.map_set] using this
      case measure => simp [intOf]; omega
    · have hag : ∀ k, w1.heap.size ≤ k → k < w3.heap.size → wr.heap[k]? = w3.heap[k]? := fun k h1 h2 => HMOD.out.block k h2 (fun hm => by
        have := HLT.out k hm; omega)
      have ho2' := (HO2.out.below HB23.out).at (fun k h1 h2 => hag k h1 h2)
      have ho3' := HO3.out.at (fun k h1 h2 => hag k (Nat.le_trans HB12.out.size h1) h2)
      obtain ⟨ao4, cap4, he4, _, ha4⟩ := ho2'.anys
      rw [HUL.out] at he4 ha4
      obtain ⟨e41, _, e43⟩ := Value.slice.inj he4
      subst e41 e43
      obtain ⟨ao5, cap5, he5, ha5⟩ := ho3'.rvs HBEL.out
      have hcl : cs.length = nu := by rw [← HUL.out, ← HCS.out]; simp
      rw [hcl] at he5 ha5
      rw [HCS.out] at ha5
      obtain ⟨e51, _, e53⟩ := Value.slice.inj he5
      subst e51 e53
      have CAR := are_true ao2 nu cap2 _ ao3 nu cap3 _ wr ha4 ha5 ho2'.same
      clear hag ho2' ho3' he4 he5 ha4 ha5 hown hzl hcl
      go_wp2_with fail
      refine CAR.mono ?_
      rintro e w5 ⟨rfl, hb5⟩
      have HB5 := Lib.hid (bthen HBEL.out hb5)
      clear hb5 CAR
      go_wp2_with fail
      refine (CN _ w5).mono ?_
      rintro e w6 ⟨rfl, rfl⟩
      go_wp2_with fail
      refine (CK w5).mono ?_
      rintro e w6 ⟨rfl, hb6⟩
      have HB6 := Lib.hid (bthen HB5.out hb6)
      clear hb6
      go_wp2_with fail
      go_ret
      exact ⟨rfl, HB6.out⟩
end Go.Proofs.Ytgokaoajpidhnaa
