/- What clients ask: Bytes, walked. -/
import Derived.Test.YtgkelbdgdhkeoaaCmd4
namespace Go.Proofs.Ytgkelbdgdhkeoaa
open Go.RowKit
set_option linter.unusedVariables false
set_option linter.unusedSimpArgs false
open Wire Cmd

theorem AnyV.one {w : World} {u : Value} {x : V} (h : AnyV w u x) : u.oneCell' = true := by
  rcases h with ⟨_, rfl, _⟩ | ⟨_, rfl⟩ | ⟨_, sl, rfl, _⟩ | ⟨_, rfl, _⟩ | ⟨_, _, _, _, h⟩
  · rfl
  · rfl
  · rfl
  · rfl
  · rcases h with ⟨n, rfl⟩ | rfl <;> rfl
theorem row_one {w : World} {l : List V} {xs : List Value} (hn : xs.length = l.length) (hx : ∀ (j : Nat) (x : V), l[j]? = some x → ∃ u, xs[j]? = some u ∧ AnyV w u x) : ∀ u ∈ xs, u.oneCell' = true := by
  intro u hu
  obtain ⟨j, hj⟩ := List.mem_iff_getElem?.1 hu
  have hjl : j < l.length := by rw [← hn]; exact (List.getElem?_eq_some_iff.1 hj).1
  obtain ⟨z, h1, h2⟩ := hx j _ (List.getElem?_eq_getElem hjl)
  rw [hj] at h1
  obtain rfl := Option.some.inj h1
  exact h2.one
theorem row_cons {w : World} {l : List V} {xs : List Value} {u : Value} {x : V} (hu : AnyV w u x) (hx : ∀ (j : Nat) (x : V), l[j]? = some x → ∃ u, xs[j]? = some u ∧ AnyV w u x) : ∀ (j : Nat) (y : V), (x :: l)[j]? = some y → ∃ z, (u :: xs)[j]? = some z ∧ AnyV w z y := by
  intro j y hj
  cases j with
  | zero => simp at hj; subst hj; exact ⟨u, rfl, hu⟩
  | succ j => exact hx j y (by simpa using hj)
theorem anysA {w W : World} {B : Nat} {v : Value} {l : List V} {xs : List Value} (ho : W.ownsRow B 20 1 v l.length xs) (hx : ∀ (j : Nat) (x : V), l[j]? = some x → ∃ u, xs[j]? = some u ∧ AnyV w u x) (hb : Below w.heap.size w W) :
    ∃ ao cap, v = .slice ao l.length cap ∧ (ao = none → cap = 0) ∧ Anys W ao l.length cap l := by
  obtain ⟨ao, cap, rfl, _, _, ⟨hn, h1, h2⟩, hc⟩ := Rd.of_own ho
  refine ⟨ao, cap, rfl, hn, rfl, h1, h2, fun j x hj => ?_⟩
  obtain ⟨u, hu, ha⟩ := hx j x hj
  obtain ⟨b, off, e, hbl, hce⟩ := hc j u hu
  exact ⟨b, off, u, e, hbl, hce, ha.below hb⟩
theorem vals_blen (o : Op0) (l : List UInt8) : ∀ v ∈ vals o l, v.b.length ≤ o.data.length := by
  intro v hv
  obtain ⟨c, _, rfl⟩ := List.mem_map.1 hv
  unfold vaL
  (repeat' split) <;> first | exact Nat.zero_le _ | exact Nat.le_refl _
theorem str_cons (l : List UInt8) (c : UInt8) : (⟨#[c]⟩ : ByteArray) ++ strB l = strB (c :: l) := by simp [strB, ByteArray.ext_iff]

set_option maxRecDepth 100000 in
set_option maxHeartbeats 6400000 in
theorem bytes_any (o : Op0) (ok : o.Ok) (sl : Value) (w : World) (hd : Rd w 1 sl o.data.length (bV o.data)) (hl : o.data.length ≤ 1000000) :
    Calls Try.prog 19 #[.agg (oC o sl)] w (PackP w (packO o)) := by
  have HD := Lib.hid hd
  have HOK := Lib.hid ok
  clear ok
  obtain ⟨ao, cap, rfl, _⟩ := hd
  have hoC : oC o (.slice ao o.data.length cap) = #[.int .i64 o.k, .int .u64 (o.vol : Int), .int .u64 (o.to : Int), .int .i64 o.size, .int .i64 o.pl, .int .i64 o.count, .slice ao o.data.length cap] := rfl
  have HOC := Lib.hid hoC
  have hb0 : Below w.heap.size w (w.alloc (.cells #[.int .i64 o.k, .int .u64 (o.vol : Int), .int .u64 (o.to : Int), .int .i64 o.size, .int .i64 o.pl, .int .i64 o.count, .slice ao o.data.length cap] 26)) := balloc (Below.refl _ _) _
  have HB0 := Lib.hid hb0
  have hbx0 : (w.alloc (.cells #[.int .i64 o.k, .int .u64 (o.vol : Int), .int .u64 (o.to : Int), .int .i64 o.size, .int .i64 o.pl, .int .i64 o.count, .slice ao o.data.length cap] 26)).heap[w.heap.size]? = some (.cells #[.int .i64 o.k, .int .u64 (o.vol : Int), .int .u64 (o.to : Int), .int .i64 o.size, .int .i64 o.pl, .int .i64 o.count, .slice ao o.data.length cap] 26 (0, 0)) := heap_alloc_new w _
  have HBX0 := Lib.hid hbx0
  have CM := mayO_any o HOK.out (.slice ao o.data.length cap) _ (HD.out.below hb0)
  have CS := fun W (hW : Below w.heap.size w W) => shape_any o HOK.out (.slice ao o.data.length cap) W (HD.out.below hW)
  rw [HOC.out] at CM CS
  rw [hoC]
  have HCS := Lib.hid CS
  clear hoC CS hb0 hbx0
  have hk1 := HOK.out.k.1
  have hk2 := HOK.out.k.2
  cases hmay : mayO o with
  | false =>
    have HE : Hid (packO o = none) := Lib.hid (by unfold packO; rw [hmay]; rfl)
    rw [hmay] at CM
    clear hmay
    go_enter Try.func19, Try.ntmps19
    go_wp2_with fail
    refine CM.mono ?_
    rintro e w1 ⟨rfl, hb1⟩
    have HB1 := Lib.hid (bthen HB0.out hb1)
    clear hb1 CM
    go_wp2_with fail
    go_ret2
    exact PackP.none_of HE.out rfl HB1.out
  | true =>
    have HE : Hid (packO o = pack (49 :: shS (nm o.k)) (num (toU o.k) :: vals o (nm o.k))) := Lib.hid (by unfold packO; rw [hmay, if_pos rfl])
    rw [hmay] at CM
    clear hmay
    go_enter Try.func19, Try.ntmps19
    go_wp2_with fail
    refine CM.mono ?_
    rintro e w1 ⟨rfl, hb1⟩
    have HB1 := Lib.hid (bthen HB0.out hb1)
    have hbx1 := (hb1.block w.heap.size (by simp)).trans HBX0.out
    have HBX1 := Lib.hid hbx1
    clear hb1 CM
    have c0 : w1.cell? ⟨w.heap.size, 0, none⟩ = some (.int .i64 o.k) := cellIs hbx1 rfl
    have c1 : w1.cell? ⟨w.heap.size, 1, none⟩ = some (.int .u64 (o.vol : Int)) := cellIs hbx1 rfl
    have c2 : w1.cell? ⟨w.heap.size, 2, none⟩ = some (.int .u64 (o.to : Int)) := cellIs hbx1 rfl
    have c3 : w1.cell? ⟨w.heap.size, 3, none⟩ = some (.int .i64 o.size) := cellIs hbx1 rfl
    have c4 : w1.cell? ⟨w.heap.size, 4, none⟩ = some (.int .i64 o.pl) := cellIs hbx1 rfl
    have c5 : w1.cell? ⟨w.heap.size, 5, none⟩ = some (.int .i64 o.count) := cellIs hbx1 rfl
    have c6 : w1.cell? ⟨w.heap.size, 6, none⟩ = some (.slice ao o.data.length cap) := cellIs hbx1 rfl
    have hlt1 : w.heap.size < w1.heap.size := (Array.getElem?_eq_some_iff.1 hbx1).1
    clear hbx1
    go_wp2_with fail
    refine (HCS.out w1 HB1.out).mono ?_
    rintro e w2 ⟨v2, rfl, hb2, hrow⟩
    have HB2 := Lib.hid (bthen HB1.out hb2)
    have HB12 := Lib.hid hb2
    have hbx2 := (hb2.block w.heap.size hlt1).trans HBX1.out
    have d0 : w2.cell? ⟨w.heap.size, 0, none⟩ = some (.int .i64 o.k) := cellIs hbx2 rfl
    obtain ⟨xs, ho, hx⟩ := hrow
    obtain ⟨aov, capv, rfl, _, _, _, _⟩ := Rd.of_own ho
    have hn1 : xs.length = (vals o (nm o.k)).length := by have := ho.1; omega
    have hvl3 : (vals o (nm o.k)).length ≤ 3 := by unfold vals; rw [List.length_map]; exact nm_len _
    have HX := Lib.hid (And.intro hx (And.intro hn1 (row_one hn1 hx)))
    have HOO := Lib.hid ho
    have hssz : (strB (shS (nm o.k))).size ≤ 3 := by rw [str_size]; unfold shS; rw [List.length_map]; exact nm_len _
    have hwk := u64_wrap o.k
    obtain ⟨sa, hsa⟩ : ∃ sa, strB (shS (nm o.k)) = sa := ⟨_, rfl⟩
    rw [hsa] at hssz
    rw [hsa]
    have HSA := Lib.hid hsa
    obtain ⟨nv, hnv⟩ : ∃ nv, (vals o (nm o.k)).length = nv := ⟨_, rfl⟩
    rw [hnv] at hvl3 ho hn1
    rw [hnv]
    have HNV := Lib.hid hnv
    clear hb2 hbx2 hx hsa c0 c1 c2 c3 c4 c5 c6 hlt1 hnv hn1
    have hlit := World.ownsRow_lit (base := w2.heap.size) (e := 20) (size := 1) w2 #[.iface 23 (.int .u64 ((toU o.k : Nat) : Int))] 1 (Nat.le_refl _) (by decide) rfl
    have HLIT := Lib.hid hlit
    have hrd := (Rd.of_own ho).below (balloc (Below.refl _ w2) (.cells #[.iface 23 (.int .u64 ((toU o.k : Nat) : Int))] 20))
    have HRD := Lib.hid hrd
    clear hlit hrd ho
    go_wp2_with (at_builtin; go_must (refine wpList_apps rfl _ _ 126 rfl w2.heap.size 20 _ 1 16 Try.underlying126 infoAny rfl (by decide) (by decide) (.slice (some ⟨w2.heap.size, 0, none⟩) 1 1) 1 _ rfl HLIT.out (.slice aov nv capv) nv xs rfl HRD.out HX.out.2.2 (by omega) (by simp) ?_); intro v5 w5 ho5 hb5 hg5 hs5 hn5)
    have hb25 : Below w2.heap.size w2 w5 := (balloc (Below.refl _ w2) _).trans hb5
    have HB15 := Lib.hid (bthen HB12.out hb25)
    have HB5 := Lib.hid (bthen HB2.out hb25)
    have hlen : (num (toU o.k) :: vals o (nm o.k)).length = 1 + nv := by rw [List.length_cons, HNV.out]; omega
    have hrow : w5.ownsRow w2.heap.size 20 1 v5 (num (toU o.k) :: vals o (nm o.k)).length (.iface 23 (.int .u64 ((toU o.k : Nat) : Int)) :: xs) := by rw [hlen]; exact ho5
    obtain ⟨ao5, cap5, rfl, hn5', hany⟩ := anysA hrow (row_cons (any_num w1 _ (u64_lt o.k)) HX.out.1) HB15.out
    have hchs : chs ((⟨#[49]⟩ : ByteArray) ++ sa) = 49 :: shS (nm o.k) := by rw [← HSA.out, str_cons, chs_str]
    have hsz : ((⟨#[49]⟩ : ByteArray) ++ sa).size ≤ 4 := by rw [ByteArray.size_append]; show 1 + sa.size ≤ 4; omega
    have CP := pack_any ((⟨#[49]⟩ : ByteArray) ++ sa) hany o.data.length (fun v hv => by
      rcases List.mem_cons.1 hv with rfl | hv
      · exact Nat.zero_le _
      · exact vals_blen o _ v hv) (by omega) (by
        have : ((⟨#[49]⟩ : ByteArray) ++ sa).size * (o.data.length + 260) ≤ 4 * 1000260 := Nat.mul_le_mul hsz (by omega)
        omega) hn5'
    rw [hchs, ← HE.out] at CP
    rw [hlen] at CP
    rw [hlen]
    have HCP := Lib.hid CP
    clear ho5 hb5 hg5 hs5 hn5 hn5' hrow hany hchs hsz CP hlen hb25 hwk d0
    go_wp2_with fail
    refine HCP.out.mono ?_
    rintro e w6 ⟨hb6, hP⟩
    have HB6 := Lib.hid (bthen HB5.out hb6)
    clear hb6
    cases hq : packO o with
    | none =>
      rw [hq] at hP
      obtain rfl := hP
      have HQ := Lib.hid hq
      clear hq
      go_wp2_with fail
      go_ret2
      exact PackP.none_of HQ.out rfl HB6.out
    | some bs =>
      rw [hq] at hP
      obtain ⟨v6, rfl, ho6⟩ := hP
      have HO6 : Hid (w6.ownsRow w.heap.size 5 1 v6 bs.length (bV bs)) := Lib.hid (ownsRow_base ho6 HB5.out.size)
      have HQ := Lib.hid hq
      clear hq ho6
      go_wp2_with fail
      go_ret2
      exact PackP.some_of HQ.out rfl HO6.out HB6.out
end Go.Proofs.Ytgkelbdgdhkeoaa
