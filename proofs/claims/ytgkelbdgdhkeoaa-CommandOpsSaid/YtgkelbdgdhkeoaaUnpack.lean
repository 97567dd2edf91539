/- wire.Unpack, walked. -/
import Derived.Test.YtgkelbdgdhkeoaaLift
namespace Go.Proofs.Ytgkelbdgdhkeoaa
open Go.RowKit
set_option linter.unusedVariables false
set_option linter.unusedSimpArgs false
open Wire

theorem infoAny : (Try.prog.info? 20).map (fun i => (i.zero, i.size, i.bytes)) = some (some .nilIface, 1, 16) := by kernel_rfl

/-- Values as the program answers them, in a row that is new. -/
def Outs (base : Nat) (w : World) (v : Value) (l : List V) : Prop :=
  ∃ xs, w.ownsRow base 20 1 v l.length xs ∧ ∀ (j : Nat) (x : V), l[j]? = some x → ∃ u, xs[j]? = some u ∧ AnyO base w u x
theorem Outs.nil (base : Nat) (w : World) : Outs base w (.slice none 0 0) [] := ⟨[], World.ownsRow_nil _ _ _ _, fun j x h => by simp at h⟩
theorem Outs.below {base : Nat} {w w' : World} {v : Value} {l : List V} (h : Outs base w v l) (hb : Below w.heap.size w w') : Outs base w' v l := by
  obtain ⟨xs, ho, hx⟩ := h
  refine ⟨xs, ownsRow_below ho hb, fun j x hj => ?_⟩
  obtain ⟨u, h1, h2⟩ := hx j x hj
  exact ⟨u, h1, h2.below hb⟩
/-- An answer's own block. -/
def ib : Value → List Nat
  | .iface _ v => ob v
  | _ => []
/-- The row's block holds none of its values' bytes. -/
def Outs2 (base : Nat) (w : World) (v : Value) (l : List V) : Prop :=
  ∃ xs, w.ownsRow base 20 1 v l.length xs ∧ ∀ (j : Nat) (x : V), l[j]? = some x → ∃ u, xs[j]? = some u ∧ AnyO base w u x ∧ ∀ k ∈ ib u, k ∉ ob v
theorem Outs2.outs {base : Nat} {w : World} {v : Value} {l : List V} (h : Outs2 base w v l) : Outs base w v l := by
  obtain ⟨xs, ho, hx⟩ := h
  refine ⟨xs, ho, fun j x hj => ?_⟩
  obtain ⟨u, h1, h2, _⟩ := hx j x hj
  exact ⟨u, h1, h2⟩
theorem Outs2.nil (base : Nat) (w : World) : Outs2 base w (.slice none 0 0) [] := ⟨[], World.ownsRow_nil _ _ _ _, fun j x h => by simp at h⟩
theorem Outs2.below {base : Nat} {w w' : World} {v : Value} {l : List V} (h : Outs2 base w v l) (hb : Below w.heap.size w w') : Outs2 base w' v l := by
  obtain ⟨xs, ho, hx⟩ := h
  refine ⟨xs, ownsRow_below ho hb, fun j x hj => ?_⟩
  obtain ⟨u, h1, h2, h3⟩ := hx j x hj
  exact ⟨u, h1, h2.below hb, h3⟩
/-- What changes just blocks that are none of the answers'. -/
theorem Outs2.at {base : Nat} {w w' : World} {v : Value} {l : List V} (h : Outs2 base w v l) (hs : ∀ k, base ≤ k → k < w.heap.size → (∃ t c f, w.heap[k]? = some (.cells c t f)) → w'.heap[k]? = w.heap[k]?) : Outs2 base w' v l := by
  have key : ∀ {e : TypeId} {n : Nat} {u : Value} {xs : List Value}, w.ownsRow base e 1 u n xs → w'.ownsRow base e 1 u n xs := by
    intro e n u xs ho
    refine ownsRow_at ho (fun k hk => ?_)
    rcases ho.2 with ⟨rfl, _⟩ | ⟨g, cap, cur, rfl, hg, hh, _⟩
    · simp [ob_nil] at hk
    · rw [ob_some] at hk
      obtain rfl : k = g := by simpa using hk
      exact hs k hg (Array.getElem?_eq_some_iff.1 hh).1 ⟨_, _, _, hh⟩
  obtain ⟨xs, ho, hx⟩ := h
  refine ⟨xs, key ho, fun j x hj => ?_⟩
  obtain ⟨u, h1, h2, h3⟩ := hx j x hj
  refine ⟨u, h1, ?_, h3⟩
  rcases h2 with h2 | h2 | ⟨h2, sl, h4, h5⟩ | h2
  · exact .inl h2
  · exact .inr (.inl h2)
  · exact .inr (.inr (.inl ⟨h2, sl, h4, key h5⟩))
  · exact .inr (.inr (.inr h2))

theorem AnyO.lt {base : Nat} {w : World} {u : Value} {x : V} (h : AnyO base w u x) : ∀ k ∈ ib u, base ≤ k ∧ k < w.heap.size := by
  intro k hk
  rcases h with ⟨_, rfl, _⟩ | ⟨_, rfl⟩ | ⟨_, sl, rfl, h5⟩ | ⟨_, rfl, _⟩
  · simp [ib, ob, Value.ownBlock] at hk
  · simp [ib, ob, Value.ownBlock] at hk
  · exact ⟨ownsRow_ge h5 k hk, ownsRow_lt h5 k hk⟩
  · simp [ib, ob, bA, Value.ownBlock] at hk
theorem AnyO.base {base base' : Nat} {w : World} {u : Value} {x : V} (h : AnyO base w u x) (hb : base' ≤ base) : AnyO base' w u x := by
  rcases h with h2 | h2 | ⟨h2, sl, h4, h5⟩ | h2
  · exact .inl h2
  · exact .inr (.inl h2)
  · exact .inr (.inr (.inl ⟨h2, sl, h4, ownsRow_base h5 hb⟩))
  · exact .inr (.inr (.inr h2))
theorem AnyO.at {base : Nat} {w w' : World} {u : Value} {x : V} (h : AnyO base w u x) (hs : ∀ k ∈ ib u, w'.heap[k]? = w.heap[k]?) : AnyO base w' u x := by
  rcases h with h2 | h2 | ⟨h2, sl, h4, h5⟩ | h2
  · exact .inl h2
  · exact .inr (.inl h2)
  · refine .inr (.inr (.inl ⟨h2, sl, h4, ownsRow_at h5 (fun k hk => hs k ?_)⟩))
    rw [h4]
    exact hk
  · exact .inr (.inr (.inr h2))

/-- A value appended to the row. -/
theorem Outs2.snoc {base : Nat} {w w1 : World} {v v1 u : Value} {l : List V} {x : V} {xs : List Value} (hx : ∀ (j : Nat) (y : V), l[j]? = some y → ∃ z, xs[j]? = some z ∧ AnyO base w z y ∧ ∀ k ∈ ib z, k ∉ ob v)
    (hn : xs.length = l.length) (hu : AnyO base w u x) (hd : ∀ k ∈ ib u, k ∉ ob v) (ho1 : w1.ownsRow base 20 1 v1 (l.length + 1) (xs ++ [u])) (hg : w.grownBy w1 v.ownBlock) (hs : SameOrNew w v v1) : Outs2 base w1 v1 (l ++ [x]) := by
  have key : ∀ {z y}, AnyO base w z y → (∀ k ∈ ib z, k ∉ ob v) → AnyO base w1 z y ∧ ∀ k ∈ ib z, k ∉ ob v1 := by
    intro z y hz hk
    refine ⟨hz.at fun k h => hg.block k (hz.lt k h).2 (fun e => hk k h (by simp [ob, ← e])), fun k h hm => ?_⟩
    rcases (Chg.of_grown hg hs).2 k hm with h1 | h1
    · exact hk k h h1
    · have := (hz.lt k h).2; omega
  refine ⟨xs ++ [u], by simpa using ho1, fun j y hj => ?_⟩
  rcases Nat.lt_trichotomy j l.length with h | h | h
  · rw [List.getElem?_append_left h] at hj
    obtain ⟨z, h1, h2, h3⟩ := hx j y hj
    obtain ⟨k1, k2⟩ := key h2 h3
    exact ⟨z, by rw [List.getElem?_append_left (by omega)]; exact h1, k1, k2⟩
  · subst h
    rw [List.getElem?_append_right (Nat.le_refl _), Nat.sub_self] at hj
    obtain rfl : x = y := by simpa using hj
    obtain ⟨k1, k2⟩ := key hu hd
    exact ⟨u, by rw [List.getElem?_append_right (by omega), hn, Nat.sub_self]; rfl, k1, k2⟩
  · rw [List.getElem?_eq_none (by simp; omega)] at hj
    cases hj

/-- What Unpack leaves. -/
def UnpackP (w : World) (y : Bool) (o : Option (List V × Nat)) (e : Ending) (w' : World) : Prop :=
  Below w.heap.size w w' ∧ if y then (match o with
    | some (l, k) => ∃ v', e = .returned (.tuple #[v', .int .i64 (k : Int), .int .i64 0]) ∧ Outs w.heap.size w' v' l
    | none => e = .returned (.tuple #[.slice none 0 0, .int .i64 0, .int .i64 4])) else e = .returned (.tuple #[.slice none 0 0, .int .i64 0, .int .i64 2])
theorem UnpackP.no_of {w w' : World} {y : Bool} {o : Option (List V × Nat)} {e : Ending} (hy : y = false) (he : e = .returned (.tuple #[.slice none 0 0, .int .i64 0, .int .i64 2])) (hb : Below w.heap.size w w') : UnpackP w y o e w' := by
  subst hy; exact ⟨hb, by simpa using he⟩
theorem UnpackP.none_of {w w' : World} {y : Bool} {o : Option (List V × Nat)} {e : Ending} (hy : y = true) (ho : o = none) (he : e = .returned (.tuple #[.slice none 0 0, .int .i64 0, .int .i64 4])) (hb : Below w.heap.size w w') : UnpackP w y o e w' := by
  subst hy; subst ho; exact ⟨hb, by simpa using he⟩
theorem UnpackP.some_of {w w' : World} {y : Bool} {o : Option (List V × Nat)} {l : List V} {k : Nat} {v' : Value} {e : Ending} (hy : y = true) (ho : o = some (l, k)) (he : e = .returned (.tuple #[v', .int .i64 (k : Int), .int .i64 0])) (hr : Outs w.heap.size w' v' l) (hb : Below w.heap.size w w') : UnpackP w y o e w' := by
  subst hy; subst ho; exact ⟨hb, by simpa using ⟨v', he, hr⟩⟩

theorem lift_le {c : UInt8} {b : List UInt8} {x : V} {k : Nat} (h : lift c b = some (x, k)) : k ≤ b.length ∧ k ≤ 16777220 := by
  unfold lift at h
  split at h
  · cases h
  rename_i h0
  split at h
  · rename_i hc
    split at h
    · cases h
    · obtain ⟨_, rfl⟩ := Prod.mk.inj (Option.some.inj h)
      subst hc
      rw [show wid 63 = 1 from rfl] at h0
      omega
  split at h
  · rename_i hc
    split at h
    · cases h
    · obtain ⟨_, rfl⟩ := Prod.mk.inj (Option.some.inj h)
      subst hc
      rw [show wid 42 = 4 from rfl] at h0
      omega
  split at h
  · rename_i hc
    obtain ⟨_, rfl⟩ := Prod.mk.inj (Option.some.inj h)
    subst hc
    rw [show wid 35 = 256 from rfl] at h0
    omega
  · obtain ⟨_, rfl⟩ := Prod.mk.inj (Option.some.inj h)
    have := widI_le (c.toNat : Int)
    unfold wid at h0 ⊢
    omega

set_option maxRecDepth 100000 in
set_option maxHeartbeats 6400000 in
theorem unpack_any (s : ByteArray) {w : World} {v : Value} {m : Nat} {bs : List UInt8} (hrd : Rd w 1 v m (bV bs)) (hm : m ≤ 100000000) (hs : s.size ≤ 1000000) :
    Calls Try.prog 96 #[.string s, v] w (UnpackP w (may (chs s)) (unpack (chs s) bs)) := by
  have hlen : bs.length = m := by obtain ⟨_, _, _, hl, _⟩ := hrd; simpa [bV] using hl
  have HLN := Lib.hid hlen
  have HRD := Lib.hid hrd
  have C := may_any s w hs
  obtain ⟨ao, cap, rfl, _, _, ⟨_, hc1, hc2⟩, _⟩ := hrd
  obtain ⟨B, hB⟩ : ∃ B, w.heap.size = B := ⟨_, rfl⟩
  have HB := Lib.hid hB
  clear hlen hB
  cases hy : may (chs s) with
  | false =>
    rw [hy] at C
    have HE := Lib.hid hy
    clear hy
    go_enter Try.func96, Try.ntmps96
    go_wp2_with fail
    refine C.mono ?_
    rintro e w1 ⟨rfl, hb⟩
    have HB1 := Lib.hid hb
    clear hb C
    go_wp2_with fail
    go_ret3
    exact UnpackP.no_of rfl rfl HB1.out
  | true =>
    rw [hy] at C
    have HY := Lib.hid hy
    clear hy
    go_enter Try.func96, Try.ntmps96
    go_wp2_with fail
    refine C.mono ?_
    rintro e w1 ⟨rfl, hb⟩
    have HB1 := Lib.hid hb
    clear hb C
    obtain ⟨R, hR⟩ : ∃ R, w1.heap.size = R := ⟨_, rfl⟩
    have HI : Hid ((w1.iter s 0).heap[R]? = some (.stringIter s 0) ∧ Below B w (w1.iter s 0)) := Lib.hid (by
      have h1 := World.iter_heap w1 s 0
      rw [hR] at h1
      have h2 : Below w.heap.size w (w1.iter s 0) := balloc HB1.out _
      rw [HB.out] at h2
      exact ⟨h1, h2⟩)
    go_wp2_with fail
    generalize w1.iter s 0 = w2 at HI ⊢
    have HR := Lib.hid hR
    clear hR
    have HRB : Hid (B ≤ R) := Lib.hid (by rw [← HB.out, ← HR.out]; exact HB1.out.size)
    go_loopg [7, 8] s.size (fun g o a wr => ∃ (pos k : Nat) (v' : Value) (l : List V), pos ≤ s.size ∧ g = s.size - pos ∧ wr.heap[R]? = some (.stringIter s pos) ∧ v' = o ∧ a = .int .i64 (k : Int) ∧ k ≤ m ∧ Outs2 B wr v' l ∧ (∀ j ∈ ob v', j ≠ R) ∧ l.length ≤ pos ∧ may ((chs s).drop pos) = true ∧ Below B w wr ∧
      unpack (chs s) bs = (unpack ((chs s).drop pos) (bs.drop k)).map (fun q => (l ++ q.1, k + q.2)))
    case atStart =>
      refine ⟨0, 0, _, [], by omega, by omega, HI.out.1, rfl, rfl, by omega, Outs2.nil _ _, by simp [ob_nil], by simp, HY.out, HI.out.2, ?_⟩
      simp
    case round =>
      obtain ⟨pos, k, v', l, hp, hg, hh, rfl, rfl, hk, ho, hob, hll, hmy, hb, hun⟩ := hrel
      have HG := Lib.hid hg
      have HU := Lib.hid hun
      have HO := Lib.hid ho
      have HBW := Lib.hid hb
      have HOB := Lib.hid hob
      have HMY := Lib.hid hmy
      have HH := Lib.hid hh
      clear hg hun ho hob hmy
      by_cases hlt : pos < s.size
      · have hmd := HMY.out
        rw [may_drop hlt, Bool.and_eq_true] at hmd
        have hw : wid (s[pos]'hlt) ≠ 0 := by simpa using hmd.1
        have ha := wid_small hw
        have hnx := fun ty => Lib.run_next_any_at (P := Try.prog) wr R s pos ty hh hlt
        rw [decode_ascii s pos hlt ha] at hnx
        have hbi := Lib.below_iterAt hb HRB.out s (pos + 1)
        have HBI := Lib.hid hbi
        have HM2 := Lib.hid hmd.2
        have hcut := fun W => run_cutL (P := Try.prog) W 24 ao m cap 1 undBytes szBytes (k : Int) (by omega) (by omega)
        simp only [Int.toNat_natCast] at hcut
        have HSZ := Lib.hid (Lib.iterAt_size wr R s (pos + 1))
        have HHN := Lib.hid (Lib.iterAt_heap wr R s pos (pos + 1) hh)
        have ho1 : Outs2 B (wr.iterAt R s (pos + 1)) v' l := HO.out.at (fun j _ _ ⟨t, c, f, hc⟩ => Lib.iterAt_other _ _ _ _ _ (fun e => by subst e; rw [HH.out] at hc; cases hc))
        have HO1 := Lib.hid ho1
        have hdr : bV (bs.drop k) = bV ((bs.drop k).take (m - k)) := by
          rw [List.take_of_length_le (by rw [List.length_drop, HLN.out]; exact Nat.le_refl _)]
        have hr1 : Rd (wr.iterAt R s (pos + 1)) 1 (.slice (cutA ao cap k 1) (m - k) (cap - k)) (m - k) (bV (bs.drop k)) := by
          rw [hdr]
          exact ((HRD.out.below (by rw [HB.out]; exact HBI.out)).mid hk (Nat.le_refl m))
        have CL := lift_any (s[pos]'hlt) hw hr1 (by omega)
        have HD := Lib.hid (chs_drop hlt)
        have HRL := Lib.hid (Array.getElem?_eq_some_iff.1 hh).1
        clear hmd hw hb hbi ho1 hdr hr1 hh
        generalize hcc : s[pos]'hlt = c at *
        clear hcc
        go_wp2_with fail
        refine CL.mono ?_
        intro e w3 hP
        have HB3 := Lib.hid (hP.1)
        have hbs1 : B ≤ (wr.iterAt R s (pos + 1)).heap.size := by rw [← HB.out]; exact HBI.out.size
        have HBT := Lib.hid (HBI.out.trans (hP.1.mono hbs1))
        have HBS := Lib.hid hbs1
        clear hbs1
        cases hli : lift c (bs.drop k) with
        | none =>
          rw [hli] at hP
          obtain ⟨_, rfl⟩ := hP
          have HE : Hid (unpack (chs s) bs = none) := Lib.hid (by rw [HU.out, HD.out, unpack, hli]; rfl)
          clear hli CL hcut hnx
          go_wp2_with fail
          go_ret3
          exact UnpackP.none_of rfl HE.out rfl (by rw [HB.out]; exact HBT.out)
        | some xq =>
          obtain ⟨x, q⟩ := xq
          rw [hli] at hP
          obtain ⟨_, u, rfl, hau⟩ := hP
          have hq := lift_le hli
          rw [List.length_drop, HLN.out] at hq
          have HNX : Hid (unpack (chs s) bs = (unpack ((chs s).drop (pos + 1)) (bs.drop (k + q))).map (fun z => ((l ++ [x]) ++ z.1, (k + q) + z.2))) := Lib.hid (by
            rw [HU.out, HD.out, unpack, hli]
            simp only [Option.bind_some, Option.map_map, List.drop_drop]
            congr 1
            funext z
            simp [Function.comp, Nat.add_assoc])
          have hau2 := hau.base HBS.out
          have hnb : ∀ j ∈ ib u, j ∉ ob v' := fun j hj hv => by
            have h1 := (hau.lt j hj).1
            obtain ⟨xs0, ho0, _⟩ := HO.out
            have h2 := ownsRow_lt ho0 j hv
            rw [HSZ.out] at h1
            omega
          obtain ⟨xs, hox, hxx⟩ := HO1.out.below HB3.out
          have hxl : xs.length = l.length := by have := hox.1; omega
          obtain ⟨t, y, rfl⟩ := hau2.iface
          have HAU := Lib.hid hau2
          have HNB := Lib.hid hnb
          have HXX := Lib.hid hxx
          have HXL := Lib.hid hxl
          have hbB : B ≤ w3.heap.size := by rw [← HB.out]; exact HBT.out.size
          have HBB := Lib.hid hbB
          have hri : w3.heap[R]? = some (.stringIter s (pos + 1)) := by
            rw [HB3.out.block R (by rw [HSZ.out]; exact HRL.out)]
            exact HHN.out
          have HRI := Lib.hid hri
          have HR3 : Hid (R < w3.heap.size) := Lib.hid (Array.getElem?_eq_some_iff.1 hri).1
          clear hli CL hcut hnx hau hau2 hnb hxx hxl hri
          go_wp2_with (at_builtin; go_must (refine wpList_app rfl _ _ 126 rfl B 20 _ 1 16 Try.underlying126 infoAny rfl (by decide) (by decide) _ l.length _ rfl hox rfl rfl (by simp [Value.oneCell']) (by omega) hbB ?_); intro v1 w4 ho4 hb4 hg4 hs4 hn4)
          have HO4 : Hid (Outs2 B w4 v1 (l ++ [x])) := Lib.hid (Outs2.snoc HXX.out HXL.out HAU.out HNB.out ho4 hg4 hs4)
          have HB4 := Lib.hid (HBT.out.trans hb4)
          have HOB4 : Hid (∀ j ∈ ob v1, j ≠ R) := Lib.hid (fun j hj => by
            rcases (Chg.of_grown hg4 hs4).2 j hj with h | h
            · exact HOB.out j h
            · have := HR3.out; omega)
          have HI4 : Hid (w4.heap[R]? = some (.stringIter s (pos + 1))) := Lib.hid (by
            rw [hg4.block R HR3.out (fun e => HOB.out R (by unfold ob; rw [Option.mem_toList]; exact e.symm) rfl)]
            exact HRI.out)
          clear ho4 hb4 hg4 hs4 hn4 hox
          go_wp2_with fail
          go_roundg (s.size - (pos + 1))
          case rel =>
            exact ⟨pos + 1, k + q, v1, l ++ [x], by omega, rfl, HI4.out, rfl, by go_num, by omega, HO4.out, HOB4.out, by simp; omega, HM2.out, HB4.out, HNX.out⟩
          case measure => have := HG.out; omega
      · obtain rfl : pos = s.size := by omega
        have hnx := fun ty => Lib.run_next_end_at (P := Try.prog) wr R s s.size ty hh (by omega)
        have hde : (chs s).drop s.size = [] := List.drop_eq_nil_of_le (by rw [chs_len]; exact Nat.le_refl _)
        have HE : Hid (unpack (chs s) bs = some (l, k)) := Lib.hid (by rw [HU.out, hde]; simp [unpack])
        clear hde hb
        go_wp2_with fail
        go_ret3
        exact UnpackP.some_of rfl HE.out rfl (by rw [HB.out]; exact HO.out.outs) (by rw [HB.out]; exact HBW.out)
end Go.Proofs.Ytgkelbdgdhkeoaa
