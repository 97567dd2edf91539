/- The law's 'begin', walked. -/
import Derived.Deep.LoopGhost
import Derived.Deep.RegionLaw
import Derived.Test.YtgokaoajpidhnaaDo6
namespace Go.Proofs.Ytgokaoajpidhnaa
open Go.RowKit
set_option linter.unusedVariables false

/-- Append of one number to a slice that is nil or the call's own: one step of a region that draws. -/
theorem step_app {P : Program} {ops : Array Oper} {o : Oper} {a : Act} {w : World} {K : Act → World → Prop} {Q : Exit → Act → World → Prop} {F : Prop}
    (hg : o.guard = none) (s x : Operand) (t : TypeId) (hop : o.op = Op.call { callee := Callee.builtin Builtin.append, args := #[s, x], argTypes := #[t, t] })
    (base : Nat) (E : TypeId) (z : Value) (size bytes : Nat) (ht : P.underlying t = some (.slice E)) (hinfo : (P.info? E).map (fun i => (i.zero, i.size, i.bytes)) = some (some z, size, bytes))
    (hzs : z.cells.size = size) (hsz : 0 < size) (hby : 0 < bytes)
    {v : Value} {n : Nat} {xs : List Value} (hown : w.ownsRow base E size v n xs) (hs : a.eval s = v)
    {b c m : Nat} {news : List Value} (hx : a.eval x = .slice (some ⟨b, 0, none⟩) m c) (hl : news.length = m * size) (hc : ∀ j u, news[j]? = some u → w.cell? ⟨b, j, none⟩ = some u) (h1 : ∀ u ∈ news, u.oneCell' = true)
    (hbytes : (n + m) * bytes ≤ 140737488355328) (hbase : base ≤ w.heap.size)
    (hK : ∀ v' w', w'.ownsRow base E size v' (n + m) (xs ++ news) → Below base w w' → w.grownBy w' v.ownBlock → SameOrNew w v v' → (v' = .slice none 0 0 ↔ v = .slice none 0 0 ∧ m = 0) → K (a.put o.dst v') w') :
    if Region.wanted o (yielded ops a.tmps) = true then Oper.wp P o a w K Q else F := by
  have hw : Region.wanted o (yielded ops a.tmps) = true := by simp [Region.wanted, hg]
  rw [if_pos hw]
  obtain ⟨i0, hi, hz0, hz1, hz2⟩ := info_parts hinfo
  have hn1 : n + m ≤ maxLen := by
    have : n + m ≤ (n + m) * bytes := Nat.le_mul_of_pos_right _ hby
    unfold maxLen; omega
  refine wp_app _ s x t hop base E i0 z size bytes ht hi hz0 hz1 hz2 hzs hsz v n xs hs hown ⟨b, 0, none⟩ m c news hx hl (fun j u hj => by rw [Addr.add_lit, Nat.zero_add]; exact hc j u hj) h1 hn1 hbytes hbase ?_
  intro v' w' h2 h3 h4 h5
  exact hK v' w' h2 ((Below.refl base w).grown h3 hbase (fun k hk => (hown.lt k hk).1)) h3 h4 h5

theorem ownsRow_other {w : World} {base : Nat} {e : TypeId} {size n : Nat} {v : Value} {xs : List Value} (h : w.ownsRow base e size v n xs) {p : Addr} (hp : p.block < base) (u : Value) : (w.setCell p u).ownsRow base e size v n xs := by
  refine ⟨h.1, ?_⟩
  rcases h.2 with h | ⟨g, cap, cur, hv, hg, hh, r⟩
  · exact .inl h
  · exact .inr ⟨g, cap, cur, hv, hg, (setOther p u (by omega)).trans hh, r⟩

theorem begin_out (v : Value) (n : Nat) (xs : List Nat) {w : World} (h : Rd w 1 v n (kV .u16 xs)) (hn : n < 1 ∨ 1000 < n) :
    Calls Try.prog 33 #[v] w fun e w' => e = .returned (.tuple #[.pointer none, .pointer none]) ∧ w' = w := by
  have C := new_out v n xs h hn
  clear h hn
  go_enter Try.func33, Try.ntmps33
  go_wp2_with fail
  refine (C).mono ?_
  rintro e w1 ⟨rfl, rfl⟩
  go_wp2_with fail
  go_ret2
  exact ⟨rfl, rfl⟩

theorem kV_take_succ {kd : IntKind} {xs : List Nat} {k x : Nat} (h : xs[k]? = some x) : kV kd (xs.take k) ++ [.int kd (x : Int)] = kV kd (xs.take (k + 1)) := by
  rw [List.take_add_one, h, kV_app]
  rfl

set_option maxRecDepth 100000 in
set_option maxHeartbeats 6400000 in
theorem begin_in (v : Value) (n : Nat) (xs : List Nat) {w : World} (h : Rd w 1 v n (kV .u16 xs)) (hn : 1 ≤ n ∧ n ≤ 1000) (hxs : ∀ x ∈ xs, x < 65536) :
    Calls Try.prog 33 #[v] w fun e w' => ∃ p r F G, e = .returned (.tuple #[pt p, pt r]) ∧ Two w' p r ⟨xs, xs, 0, 0⟩ F G ∧ Below w.heap.size w w' ∧ ∀ k ∈ F ++ G, w.heap.size ≤ k := by
  have C := new_in v n xs h hn
  have hrd := Lib.hid h
  have hxl : xs.length = n := by obtain ⟨_, _, _, hl, _⟩ := h; simpa [kV] using hl
  have HXL := Lib.hid hxl
  have HXS := Lib.hid hxs
  obtain ⟨ao, cap, rfl, hl, hm, hcap, hc⟩ := h
  obtain ⟨hn1, hn2⟩ := hn
  unfold pt at *
  clear hc hl hxl hxs hm hcap
  go_enter Try.func33, Try.ntmps33
  go_wp2_with fail
  refine (C).mono ?_
  rintro e w1 ⟨p, F, rfl, hA, hb1, hF⟩
  have HA := Lib.hid (And.intro hA (And.intro hb1 hF))
  clear hA hb1 hF C
  obtain ⟨r, hr⟩ : ∃ r, w1.heap.size = r := ⟨_, rfl⟩
  have HH : Hid ((w1.alloc (.cells #[.slice none 0 0, .slice none 0 0, .int .i64 0, .int .i64 0] 63)).heap[r]? = _) := Lib.hid (hr ▸ heap_alloc_new w1 (.cells #[.slice none 0 0, .slice none 0 0, .int .i64 0, .int .i64 0] 63))
  have HBA : Hid (Below w1.heap.size w1 (w1.alloc (.cells #[.slice none 0 0, .slice none 0 0, .int .i64 0, .int .i64 0] 63))) := Lib.hid (balloc (Below.refl _ w1) (.cells #[.slice none 0 0, .slice none 0 0, .int .i64 0, .int .i64 0] 63))
  have hs1 : r < (w1.alloc (.cells #[.slice none 0 0, .slice none 0 0, .int .i64 0, .int .i64 0] 63)).heap.size := by simp; omega
  go_wp2_with fail
  generalize w1.alloc (.cells #[.slice none 0 0, .slice none 0 0, .int .i64 0, .int .i64 0] 63) = w2 at HH HBA hs1 ⊢
  have HR := Lib.hid hr
  clear hr
  go_loopg [7] n (fun g i wr => ∃ (k : Nat) (u : Value), k ≤ n ∧ g = n - k ∧ i = .int .i64 k ∧ wr.heap[r]? = some (.cells #[u, .slice none 0 0, .int .i64 0, .int .i64 0] 63 (0, 0)) ∧ wr.ownsRow (r + 1) 3 1 u k (kV .i64 (xs.take k)) ∧ Below w1.heap.size w1 wr)
  case atStart => exact ⟨0, _, by omega, by omega, rfl, HH.out, World.ownsRow_nil _ _ _ _, HBA.out⟩
  case round =>
    obtain ⟨k, u, hk, hg, rfl, hhr, ho, hbr⟩ := hrel
    by_cases hlt : k < n
    · have c0 := cellOf hhr 0 rfl
      have f0 := frozenOf hhr 0
      have hrt : r < wr.heap.size := (Array.getElem?_eq_some_iff.1 hhr).1
      have hxk : xs[k]? = some (getN xs k) := getN_get (by rw [HXL.out]; exact hlt)
      have hx := HXS.out _ (List.mem_of_getElem? hxk)
      have hsucc := kV_take_succ (kd := .i64) hxk
      obtain ⟨ao', cap', hv, _, _, hcp, hcc⟩ := (hrd.out.below HA.out.2.1).below hbr
      obtain ⟨b, off, rfl, hbl, hcell⟩ := hcc k _ (kV_get hxk)
      have hao := (Value.slice.inj hv).1
      subst hao
      generalize getN xs k = x at hx hsucc hcell
      have HS := Lib.hid hsucc
      have HHR := Lib.hid hhr
      have HO := Lib.hid ho
      have HG := Lib.hid hg
      have HBR := Lib.hid hbr
      have ew : IntKind.i64.wrap (x : Int) = (x : Int) := IntWalk.i64_in _ (by omega)
      clear hsucc hcc hv hxk hhr hcp ho hg hbr
      dsimp only [List.getElem_toArray, List.getElem_cons_zero] at c0
      go_wp2_with fail
      first
        | (go_region_law ((refine step_app rfl _ _ 23 rfl (r + 1) 3 _ 1 8 Try.underlying23 infoInt6 rfl (by decide) (by decide) (hown := (HO.out.drew).alloc _) rfl (news := [.int .i64 (x : Int)]) rfl rfl (by intro j u hj; have hj0 : j = 0 := (by have := (List.getElem?_eq_some_iff.1 hj).1; simpa using this); subst hj0; simp at hj; subst hj; exact cellOf (heap_alloc_new _ _) 0 rfl) (by simp [Value.oneCell']) (by omega) (by simp; omega) ?_; intro v' x1 ho1 hb1 hg1 hs1 hne1; obtain ⟨gv, cv, rfl, hgv, hgl⟩ := ownsRow_nonil ho1 (fun e => by have := (hne1.1 e).2; omega); have hx1 := (hb1.block r (by omega)).trans ((Below.heap_alloc wr _ r hrt).trans HHR.out); have y0 := cellOf hx1 0 rfl; have z0 := frozenOf hx1 0; dsimp only [List.getElem_toArray, List.getElem_cons_zero] at y0; have HX1 := Lib.hid hx1; have HO1 := Lib.hid (ownsRow_other ho1 (p := ⟨r, 0, none⟩) (by simp) (.slice (some ⟨gv, 0, none⟩) (k + 1) cv)); have hbx := ((balloc HBR.out (.cells #[.int .i64 (x : Int)] 3)).drew.trans (hb1.mono (by have := HR.out; omega))).setCell (p := ⟨r, 0, none⟩) (by have := HR.out; simp; omega) (.slice (some ⟨gv, 0, none⟩) (k + 1) cv); have HBX := Lib.hid hbx; clear ho1 hb1 hg1 hs1 hne1 hx1 hbx)))
        | fail
      all_goals
        go_wp2_with fail
        go_roundg (n - (k + 1))
        case rel => exact ⟨k + 1, _, by omega, rfl, by go_num, setOf HX1.out 0 _, by rw [← HS.out]; exact HO1.out, HBX.out⟩
        case measure => have := HG.out; omega
    · obtain rfl : k = n := by omega
      have c0 := cellOf hhr 0 rfl
      have f1 := frozenOf hhr 1
      have c1 := cellOf hhr 1 rfl
      dsimp only [List.getElem_toArray, List.getElem_cons_zero, List.getElem_cons_succ] at c0 c1
      rw [show List.take k xs = xs from by rw [← HXL.out, List.take_length]] at ho
      have CC := rclone_any u k xs wr (Rd.of_own ho) (by omega)
      have hrt : r < wr.heap.size := (Array.getElem?_eq_some_iff.1 hhr).1
      have HHR := Lib.hid hhr
      have HO := Lib.hid ho
      have HBR := Lib.hid hbr
      clear hhr ho hbr hg
      go_wp2_with fail
      refine CC.mono ?_
      rintro e x1 ⟨v2, rfl, ho2, hb2⟩
      have hx1 := (hb2.block r hrt).trans HHR.out
      have y1 := cellOf hx1 1 rfl
      have z1 := frozenOf hx1 1
      dsimp only [List.getElem_toArray, List.getElem_cons_zero, List.getElem_cons_succ] at y1
      have hv2 : v2 ≠ .slice none 0 0 := by
        rintro rfl
        rcases ho2.2 with ⟨_, h0⟩ | ⟨g, cap, cur, hv, _⟩
        · omega
        · cases hv
      have hu : u ≠ .slice none 0 0 := by
        rintro rfl
        rcases HO.out.2 with ⟨_, h0⟩ | ⟨g, cap, cur, hv, _⟩
        · omega
        · cases hv
      obtain ⟨g1, c1', rfl, hg1, r1⟩ := Row.of_own HO.out hu
      obtain ⟨g2, c2', rfl, hg2, r2⟩ := Row.of_own ho2 hv2
      have l1 := r1.lt
      have st := setOf hx1 1 (.slice (some ⟨g2, 0, none⟩) k c2')
      have hR : RA (x1.setCell ⟨r, 1, none⟩ (.slice (some ⟨g2, 0, none⟩) k c2')) r ⟨xs, xs, 0, 0⟩ [r, g1, g2] := by
        refine ⟨g1, g2, c1', c2', rfl, ?_⟩
        dsimp only
        rw [HXL.out]
        refine ⟨by simpa using st, (r1.same (hb2.block g1 l1)).same (setOther _ _ (by simp; omega)), r2.same (setOther _ _ (by simp; omega)), by omega, by omega, by omega⟩
      have hbl : Below w1.heap.size w1 (x1.setCell ⟨r, 1, none⟩ (.slice (some ⟨g2, 0, none⟩) k c2')) := (HBR.out.trans (hb2.mono HBR.out.size)).setCell (by have := HR.out; simp; omega) _
      have hfin : Two (x1.setCell ⟨r, 1, none⟩ (.slice (some ⟨g2, 0, none⟩) k c2')) p r ⟨xs, xs, 0, 0⟩ F [r, g1, g2] := by
        refine ⟨IA.below HA.out.1 hbl, hR, ?_, ⟨by show 0 < xs.length; rw [HXL.out]; omega, by show xs.length ≤ 1000; rw [HXL.out]; omega, rfl, by show 0 < xs.length; rw [HXL.out]; omega, by show 0 < xs.length; rw [HXL.out]; omega, HXS.out, HXS.out⟩⟩
        intro j hj hjg
        have := HA.out.1.lt j hj
        have := HR.out
        simp only [List.mem_cons, List.not_mem_nil, or_false] at hjg
        omega
      have hall : ∀ j ∈ F ++ [r, g1, g2], w.heap.size ≤ j := by
        intro j hj
        have h1 := HA.out.2.1.size
        have := HR.out
        rcases List.mem_append.1 hj with h2 | h2
        · exact HA.out.2.2 j h2
        · simp only [List.mem_cons, List.not_mem_nil, or_false] at h2
          omega
      have HFIN := Lib.hid (And.intro hfin (And.intro (bthen HA.out.2.1 hbl) hall))
      clear hfin hall hbl hR st hx1 ho2 hb2 hv2 hu r1 r2
      go_wp2_with fail
      go_ret2
      exact ⟨p, r, F, [r, g1, g2], rfl, HFIN.out.1, HFIN.out.2.1, HFIN.out.2.2⟩
end Go.Proofs.Ytgokaoajpidhnaa
