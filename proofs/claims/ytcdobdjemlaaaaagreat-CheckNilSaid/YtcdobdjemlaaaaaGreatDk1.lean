/- Disks: Sectors, has, Read, step, Flush, walked. -/
import Derived.Test.YtcdobdjemlaaaaaGreatDk0
namespace Go.Proofs.YtcdobdjemlaaaaaGreat
open Go.RowKit Wire
set_option linter.unusedVariables false
set_option linter.unusedSimpArgs false

theorem infoSec : (Tryz.prog.info? 168).map (·.size) = some 64 := by kernel_rfl
theorem infoS {c : List UInt8} (h : c.length = 64) : (Tryz.prog.info? 168).map (·.size) = some (bV c).length := by rw [bV_len, h]; exact infoSec
set_option maxRecDepth 100000 in
set_option maxHeartbeats 3200000 in
theorem dsec_nil (w : World) : Calls Tryz.prog 74 #[.pointer none] w fun e w' => e = .returned (.int .i64 0) ∧ w = w' := by
  go_enter Tryz.func74, Tryz.ntmps74
  go_wp2_with fail
  go_ret
  exact ⟨rfl, rfl⟩
theorem dsec_at (n0 : Nat) (w : World) (B : Nat) (iv jv : Value) (d : Dk) (h : DkAt n0 w B iv jv d) : Calls Tryz.prog 74 #[.pointer (some ⟨B, 0, none⟩)] w fun e w' => e = .returned (.int .i64 (d.img.length : Int)) ∧ w = w' := by
  obtain ⟨a, c, rfl⟩ := rowSl h.img
  have c0 := cellOf h.box 0 rfl
  clear h
  go_enter Tryz.func74, Tryz.ntmps74
  go_wp2_with fail
  go_ret
  exact ⟨rfl, rfl⟩
/-- Is there a sector? -/
def hasE (n : Nat) (i : Int) : Int := if n = 0 then 1 else if i < 0 ∨ (n : Int) ≤ i then 2 else 0
set_option maxRecDepth 100000 in
set_option maxHeartbeats 3200000 in
theorem dhas_nil (w : World) (i : Int) : Calls Tryz.prog 147 #[.pointer none, .int .i64 i] w fun e w' => e = .returned (.int .i64 1) ∧ w = w' := by
  have CS := dsec_nil w
  go_enter Tryz.func147, Tryz.ntmps147
  go_wp2_with fail
  refine CS.mono ?_
  rintro e w2 ⟨rfl, rfl⟩
  clear CS
  go_wp2_with fail
  go_ret
  exact ⟨rfl, rfl⟩
theorem dhas_at (n0 : Nat) (w : World) (B : Nat) (iv jv : Value) (d : Dk) (h : DkAt n0 w B iv jv d) (i : Int) : Calls Tryz.prog 147 #[.pointer (some ⟨B, 0, none⟩), .int .i64 i] w fun e w' => e = .returned (.int .i64 (hasE d.img.length i)) ∧ w = w' := by
  have CS := dsec_at n0 w B iv jv d h
  obtain ⟨n, hn⟩ : ∃ n, d.img.length = n := ⟨_, rfl⟩
  rw [hn] at CS ⊢
  clear h hn
  unfold hasE
  by_cases hz : n = 0
  · subst hz
    go_enter Tryz.func147, Tryz.ntmps147
    go_wp2_with fail
    refine CS.mono ?_
    rintro e w2 ⟨rfl, rfl⟩
    clear CS
    go_wp2_with fail
    go_ret
    exact ⟨rfl, rfl⟩
  · rw [if_neg hz]
    by_cases h1 : i < 0
    · rw [if_pos (.inl h1)]
      go_enter Tryz.func147, Tryz.ntmps147
      go_wp2_with fail
      refine CS.mono ?_
      rintro e w2 ⟨rfl, rfl⟩
      clear CS
      go_wp2_with fail
      go_ret
      exact ⟨rfl, rfl⟩
    · by_cases h2 : (n : Int) ≤ i
      · rw [if_pos (.inr h2)]
        go_enter Tryz.func147, Tryz.ntmps147
        go_wp2_with fail
        refine CS.mono ?_
        rintro e w2 ⟨rfl, rfl⟩
        clear CS
        go_wp2_with fail
        go_ret
        exact ⟨rfl, rfl⟩
      · rw [if_neg (by omega)]
        go_enter Tryz.func147, Tryz.ntmps147
        go_wp2_with fail
        refine CS.mono ?_
        rintro e w2 ⟨rfl, rfl⟩
        clear CS
        go_wp2_with fail
        go_ret
        exact ⟨rfl, rfl⟩
theorem res_sec {fn : Func} {p u : Tmp} (h : fn.results = #[.cell p 168, .tmp u]) (tmps : Array Value) (w : World) (g : Nat) (L : List UInt8) (x : Value) (hp : tmps.getD p undef = .pointer (some ⟨g, 0, none⟩)) (hx : tmps.getD u undef = x) (hr : w.rangeAt g 0 (bV L)) (hl : L.length = 64) :
    (results fn tmps).run Tryz.prog w = .ok (.tuple #[.agg (bV L).toArray, x]) w := by
  rw [results_cell_tmp h, hp, hx]
  have := run_loadVar_mid (P := Tryz.prog) w g 0 168 (bV L) _ hr Tryz.underlying168 rfl (infoS hl)
  simp only [asAddr, Sem.run_pure, Result.andThen_ok, this]
set_option maxRecDepth 100000 in
set_option maxHeartbeats 3200000 in
theorem dread_at (n0 : Nat) (w : World) (B : Nat) (iv jv : Value) (d : Dk) (h : DkAt n0 w B iv jv d) (i : Nat) (s : List UInt8) (hs : d.img[i]? = some s) (hn : d.img.length ≤ 1000000) : Calls Tryz.prog 108 #[.pointer (some ⟨B, 0, none⟩), .int .i64 (i : Int)] w fun e w' => e = .returned (.tuple #[.agg (bV s).toArray, .int .i64 0]) ∧ Below w.heap.size w w' := by
  have hi := (List.getElem?_eq_some_iff.1 hs).1
  have HSL : Hid (s.length = 64) := Lib.hid (h.secs s (List.mem_of_getElem? hs))
  obtain ⟨gi, ci, cur, hv, _, hgl, hc1, hc2, _⟩ := rowSome h.img (by omega)
  subst hv
  have HRA : Hid (w.rangeAt gi (i * 64) (bV s)) := Lib.hid (by
    have h1 := h.img
    rw [secs_split hs] at h1
    have h2 := row_part h1
    rwa [secsC_take_len h.secs (Nat.le_of_lt hi)] at h2)
  have HGL := Lib.hid hgl
  have HH := Lib.hid h
  obtain ⟨w1, hw1⟩ : ∃ W, w.alloc (.cells #[.int .u8 0, .int .u8 0, .int .u8 0, .int .u8 0, .int .u8 0, .int .u8 0, .int .u8 0, .int .u8 0, .int .u8 0, .int .u8 0, .int .u8 0, .int .u8 0, .int .u8 0, .int .u8 0, .int .u8 0, .int .u8 0, .int .u8 0, .int .u8 0, .int .u8 0, .int .u8 0, .int .u8 0, .int .u8 0, .int .u8 0, .int .u8 0, .int .u8 0, .int .u8 0, .int .u8 0, .int .u8 0, .int .u8 0, .int .u8 0, .int .u8 0, .int .u8 0, .int .u8 0, .int .u8 0, .int .u8 0, .int .u8 0, .int .u8 0, .int .u8 0, .int .u8 0, .int .u8 0, .int .u8 0, .int .u8 0, .int .u8 0, .int .u8 0, .int .u8 0, .int .u8 0, .int .u8 0, .int .u8 0, .int .u8 0, .int .u8 0, .int .u8 0, .int .u8 0, .int .u8 0, .int .u8 0, .int .u8 0, .int .u8 0, .int .u8 0, .int .u8 0, .int .u8 0, .int .u8 0, .int .u8 0, .int .u8 0, .int .u8 0, .int .u8 0] 168) = W := ⟨_, rfl⟩
  have hb1 : Below w.heap.size w w1 := by rw [← hw1]; exact balloc (Below.refl _ _) _
  have hx1 : w1.heap[w.heap.size]? = some (.cells #[.int .u8 0, .int .u8 0, .int .u8 0, .int .u8 0, .int .u8 0, .int .u8 0, .int .u8 0, .int .u8 0, .int .u8 0, .int .u8 0, .int .u8 0, .int .u8 0, .int .u8 0, .int .u8 0, .int .u8 0, .int .u8 0, .int .u8 0, .int .u8 0, .int .u8 0, .int .u8 0, .int .u8 0, .int .u8 0, .int .u8 0, .int .u8 0, .int .u8 0, .int .u8 0, .int .u8 0, .int .u8 0, .int .u8 0, .int .u8 0, .int .u8 0, .int .u8 0, .int .u8 0, .int .u8 0, .int .u8 0, .int .u8 0, .int .u8 0, .int .u8 0, .int .u8 0, .int .u8 0, .int .u8 0, .int .u8 0, .int .u8 0, .int .u8 0, .int .u8 0, .int .u8 0, .int .u8 0, .int .u8 0, .int .u8 0, .int .u8 0, .int .u8 0, .int .u8 0, .int .u8 0, .int .u8 0, .int .u8 0, .int .u8 0, .int .u8 0, .int .u8 0, .int .u8 0, .int .u8 0, .int .u8 0, .int .u8 0, .int .u8 0, .int .u8 0] 168 (0, 0)) := by rw [← hw1]; exact heap_alloc_new _ _
  have CH := dhas_at n0 w1 B _ jv d (h.below hb1) (i : Int)
  obtain ⟨n, hnn⟩ : ∃ n, d.img.length = n := ⟨_, rfl⟩
  rw [hnn] at CH hi hn hc1
  unfold hasE at CH
  rw [if_neg (by omega), if_neg (by omega)] at CH
  have HB1 := Lib.hid hb1
  have HX1 := Lib.hid hx1
  have hbx := cellOf (h.below hb1).box 0 rfl
  have HRA1 : Hid (w1.rangeAt gi (i * 64) (bV s)) := Lib.hid (rangeSt HRA.out hgl hb1)
  rw [hnn] at hbx
  clear h hs hgl hb1 hx1 hnn
  go_enter Tryz.func108, Tryz.ntmps108
  go_wp2_with fail
  (try rw [hw1])
  clear hw1
  refine CH.mono ?_
  rintro e w2 ⟨rfl, rfl⟩
  clear CH
  have HZT : Hid (w1.there w.heap.size 0 64) := Lib.hid (fun j hj => by
    obtain ⟨u, hu⟩ : ∃ u, (#[.int .u8 0, .int .u8 0, .int .u8 0, .int .u8 0, .int .u8 0, .int .u8 0, .int .u8 0, .int .u8 0, .int .u8 0, .int .u8 0, .int .u8 0, .int .u8 0, .int .u8 0, .int .u8 0, .int .u8 0, .int .u8 0, .int .u8 0, .int .u8 0, .int .u8 0, .int .u8 0, .int .u8 0, .int .u8 0, .int .u8 0, .int .u8 0, .int .u8 0, .int .u8 0, .int .u8 0, .int .u8 0, .int .u8 0, .int .u8 0, .int .u8 0, .int .u8 0, .int .u8 0, .int .u8 0, .int .u8 0, .int .u8 0, .int .u8 0, .int .u8 0, .int .u8 0, .int .u8 0, .int .u8 0, .int .u8 0, .int .u8 0, .int .u8 0, .int .u8 0, .int .u8 0, .int .u8 0, .int .u8 0, .int .u8 0, .int .u8 0, .int .u8 0, .int .u8 0, .int .u8 0, .int .u8 0, .int .u8 0, .int .u8 0, .int .u8 0, .int .u8 0, .int .u8 0, .int .u8 0, .int .u8 0, .int .u8 0, .int .u8 0, .int .u8 0] : Array Value)[j]? = some u := ⟨_, Array.getElem?_eq_getElem (by simpa using hj)⟩
    rw [Nat.zero_add]
    exact ⟨by rw [cellOf HX1.out j hu]; rfl, frozenOf HX1.out j⟩)
  have hsb : (bV s).toArray.size = 64 := by rw [List.size_toArray, bV_len, HSL.out]
  go_upto_region 4 with fail
  apply wp_region_lit
  repeat (first
    | (refine wpList_load_mid rfl 168 _ rfl gi (i * 64) rfl (bV s) _ HRA1.out Tryz.underlying168 rfl (infoS HSL.out) ?_)
    | (refine wpList_store_mid rfl 168 _ _ rfl w.heap.size 0 (bV s).toArray rfl rfl (by rw [hsb]; exact HZT.out) (by rw [hsb]; exact infoSec) (Array.all_eq_true_iff_forall_mem.2 (fun v hv => bV_one s v (by simpa using hv))) ?_)
    | go_step)
  refine bodyPost_ret (v := .tuple #[.agg (bV s).toArray, .int .i64 0]) (res_sec rfl _ _ w.heap.size s _ rfl rfl (World.rangeAt_setCells_same _ _ _ _ (by rw [bV_len, HSL.out]; exact HZT.out)) HSL.out) rfl ⟨rfl, ?_⟩
  exact belowSets (Nat.le_refl _) _ _ _ HB1.out
set_option maxRecDepth 100000 in
set_option maxHeartbeats 3200000 in
theorem dstep_at (n0 : Nat) (w : World) (B : Nat) (iv jv : Value) (d : Dk) (h : DkAt n0 w B iv jv d) (hl : d.left < 0) (hd : d.dead = false) : Calls Tryz.prog 127 #[.pointer (some ⟨B, 0, none⟩)] w fun e w' => e = .returned (.int .i64 0) ∧ w' = w.setCell ⟨B, 3, none⟩ (.bool false) := by
  obtain ⟨lf, hlf⟩ : ∃ x, d.left = x := ⟨_, rfl⟩
  have hb := h.box
  rw [hd, hlf] at hb
  rw [hlf] at hl
  have c2 := cellOf hb 2 (v := .int .i64 lf) rfl
  have c3 := cellOf hb 3 (v := .bool false) rfl
  have hf := frozenOf hb 3
  have hs := setOf hb 3 (.bool false)
  have d2 := cellOf hs 2 (v := .int .i64 lf) rfl
  have d3 := cellOf hs 3 (v := .bool false) rfl
  have hz : (lf == 0) = false := by simp; omega
  clear h hb hs hlf
  go_enter Tryz.func127, Tryz.ntmps127
  go_wp2_with fail
  go_ret
  exact ⟨rfl, rfl⟩
set_option maxRecDepth 100000 in
set_option maxHeartbeats 3200000 in
theorem dflush_at (n0 : Nat) (w : World) (B : Nat) (iv jv : Value) (d : Dk) (h : DkAt n0 w B iv jv d) (hl : d.left < 0) (hd : d.dead = false) (h0 : 0 < d.img.length) : Calls Tryz.prog 82 #[.pointer (some ⟨B, 0, none⟩)] w fun e w' => e = .returned (.int .i64 0) ∧ DkAt n0 w' B iv (.slice none 0 0) { d with jr := [] } ∧ Mods [B] w w' := by
  have CS := dsec_at n0 w B iv jv d h
  obtain ⟨n, hn⟩ : ∃ n, d.img.length = n := ⟨_, rfl⟩
  rw [hn] at CS h0
  have CT := dstep_at n0 w B iv jv d h hl hd
  have HH := Lib.hid (h.stepped hd)
  have hb := HH.out.box
  have hf := frozenOf hb 1
  have c1 := cellOf hb 1 (v := jv) rfl
  have HM : Hid (Mods [B] w (w.setCell ⟨B, 3, none⟩ (.bool false))) := Lib.hid ((Mods.refl _ _).setCell (p := ⟨B, 3, none⟩) (List.mem_singleton.2 rfl) _)
  clear h hn hb
  go_enter Tryz.func82, Tryz.ntmps82
  go_wp2_with fail
  refine CS.mono ?_
  rintro e w2 ⟨rfl, rfl⟩
  clear CS
  go_wp2_with fail
  refine CT.mono ?_
  rintro e w2 ⟨rfl, rfl⟩
  clear CT
  go_wp2_with fail
  go_ret
  exact ⟨rfl, DkAt.journ HH.out.box HH.out.img (World.ownsRow_nil _ _ _ _) HH.out.secs (fun p hp => (by cases hp)) HH.out.ge, HM.out.setCell (p := ⟨B, 1, none⟩) (List.mem_singleton.2 rfl) _⟩
end Go.Proofs.YtcdobdjemlaaaaaGreat
