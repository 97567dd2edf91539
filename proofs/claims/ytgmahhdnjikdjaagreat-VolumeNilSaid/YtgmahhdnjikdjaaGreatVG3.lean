import Derived.Test.YtgmahhdnjikdjaaGreatVG2
import Derived.Test.YtgmahhdnjikdjaaGreatVG1
import Derived.Deep.MidRow
set_option linter.unusedVariables false
set_option linter.unusedSimpArgs false
/- Disks in memory. -/
namespace Go.Proofs.YtgmahhdnjikdjaaGreat
open Go.RowKit Wire
set_option linter.unusedVariables false
set_option linter.unusedSimpArgs false
theorem bthn {a b c : World} (h : Below a.heap.size a b) (k : Below b.heap.size b c) : Below a.heap.size a c := h.trans (k.mono h.size)
theorem rowSl {w : World} {base : Nat} {e : TypeId} {size : Nat} {v : Value} {k : Nat} {xs : List Value} (h : w.ownsRow base e size v k xs) : ∃ a c, v = .slice a k c := by
 rcases h.2 with ⟨rfl, h0⟩ | ⟨g, cap, cur, rfl, _⟩
 ·exact ⟨none, 0, by rw [h0]⟩
 ·exact ⟨_, _, rfl⟩
/-- A row that is not empty has a block. -/
theorem rowSome {w : World} {base : Nat} {e : TypeId} {size : Nat} {v : Value} {k : Nat} {xs : List Value} (h : w.ownsRow base e size v k xs) (hk : 0 < k) : ∃ g c cur, v = .slice (some ⟨g, 0, none⟩) k c ∧ base ≤ g ∧ g < w.heap.size ∧ k ≤ c ∧ c ≤ maxLen ∧ w.heap[g]? = some (.cells cur e (0, 0)) ∧ cur.size = c * size ∧ cur.toList.take (k * size) = xs := by
 rcases h.2 with ⟨rfl, h0⟩ | ⟨g, cap, cur, rfl, hb, hh, r1, r2, r3, r4⟩
 ·omega
 ·exact ⟨g, cap, cur, rfl, hb, (Array.getElem?_eq_some_iff.1 hh).1, r1, r2, hh, r3, r4⟩
theorem rangeSt {w w' : World} {b o : Nat} {cs : List Value} (h : w.rangeAt b o cs) (hl : b < w.heap.size) (hb : Below w.heap.size w w') : w'.rangeAt b o cs :=
 fun j v hv => (World.cell?_of_block (hb.block b hl)).trans (h j v hv)
/-- A list's places from o on, set. -/
def setL {α : Type} : List α → Nat → List α → List α
 | xs, _, [] => xs
 | xs, o, v :: vs => setL (xs.set o v) (o + 1) vs
theorem setL_mid {α : Type} : ∀ (Y A X B : List α), X.length = Y.length → setL (A ++ (X ++ B)) A.length Y = A ++ (Y ++ B)
 | [], A, X, B, h => by
  have : X = [] := List.length_eq_zero_iff.1 h
  subst this
  rfl
 | y :: Y, A, X, B, h => by
  cases X with
  | nil => simp at h
  | cons x X =>
   have e : (A ++ ((x :: X) ++ B)).set A.length y = (A ++ [y]) ++ (X ++ B) := by simp
   have ih := setL_mid Y (A ++ [y]) X B (by simpa using h)
   rw [List.length_append, List.length_singleton] at ih
   rw [setL, e, ih]
   simp
theorem setL_len {α : Type} : ∀ (Y : List α) (xs : List α) (o : Nat), (setL xs o Y).length = xs.length
 | [], _, _ => rfl
 | y :: Y, xs, o => by rw [setL, setL_len Y, List.length_set]
theorem ownsRow_set1 {w : World} {base : Nat} {e : TypeId} {size g n cap : Nat} {xs : List Value} (h : w.ownsRow base e size (.slice (some ⟨g, 0, none⟩) n cap) n xs) (i : Nat) (u : Value) : (w.setCell ⟨g, i, none⟩ u).ownsRow base e size (.slice (some ⟨g, 0, none⟩) n cap) n (xs.set i u) := by
 obtain ⟨h1, h2⟩ := h
 refine ⟨by simpa using h1, ?_⟩
 rcases h2 with ⟨he, _⟩ | ⟨g', cap', cur, he, hb, hh, r1, r2, r3, r4⟩
 ·cases he
 ·obtain ⟨ha, _, hc⟩ := Value.slice.inj he
  obtain ⟨rfl, _, _⟩ := Addr.mk.inj (Option.some.inj ha)
  subst hc
  refine .inr ⟨g, cap, cur.setIfInBounds i u, rfl, hb, setOf hh i u, r1, r2, by simpa using r3, ?_⟩
  rw [Array.toList_setIfInBounds, List.take_set, r4]
theorem ownsRow_sets {base : Nat} {e : TypeId} {size g n cap : Nat} : ∀ (vs : List Value) (o : Nat) {w : World} {xs : List Value}, w.ownsRow base e size (.slice (some ⟨g, 0, none⟩) n cap) n xs → (w.setCells g o vs).ownsRow base e size (.slice (some ⟨g, 0, none⟩) n cap) n (setL xs o vs)
 | [], _, _, _, h => h
 | v :: vs, o, w, xs, h => ownsRow_sets vs (o + 1) (ownsRow_set1 h o v)
theorem mods_sets {F : List Nat} {a : World} {g : Nat} (hg : g ∈ F) : ∀ (vs : List Value) (o : Nat) {b : World}, Mods F a b → Mods F a (b.setCells g o vs)
 | [], _, _, h => h
 | v :: vs, o, b, h => mods_sets hg vs (o + 1) (h.setCell (p := ⟨g, o, none⟩) hg v)
theorem belowSets {B b : Nat} {a : World} (hb : B ≤ b) : ∀ (vs : List Value) (o : Nat) (w : World), Below B a w → Below B a (w.setCells b o vs)
 | [], _, _, h => h
 | v :: r, o, w, h => by
  rw [World.setCells]
  exact belowSets hb r (o + 1) _ (h.setCell (p := ⟨b, o, none⟩) hb v)
theorem thereOf {w : World} {b : Nat} {cur : Array Value} {t : TypeId} (h : w.heap[b]? = some (.cells cur t (0, 0))) {n : Nat} (hn : n ≤ cur.size) : w.there b 0 n := fun j hj => by
 obtain ⟨u, hu⟩ : ∃ u, cur[0 + j]? = some u := ⟨_, Array.getElem?_eq_getElem (by omega)⟩
 exact ⟨by rw [cellOf h _ hu]; rfl, frozenOf h _⟩
theorem rangeOf {w : World} {b : Nat} {cs : List Value} {t : TypeId} {f : Nat × Nat} (h : w.heap[b]? = some (.cells cs.toArray t f)) : w.rangeAt b 0 cs := fun j u hj => by
 rw [Nat.zero_add]
 exact cellOf h j (by simpa using hj)
/-- A part of a row's cells. -/
theorem row_part {w : World} {base : Nat} {e : TypeId} {size n g cap : Nat} {A X B : List Value} (h : w.ownsRow base e size (.slice (some ⟨g, 0, none⟩) n cap) n (A ++ (X ++ B))) : w.rangeAt g A.length X := by
 rcases h.2 with ⟨he, _⟩ | ⟨g', cap', cur, he, hb, hh, r1, r2, r3, r4⟩
 ·cases he
 ·obtain ⟨ha, _, hc⟩ := Value.slice.inj he
  obtain ⟨rfl, _, _⟩ := Addr.mk.inj (Option.some.inj ha)
  intro j u hj
  have hjl : j < X.length := (List.getElem?_eq_some_iff.1 hj).1
  refine cellOf hh _ ?_
  have h1 : (A ++ (X ++ B))[A.length + j]? = some u := by
   rw [List.getElem?_append_right (by omega), Nat.add_sub_cancel_left, List.getElem?_append_left hjl, hj]
  rw [← r4, List.getElem?_take] at h1
  split at h1
  ·simpa using h1
  ·cases h1
theorem row_there {w : World} {base : Nat} {e : TypeId} {size n g cap : Nat} {xs : List Value} (h : w.ownsRow base e size (.slice (some ⟨g, 0, none⟩) n cap) n xs) {o k : Nat} (hk : o + k ≤ xs.length) : w.there g o k := by
 rcases h.2 with ⟨he, _⟩ | ⟨g', cap', cur, he, hb, hh, r1, r2, r3, r4⟩
 ·cases he
 ·obtain ⟨ha, _, hc⟩ := Value.slice.inj he
  obtain ⟨rfl, _, _⟩ := Addr.mk.inj (Option.some.inj ha)
  intro j hj
  have hl : xs.length ≤ cur.size := by
   have := congrArg List.length r4
   rw [List.length_take, Array.length_toList] at this
   omega
  obtain ⟨u, hu⟩ : ∃ u, cur[o + j]? = some u := ⟨_, Array.getElem?_eq_getElem (by omega)⟩
  exact ⟨by rw [cellOf hh _ hu]; rfl, frozenOf hh _⟩
/-- The sectors' cells. -/
def secsC (img : List (List UInt8)) : List Value := img.flatMap bV
theorem secsC_len : ∀ {img : List (List UInt8)}, Secs img → (secsC img).length = img.length * 64
 | [], _ => rfl
 | s :: img, h => by
  show (bV s ++ secsC img).length = _
  rw [List.length_append, bV_len, h s (List.mem_cons_self ..), secsC_len (fun q hq => h q (List.mem_cons_of_mem _ hq)), List.length_cons]
  omega
theorem secs_split {img : List (List UInt8)} {i : Nat} {s : List UInt8} (h : img[i]? = some s) : secsC img = secsC (img.take i) ++ (bV s ++ secsC (img.drop (i + 1))) := by
 obtain ⟨hi, rfl⟩ := List.getElem?_eq_some_iff.1 h
 conv => lhs; rw [← List.take_append_drop i img, List.drop_eq_getElem_cons hi]
 unfold secsC
 rw [List.flatMap_append, List.flatMap_cons]
theorem secs_take {img : List (List UInt8)} (h : Secs img) (i : Nat) : Secs (img.take i) := fun s hs => h s (List.mem_of_mem_take hs)
theorem secsC_take_len {img : List (List UInt8)} (h : Secs img) {i : Nat} (hi : i ≤ img.length) : (secsC (img.take i)).length = i * 64 := by rw [secsC_len (secs_take h i), List.length_take, Nat.min_eq_left hi]
theorem secsC_set {img : List (List UInt8)} (h : Secs img) {i : Nat} {s : List UInt8} (hi : i < img.length) (hs : s.length = 64) : setL (secsC img) (i * 64) (bV s) = secsC (img.set i s) := by
 have h1 := secs_split (List.getElem?_eq_getElem hi)
 have h2 : (img.set i s)[i]? = some s := List.getElem?_set_self hi
 rw [secs_split h2, h1, ← secsC_take_len h (Nat.le_of_lt hi), setL_mid _ _ _ _ (by rw [bV_len, bV_len, hs, h _ (List.getElem_mem hi)]), List.take_set_of_le (Nat.le_refl _), List.drop_set_of_lt (by omega)]
/-- A written sector that is not settled. -/
def entC (p : Nat × List UInt8) : List Value := .int .i64 (p.1 : Int) :: bV p.2
def jrC (l : List (Nat × List UInt8)) : List Value := l.flatMap entC
structure Dk where
 img : List (List UInt8)
 jr : List (Nat × List UInt8)
 left : Int
 dead : Bool
/-- A disk in memory: its box, its image's slice, its journal's. -/
structure DkAt (n0 : Nat) (w : World) (B : Nat) (iv jv : Value) (d : Dk) : Prop where
 box : w.heap[B]? = some (.cells #[iv, jv, .int .i64 d.left, .bool d.dead] 67 (0, 0))
 img : w.ownsRow n0 152 64 iv d.img.length (secsC d.img)
 jrn : w.ownsRow n0 229 65 jv d.jr.length (jrC d.jr)
 secs : Secs d.img
 ents : ∀ p ∈ d.jr, p.2.length = 64
 ge : n0 ≤ B
/-- The blocks that are a disk's. -/
def dF (B : Nat) (iv jv : Value) : List Nat := B :: (ob iv ++ ob jv)
theorem DkAt.lt {n0 : Nat} {w : World} {B : Nat} {iv jv : Value} {d : Dk} (h : DkAt n0 w B iv jv d) : B < w.heap.size := (Array.getElem?_eq_some_iff.1 h.box).1
theorem DkAt.same {n0 : Nat} {w w' : World} {B : Nat} {iv jv : Value} {d : Dk} (h : DkAt n0 w B iv jv d) (hs : SameAt (dF B iv jv) w w') : DkAt n0 w' B iv jv d :=
 ⟨(hs B (List.mem_cons_self ..)).trans h.box, ownsRow_at h.img (fun k hk => hs k (List.mem_cons_of_mem _ (List.mem_append_left _ hk))), ownsRow_at h.jrn (fun k hk => hs k (List.mem_cons_of_mem _ (List.mem_append_right _ hk))), h.secs, h.ents, h.ge⟩
theorem DkAt.inF {n0 : Nat} {w : World} {B : Nat} {iv jv : Value} {d : Dk} (h : DkAt n0 w B iv jv d) : ∀ k ∈ dF B iv jv, n0 ≤ k ∧ k < w.heap.size := fun k hk => by
 rcases List.mem_cons.1 hk with rfl | hk
 ·exact ⟨h.ge, h.lt⟩
 ·rcases List.mem_append.1 hk with hk | hk
  ·exact ⟨ownsRow_ge h.img k hk, ownsRow_lt h.img k hk⟩
  ·exact ⟨ownsRow_ge h.jrn k hk, ownsRow_lt h.jrn k hk⟩
theorem DkAt.below {n0 : Nat} {w w' : World} {B : Nat} {iv jv : Value} {d : Dk} (h : DkAt n0 w B iv jv d) (hb : Below w.heap.size w w') : DkAt n0 w' B iv jv d :=
 h.same (fun k hk => hb.block k (h.inF k hk).2)
theorem DkAt.base {n0 n1 : Nat} {w : World} {B : Nat} {iv jv : Value} {d : Dk} (h : DkAt n0 w B iv jv d) (hn : n1 ≤ n0) : DkAt n1 w B iv jv d := ⟨h.box, ownsRow_base h.img hn, ownsRow_base h.jrn hn, h.secs, h.ents, Nat.le_trans hn h.ge⟩
/-- The blocks of F have changed, and are none of the disk's. -/
theorem DkAt.mods {n0 : Nat} {w w' : World} {B : Nat} {iv jv : Value} {d : Dk} {F : List Nat} (h : DkAt n0 w B iv jv d) (hm : Mods F w w') (hF : ∀ k ∈ F, k ∉ dF B iv jv) : DkAt n0 w' B iv jv d :=
 h.same (fun k hk => hm.block k (h.inF k hk).2 (fun hk2 => hF k hk2 hk))
theorem DkAt.stepped {n0 : Nat} {w : World} {B : Nat} {iv jv : Value} {d : Dk} (h : DkAt n0 w B iv jv d) (hd : d.dead = false) : DkAt n0 (w.setCell ⟨B, 3, none⟩ (.bool false)) B iv jv d := by
 have hs := setOf h.box 3 (.bool false)
 refine ⟨by rw [hs]; simp [hd], ownsRow_at h.img (fun k hk => Below.heap_setCell w ⟨B, 3, none⟩ _ k (fun e => ?_)), ownsRow_at h.jrn (fun k hk => Below.heap_setCell w ⟨B, 3, none⟩ _ k (fun e => ?_)), h.secs, h.ents, h.ge⟩
 ·have e2 : k = B := e
  subst e2
  exact ob_tag h.img h.box (by decide) hk
 ·have e2 : k = B := e
  subst e2
  exact ob_tag h.jrn h.box (by decide) hk
/-- The journal's slice is another one. -/
theorem DkAt.journ {n0 : Nat} {w : World} {B : Nat} {iv jv jv' : Value} {d : Dk} {l : List (Nat × List UInt8)} (hbox : w.heap[B]? = some (.cells #[iv, jv, .int .i64 d.left, .bool d.dead] 67 (0, 0))) (hi : w.ownsRow n0 152 64 iv d.img.length (secsC d.img)) (hj : w.ownsRow n0 229 65 jv' l.length (jrC l)) (hs : Secs d.img) (hl : ∀ p ∈ l, p.2.length = 64) (hg : n0 ≤ B) : DkAt n0 (w.setCell ⟨B, 1, none⟩ jv') B iv jv' { d with jr := l } := by
 have hs1 := setOf hbox 1 jv'
 refine ⟨by rw [hs1]; rfl, ownsRow_at hi (fun k hk => Below.heap_setCell w ⟨B, 1, none⟩ _ k (fun e => ?_)), ownsRow_at hj (fun k hk => Below.heap_setCell w ⟨B, 1, none⟩ _ k (fun e => ?_)), hs, hl, hg⟩
 ·have e2 : k = B := e
  subst e2
  exact ob_tag hi hbox (by decide) hk
 ·have e2 : k = B := e
  subst e2
  exact ob_tag hj hbox (by decide) hk
end Go.Proofs.YtgmahhdnjikdjaaGreat
/- Disks: Sectors, has, Read, step, Flush, walked. -/
namespace Go.Proofs.YtgmahhdnjikdjaaGreat
open Go.RowKit Wire
set_option linter.unusedVariables false
set_option linter.unusedSimpArgs false
theorem infoSec : (Tryz.prog.info? 152).map (·.size) = some 64 := by kernel_rfl
theorem infoS {c : List UInt8} (h : c.length = 64) : (Tryz.prog.info? 152).map (·.size) = some (bV c).length := by rw [bV_len, h]; exact infoSec
theorem dsec_at (n0 : Nat) (w : World) (B : Nat) (iv jv : Value) (d : Dk) (h : DkAt n0 w B iv jv d) : Calls Tryz.prog 66 #[.pointer (some ⟨B, 0, none⟩)] w fun e w' => e = .returned (.int .i64 (d.img.length : Int)) ∧ w = w' := by
 obtain ⟨a, c, rfl⟩ := rowSl h.img
 have c0 := cellOf h.box 0 rfl
 clear h
 go_enter Tryz.func66, Tryz.ntmps66
 go_wp2_with fail
 go_ret
 exact ⟨rfl, rfl⟩
/-- Is there a sector? -/
def hasE (n : Nat) (i : Int) : Int := if n = 0 then 1 else if i < 0 ∨ (n : Int) ≤ i then 2 else 0
theorem dhas_at (n0 : Nat) (w : World) (B : Nat) (iv jv : Value) (d : Dk) (h : DkAt n0 w B iv jv d) (i : Int) : Calls Tryz.prog 121 #[.pointer (some ⟨B, 0, none⟩), .int .i64 i] w fun e w' => e = .returned (.int .i64 (hasE d.img.length i)) ∧ w = w' := by
 have CS := dsec_at n0 w B iv jv d h
 obtain ⟨n, hn⟩ : ∃ n, d.img.length = n := ⟨_, rfl⟩
 rw [hn] at CS ⊢
 clear h hn
 unfold hasE
 by_cases hz : n = 0
 ·subst hz
  go_enter Tryz.func121, Tryz.ntmps121
  go_wp2_with fail
  refine CS.mono ?_
  rintro e w2 ⟨rfl, rfl⟩
  clear CS
  go_wp2_with fail
  go_ret
  exact ⟨rfl, rfl⟩
 ·rw [if_neg hz]
  by_cases h1 : i < 0
  ·rw [if_pos (.inl h1)]
   go_enter Tryz.func121, Tryz.ntmps121
   go_wp2_with fail
   refine CS.mono ?_
   rintro e w2 ⟨rfl, rfl⟩
   clear CS
   go_wp2_with fail
   go_ret
   exact ⟨rfl, rfl⟩
  ·by_cases h2 : (n : Int) ≤ i
   ·rw [if_pos (.inr h2)]
    go_enter Tryz.func121, Tryz.ntmps121
    go_wp2_with fail
    refine CS.mono ?_
    rintro e w2 ⟨rfl, rfl⟩
    clear CS
    go_wp2_with fail
    go_ret
    exact ⟨rfl, rfl⟩
   ·rw [if_neg (by omega)]
    go_enter Tryz.func121, Tryz.ntmps121
    go_wp2_with fail
    refine CS.mono ?_
    rintro e w2 ⟨rfl, rfl⟩
    clear CS
    go_wp2_with fail
    go_ret
    exact ⟨rfl, rfl⟩
theorem res_sec {fn : Func} {p u : Tmp} (h : fn.results = #[.cell p 152, .tmp u]) (tmps : Array Value) (w : World) (g : Nat) (L : List UInt8) (x : Value) (hp : tmps.getD p undef = .pointer (some ⟨g, 0, none⟩)) (hx : tmps.getD u undef = x) (hr : w.rangeAt g 0 (bV L)) (hl : L.length = 64) :
  (results fn tmps).run Tryz.prog w = .ok (.tuple #[.agg (bV L).toArray, x]) w := by
 rw [results_cell_tmp h, hp, hx]
 have := run_loadVar_mid (P := Tryz.prog) w g 0 152 (bV L) _ hr Tryz.underlying152 rfl (infoS hl)
 simp only [asAddr, Sem.run_pure, Result.andThen_ok, this]
set_option maxRecDepth 100000 in
set_option maxHeartbeats 3200000 in
theorem dread_at (n0 : Nat) (w : World) (B : Nat) (iv jv : Value) (d : Dk) (h : DkAt n0 w B iv jv d) (i : Nat) (s : List UInt8) (hs : d.img[i]? = some s) (hn : d.img.length ≤ 1000000) : Calls Tryz.prog 117 #[.pointer (some ⟨B, 0, none⟩), .int .i64 (i : Int)] w fun e w' => e = .returned (.tuple #[.agg (bV s).toArray, .int .i64 0]) ∧ Below w.heap.size w w' := by
 have hi := (List.getElem?_eq_some_iff.1 hs).1
 have HSL : Hid (s.length = 64) := Lib.hid (h.secs s (List.mem_of_getElem? hs))
 obtain ⟨gi, ci, cur, hv, _, hgl, hc1, hc2, _⟩ := rowSome h.img (by omega)
 subst hv
 have HRA : Hid (w.rangeAt gi (i * 64) (bV s)) := Lib.hid (by
  have h1 := h.img
  rw [secs_split hs] at h1
  have h2 := row_part h1
  rwa [secsC_take_len h.secs (Nat.le_of_lt hi)] at h2)
 have HGL := Lib.hid hgl
 have HH := Lib.hid h
 obtain ⟨w1, hw1⟩ : ∃ W, w.alloc (.cells #[.int .u8 0, .int .u8 0, .int .u8 0, .int .u8 0, .int .u8 0, .int .u8 0, .int .u8 0, .int .u8 0, .int .u8 0, .int .u8 0, .int .u8 0, .int .u8 0, .int .u8 0, .int .u8 0, .int .u8 0, .int .u8 0, .int .u8 0, .int .u8 0, .int .u8 0, .int .u8 0, .int .u8 0, .int .u8 0, .int .u8 0, .int .u8 0, .int .u8 0, .int .u8 0, .int .u8 0, .int .u8 0, .int .u8 0, .int .u8 0, .int .u8 0, .int .u8 0, .int .u8 0, .int .u8 0, .int .u8 0, .int .u8 0, .int .u8 0, .int .u8 0, .int .u8 0, .int .u8 0, .int .u8 0, .int .u8 0, .int .u8 0, .int .u8 0, .int .u8 0, .int .u8 0, .int .u8 0, .int .u8 0, .int .u8 0, .int .u8 0, .int .u8 0, .int .u8 0, .int .u8 0, .int .u8 0, .int .u8 0, .int .u8 0, .int .u8 0, .int .u8 0, .int .u8 0, .int .u8 0, .int .u8 0, .int .u8 0, .int .u8 0, .int .u8 0] 152) = W := ⟨_, rfl⟩
 have hb1 : Below w.heap.size w w1 := by rw [← hw1]; exact balloc (Below.refl _ _) _
 have hx1 : w1.heap[w.heap.size]? = some (.cells #[.int .u8 0, .int .u8 0, .int .u8 0, .int .u8 0, .int .u8 0, .int .u8 0, .int .u8 0, .int .u8 0, .int .u8 0, .int .u8 0, .int .u8 0, .int .u8 0, .int .u8 0, .int .u8 0, .int .u8 0, .int .u8 0, .int .u8 0, .int .u8 0, .int .u8 0, .int .u8 0, .int .u8 0, .int .u8 0, .int .u8 0, .int .u8 0, .int .u8 0, .int .u8 0, .int .u8 0, .int .u8 0, .int .u8 0, .int .u8 0, .int .u8 0, .int .u8 0, .int .u8 0, .int .u8 0, .int .u8 0, .int .u8 0, .int .u8 0, .int .u8 0, .int .u8 0, .int .u8 0, .int .u8 0, .int .u8 0, .int .u8 0, .int .u8 0, .int .u8 0, .int .u8 0, .int .u8 0, .int .u8 0, .int .u8 0, .int .u8 0, .int .u8 0, .int .u8 0, .int .u8 0, .int .u8 0, .int .u8 0, .int .u8 0, .int .u8 0, .int .u8 0, .int .u8 0, .int .u8 0, .int .u8 0, .int .u8 0, .int .u8 0, .int .u8 0] 152 (0, 0)) := by rw [← hw1]; exact heap_alloc_new _ _
 have CH := dhas_at n0 w1 B _ jv d (h.below hb1) (i : Int)
 obtain ⟨n, hnn⟩ : ∃ n, d.img.length = n := ⟨_, rfl⟩
 rw [hnn] at CH hi hn hc1
 unfold hasE at CH
 rw [if_neg (by omega), if_neg (by omega)] at CH
 have HB1 := Lib.hid hb1
 have HX1 := Lib.hid hx1
 have hbx := cellOf (h.below hb1).box 0 rfl
 have HRA1 : Hid (w1.rangeAt gi (i * 64) (bV s)) := Lib.hid (rangeSt HRA.out hgl hb1)
 rw [hnn] at hbx
 clear h hs hgl hb1 hx1 hnn
 go_enter Tryz.func117, Tryz.ntmps117
 go_wp2_with fail
 (try rw [hw1])
 clear hw1
 refine CH.mono ?_
 rintro e w2 ⟨rfl, rfl⟩
 clear CH
 have HZT : Hid (w1.there w.heap.size 0 64) := Lib.hid (fun j hj => by
  obtain ⟨u, hu⟩ : ∃ u, (#[.int .u8 0, .int .u8 0, .int .u8 0, .int .u8 0, .int .u8 0, .int .u8 0, .int .u8 0, .int .u8 0, .int .u8 0, .int .u8 0, .int .u8 0, .int .u8 0, .int .u8 0, .int .u8 0, .int .u8 0, .int .u8 0, .int .u8 0, .int .u8 0, .int .u8 0, .int .u8 0, .int .u8 0, .int .u8 0, .int .u8 0, .int .u8 0, .int .u8 0, .int .u8 0, .int .u8 0, .int .u8 0, .int .u8 0, .int .u8 0, .int .u8 0, .int .u8 0, .int .u8 0, .int .u8 0, .int .u8 0, .int .u8 0, .int .u8 0, .int .u8 0, .int .u8 0, .int .u8 0, .int .u8 0, .int .u8 0, .int .u8 0, .int .u8 0, .int .u8 0, .int .u8 0, .int .u8 0, .int .u8 0, .int .u8 0, .int .u8 0, .int .u8 0, .int .u8 0, .int .u8 0, .int .u8 0, .int .u8 0, .int .u8 0, .int .u8 0, .int .u8 0, .int .u8 0, .int .u8 0, .int .u8 0, .int .u8 0, .int .u8 0, .int .u8 0] : Array Value)[j]? = some u := ⟨_, Array.getElem?_eq_getElem (by simpa using hj)⟩
  rw [Nat.zero_add]
  exact ⟨by rw [cellOf HX1.out j hu]; rfl, frozenOf HX1.out j⟩)
 have hsb : (bV s).toArray.size = 64 := by rw [List.size_toArray, bV_len, HSL.out]
 go_upto_region 4 with fail
 apply wp_region_lit
 repeat (first
  | (refine wpList_load_mid rfl 152 _ rfl gi (i * 64) rfl (bV s) _ HRA1.out Tryz.underlying152 rfl (infoS HSL.out) ?_)
  | (refine wpList_store_mid rfl 152 _ _ rfl w.heap.size 0 (bV s).toArray rfl rfl (by rw [hsb]; exact HZT.out) (by rw [hsb]; exact infoSec) (Array.all_eq_true_iff_forall_mem.2 (fun v hv => bV_one s v (by simpa using hv))) ?_)
  | go_step)
 refine bodyPost_ret (v := .tuple #[.agg (bV s).toArray, .int .i64 0]) (res_sec rfl _ _ w.heap.size s _ rfl rfl (World.rangeAt_setCells_same _ _ _ _ (by rw [bV_len, HSL.out]; exact HZT.out)) HSL.out) rfl ⟨rfl, ?_⟩
 exact belowSets (Nat.le_refl _) _ _ _ HB1.out
set_option maxRecDepth 100000 in
set_option maxHeartbeats 3200000 in
theorem dstep_at (n0 : Nat) (w : World) (B : Nat) (iv jv : Value) (d : Dk) (h : DkAt n0 w B iv jv d) (hl : d.left < 0) (hd : d.dead = false) : Calls Tryz.prog 114 #[.pointer (some ⟨B, 0, none⟩)] w fun e w' => e = .returned (.int .i64 0) ∧ w' = w.setCell ⟨B, 3, none⟩ (.bool false) := by
 obtain ⟨lf, hlf⟩ : ∃ x, d.left = x := ⟨_, rfl⟩
 have hb := h.box
 rw [hd, hlf] at hb
 rw [hlf] at hl
 have c2 := cellOf hb 2 (v := .int .i64 lf) rfl
 have c3 := cellOf hb 3 (v := .bool false) rfl
 have hf := frozenOf hb 3
 have hs := setOf hb 3 (.bool false)
 have d2 := cellOf hs 2 (v := .int .i64 lf) rfl
 have d3 := cellOf hs 3 (v := .bool false) rfl
 have hz : (lf == 0) = false := by simp; omega
 clear h hb hs hlf
 go_enter Tryz.func114, Tryz.ntmps114
 go_wp2_with fail
 go_ret
 exact ⟨rfl, rfl⟩
set_option maxRecDepth 100000 in
set_option maxHeartbeats 3200000 in
theorem dflush_at (n0 : Nat) (w : World) (B : Nat) (iv jv : Value) (d : Dk) (h : DkAt n0 w B iv jv d) (hl : d.left < 0) (hd : d.dead = false) (h0 : 0 < d.img.length) : Calls Tryz.prog 60 #[.pointer (some ⟨B, 0, none⟩)] w fun e w' => e = .returned (.int .i64 0) ∧ DkAt n0 w' B iv (.slice none 0 0) { d with jr := [] } ∧ Mods [B] w w' := by
 have CS := dsec_at n0 w B iv jv d h
 obtain ⟨n, hn⟩ : ∃ n, d.img.length = n := ⟨_, rfl⟩
 rw [hn] at CS h0
 have CT := dstep_at n0 w B iv jv d h hl hd
 have HH := Lib.hid (h.stepped hd)
 have hb := HH.out.box
 have hf := frozenOf hb 1
 have c1 := cellOf hb 1 (v := jv) rfl
 have HM : Hid (Mods [B] w (w.setCell ⟨B, 3, none⟩ (.bool false))) := Lib.hid ((Mods.refl _ _).setCell (p := ⟨B, 3, none⟩) (List.mem_singleton.2 rfl) _)
 clear h hn hb
 go_enter Tryz.func60, Tryz.ntmps60
 go_wp2_with fail
 refine CS.mono ?_
 rintro e w2 ⟨rfl, rfl⟩
 clear CS
 go_wp2_with fail
 refine CT.mono ?_
 rintro e w2 ⟨rfl, rfl⟩
 clear CT
 go_wp2_with fail
 go_ret
 exact ⟨rfl, DkAt.journ HH.out.box HH.out.img (World.ownsRow_nil _ _ _ _) HH.out.secs (fun p hp => (by cases hp)) HH.out.ge, HM.out.setCell (p := ⟨B, 1, none⟩) (List.mem_singleton.2 rfl) _⟩
end Go.Proofs.YtgmahhdnjikdjaaGreat
