/- Bytes: how a slice of bytes reads as a list; its text; slices.Clone at []byte, walked. -/
import Derived.Test.YtgkelbdgdhkeoaaProg
import Derived.Test.YtgkelbdgdhkeoaaBase
import Derived.Laws.BytesArg
namespace Go.Proofs.Ytgkelbdgdhkeoaa
open Go.RowKit
set_option linter.unusedVariables false

theorem ownsRow_base {w : World} {base base' : Nat} {e : TypeId} {size n : Nat} {v : Value} {xs : List Value} (h : w.ownsRow base e size v n xs) (hb : base' ≤ base) : w.ownsRow base' e size v n xs := by
  refine ⟨h.1, ?_⟩
  rcases h.2 with h | ⟨g, cap, cur, hv, hg, r⟩
  · exact .inl h
  · exact .inr ⟨g, cap, cur, hv, Nat.le_trans hb hg, r⟩

theorem ownsRow_below {w w' : World} {base : Nat} {e : TypeId} {size n : Nat} {v : Value} {xs : List Value} (h : w.ownsRow base e size v n xs) (hb : Below w.heap.size w w') : w'.ownsRow base e size v n xs := by
  refine ⟨h.1, ?_⟩
  rcases h.2 with h | ⟨g, cap, cur, hv, hg, hh, r⟩
  · exact .inl h
  · exact .inr ⟨g, cap, cur, hv, hg, (hb.block g (Array.getElem?_eq_some_iff.1 hh).1).trans hh, r⟩

/-- Bytes as cells. -/
def bV (bs : List UInt8) : List Value := bs.map fun b => .int .u8 b.toNat
theorem bV_len (bs : List UInt8) : (bV bs).length = bs.length := by simp [bV]
theorem bV_app (a b : List UInt8) : bV (a ++ b) = bV a ++ bV b := by simp [bV]
theorem bV_get {bs : List UInt8} {j : Nat} {b : UInt8} (h : bs[j]? = some b) : (bV bs)[j]? = some (.int .u8 b.toNat) := by simp [bV, h]
theorem bV_one (bs : List UInt8) : ∀ u ∈ bV bs, u.oneCell' = true := by
  intro u hu
  obtain ⟨b, _, rfl⟩ := List.mem_map.1 hu
  rfl
theorem bV_inj {a b : List UInt8} (h : bV a = bV b) : a = b := by
  induction a generalizing b with
  | nil => cases b <;> simp_all [bV]
  | cons x xs ih =>
    cases b with
    | nil => simp [bV] at h
    | cons y ys =>
      simp only [bV, List.map_cons, List.cons.injEq, Value.int.injEq, true_and] at h
      have : x = y := UInt8.toNat_inj.1 (by omega)
      rw [this, ih h.2]

theorem byte_lt (b : UInt8) : b.toNat < 256 := UInt8.toNat_lt b

theorem infoByte : (Try.prog.info? 5).map (fun i => (i.zero, i.size, i.bytes)) = some (some (.int .u8 0), 1, 1) := by kernel_rfl

/-- The text of bytes. -/
def strB (bs : List UInt8) : ByteArray := ⟨bs.toArray⟩
theorem strB_inj {a b : List UInt8} (h : strB a = strB b) : a = b := by
  have := congrArg (fun s : ByteArray => s.data.toList) h
  simpa [strB] using this
theorem strB_toList (bs : List UInt8) : (strB bs).toList = bs := by rw [ByteArray.toList_eq]; simp [strB]

/-- string(b). -/
theorem run_text (w : World) (v : Value) (n : Nat) (bs : List UInt8) (h : Rd w 1 v n (bV bs)) : (convert 24 9 v).run Try.prog w = .ok (.string (strB bs)) w := by
  obtain ⟨ao, cap, rfl, hl, hm, hn, hc⟩ := h
  rw [bV_len, Nat.mul_one] at hl
  cases ao with
  | none =>
    have hb : bs = [] := by
      cases bs with
      | nil => rfl
      | cons y ys => obtain ⟨b, off, h0, _⟩ := hc 0 _ (bV_get rfl); cases h0
    subst hb
    exact run_convert_bytes_nil w 24 5 Try.underlying24 Try.underlying5 n cap 9 Try.underlying9
  | some ad =>
    obtain ⟨xs, hxs⟩ : ∃ xs : List Int, xs = bs.map fun b => (b.toNat : Int) := ⟨_, rfl⟩
    have hsn : strOfNums xs = strB bs := by
      subst hxs
      simp only [strOfNums, strB, List.map_map]
      congr 2
      conv => rhs; rw [← List.map_id bs]
      apply List.map_congr_left
      intro b _
      simp
    rw [← hsn]
    cases n with
    | zero =>
      have hb : bs = [] := List.eq_nil_of_length_eq_zero hl
      subst hb; subst hxs
      have hl0 : (loadCells ad 0).run Try.prog w = .ok ([].map (Value.int .u8)).toArray w := by
        have := run_loadCells_list (P := Try.prog) w ad [] (fun j v hj => by simp at hj)
        simpa using this
      rw [run_convert_bytes_string w 24 9 5 _ 0 cap Try.underlying24 Try.underlying5 Try.underlying9, run_bytesToString w _ 0 cap [] hl0]
      rfl
    | succ n =>
      obtain ⟨b0, hb0⟩ : ∃ b0, bs[0]? = some b0 := ⟨_, List.getElem?_eq_getElem (by omega)⟩
      obtain ⟨b, off, h0, _⟩ := hc 0 _ (bV_get hb0)
      obtain rfl := Option.some.inj h0
      refine run_convert_bytes_arg w 24 5 Try.underlying24 Try.underlying5 b off (n + 1) cap xs (by rw [hxs, List.length_map]; exact hl) ?_ 9 Try.underlying9
      intro i hi
      obtain ⟨bi, hbi⟩ : ∃ bi, bs[i]? = some bi := ⟨_, List.getElem?_eq_getElem (by omega)⟩
      obtain ⟨b', off', h1, _, hcell⟩ := hc i _ (bV_get hbi)
      obtain ⟨rfl, rfl⟩ : b = b' ∧ off = off' := by simpa using h1
      rw [hcell]
      subst hxs
      simp [List.getD, hbi]

set_option maxRecDepth 100000 in
set_option maxHeartbeats 400000 in
/-- slices.Clone at []byte. -/
theorem clone8 (v : Value) (n : Nat) (bs : List UInt8) (w : World) (h : Rd w 1 v n (bV bs)) (hn : n ≤ 140737488355328) :
    Calls Try.prog 86 #[v] w fun e w' => ∃ v', e = .returned v' ∧ w'.ownsRow w.heap.size 5 1 v' n (bV bs) ∧ Below w.heap.size w w' := by
  have hrd := h
  obtain ⟨ao, cap, rfl, hl, hm, hcap, hc⟩ := h
  cases ao with
  | none =>
    obtain rfl := hcap.1 rfl
    have hb : bs = [] := by
      cases bs with
      | nil => rfl
      | cons y ys => obtain ⟨b, off, h0, _⟩ := hc 0 _ (bV_get rfl); cases h0
    subst hb
    obtain rfl : n = 0 := by simpa [bV] using hl.symm
    clear hl hm hcap hc hrd
    have he := fun w a n c => Lib.run_eql_slice_nil (P := Try.prog) w 24 5 a n c 0 0 Try.underlying24
    go_enter Try.func86, Try.ntmps86
    go_wp2
    go_ret
    exact ⟨_, rfl, World.ownsRow_nil _ _ _ _, Below.refl _ _⟩
  | some ad =>
    clear hl hm hcap hc
    have he := fun w a n c => Lib.run_eql_slice_nil (P := Try.prog) w 24 5 a n c 0 0 Try.underlying24
    have ho0 : (w.alloc (.cells #[] 5)).ownsRow w.heap.size 5 1 (.slice (some ⟨w.heap.size, 0, none⟩) 0 0) 0 [] := World.ownsRow_made w #[] 0 (Nat.le_refl _) (by decide) rfl
    have hrd2 := hrd.below (balloc (Below.refl _ w) (.cells #[] 5))
    go_enter Try.func86, Try.ntmps86
    go_wp2_with (at_builtin; go_must (refine wpList_apps rfl _ _ 24 rfl w.heap.size 5 _ 1 1 Try.underlying24 infoByte rfl (by decide) (by decide) _ 0 [] rfl ho0 _ n (bV bs) rfl hrd2 (bV_one bs) (by omega) (by simp) ?_); intro v' w1 ho1 hb1 _ _ _)
    go_ret
    exact ⟨_, rfl, by simpa using ho1, (balloc (Below.refl _ w) _).trans hb1⟩
end Go.Proofs.Ytgkelbdgdhkeoaa
