/- How many bytes a message has: plain Lean (no program). -/
import Derived.Test.YtgkelbdgdhkeoaaSMsg28
import Derived.Test.YtgkelbdgdhkeoaaSMsg21
import Derived.Test.YtgkelbdgdhkeoaaSMsg26
namespace Go.Proofs.Ytgkelbdgdhkeoaa
open Go.RowKit
set_option linter.unusedVariables false
set_option linter.unusedSimpArgs false
open Wire Cmd
def lcu (c : UInt8) (m : Ms0) : List UInt8 := lc (c.toNat : Int) m
theorem lcu_len {m : Ms0} {c : UInt8} (hc : nine c) (hd : m.item.data.length = 256) (ho : (opB m.op).length ≤ 7000) (hi : (opB m.item.op).length ≤ 7000) : (lcu c m).length ≤ 8000 := lc_len hc hd ho hi
theorem kept_of {m : Ms0} (h : mayM m = true) {c : UInt8} (hh : hasL (nmM m.k) c = true) : kept (c.toNat : Int) m = true := (mayM_parts h).1 c (by unfold hasL at hh; simpa using hh)
theorem opB_small {m : Ms0} (h : mayM m = true) : (opB m.op).length ≤ 7000 ∧ (opB m.item.op).length ≤ 7000 := by
 obtain ⟨h1, h2, h3, h4⟩ := mayM_parts h
 have hz : (opB op0).length ≤ 7000 := by
  have : opB op0 = [] := by kernel_rfl
  rw [this]; exact Nat.zero_le _
 have hk := fun (c : UInt8) (hc : c ∈ nmM m.k) => h1 c hc
 have k111 : kept (((111 : UInt8).toNat : Nat) : Int) m = mayO m.op := rfl
 have k105 : kept (((105 : UInt8).toNat : Nat) : Int) m = mayI m.item := rfl
 have z1 : m.op = (bareM m (nmM m.k)).op := congrArg Ms0.op h4
 have z2 : m.item = (bareM m (nmM m.k)).item := congrArg Ms0.item h4
 constructor
 ·by_cases h : (111 : UInt8) ∈ nmM m.k
  ·exact opB_len (k111 ▸ hk 111 h)
  ·have : (bareM m (nmM m.k)).op = op0 := by
    rcases nmM_cases m.k with e | e | e | e | e | e | e | e | e | e <;> rw [e] at h ⊢ <;> first | rfl | (exact absurd (by decide) h)
   rw [z1, this]; exact hz
 ·by_cases h : (105 : UInt8) ∈ nmM m.k
  ·exact mayI_opl (k105 ▸ hk 105 h)
  ·have : (bareM m (nmM m.k)).item = it0 := by
    rcases nmM_cases m.k with e | e | e | e | e | e | e | e | e | e <;> rw [e] at h ⊢ <;> first | rfl | (exact absurd (by decide) h)
   rw [z2, this]; exact hz
theorem ofM_nil : ofM [] = none := by
 unfold ofM
 rfl
theorem bsM_len {m : Ms0} (ok : m.Ok) (h : mayM m = true) : (bsM m).length ≤ 40000 := by
 have hl : ∀ c ∈ nmM m.k, (lcu c m).length ≤ 8000 := fun c hc => lcu_len (nmM_nine _ c hc) ok.item.data (opB_small h).1 (opB_small h).2
 have h3 := nmM_len m.k
 have e : bsM m = hdB m ++ (nmM m.k).flatMap fun c => lcu c m := rfl
 have h9 : (hdB m).length = 9 := by show (low (toU m.k) 1 ++ low m.epoch 8).length = 9; rw [List.length_append, low_len, low_len]
 rw [e, List.length_append, h9]
 match hn : nmM m.k, h3 with
 | [], _ => simp
 | [a], _ =>
  have := hl a (by rw [hn]; simp)
  simp only [List.flatMap_cons, List.flatMap_nil, List.length_append, List.length_nil]; omega
 | [a, b], _ =>
  have h1 := hl a (by rw [hn]; simp)
  have h2 := hl b (by rw [hn]; simp)
  simp only [List.flatMap_cons, List.flatMap_nil, List.length_append, List.length_nil]; omega
 | [a, b, c], _ =>
  have h1 := hl a (by rw [hn]; simp)
  have h2 := hl b (by rw [hn]; simp)
  have h3 := hl c (by rw [hn]; simp)
  simp only [List.flatMap_cons, List.flatMap_nil, List.length_append, List.length_nil]; omega
end Go.Proofs.Ytgkelbdgdhkeoaa
