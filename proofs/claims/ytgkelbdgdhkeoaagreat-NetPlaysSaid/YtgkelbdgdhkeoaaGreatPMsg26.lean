/- The reference's May of a message: plain Lean (no program). -/
import Derived.Test.YtgkelbdgdhkeoaaGreatPMsg20
namespace Go.Proofs.YtgkelbdgdhkeoaaGreat
set_option linter.unusedVariables false
set_option linter.unusedSimpArgs false
open Wire Cmd
def hasL (l : List UInt8) (c : UInt8) : Bool := l.contains c
def mayMR (l : List UInt8) (m : Ms0) : Bool :=
 (decide (1 ≤ m.k) && decide (m.k ≤ 15)) && ((hasL l 116 || stEq m.st st0) && ((hasL l 108 || !m.lead) && ((hasL l 110 || m.num == 0) && ((hasL l 115 || m.seq == 0) && ((hasL l 109 || (m.ne == 0 && m.ns == 0)) && (mayS m.st && (decide (0 ≤ m.fro ∧ m.fro ≤ 2) && ((hasL l 102 || m.fro == 0) && (decide (0 ≤ m.blocks ∧ m.blocks ≤ 1048576) && ((hasL l 98 || m.blocks == 0) && ((if hasL l 111 then mayO m.op else opEq m.op op0) && (if hasL l 105 then mayI m.item else itEq m.item it0))))))))))))
theorem stEq_iff {a b : St0} : stEq a b = true ↔ a = b := decide_eq_true_iff
theorem mayS_st0 : mayS st0 = true := by decide
theorem mayMR_mayM (m : Ms0) : mayMR (nmM m.k) m = mayM m := by
 have hb : ∀ (P : Ms0), msEq m P = true ↔ m = P := fun P => msEq_iff
 have h0 : ∀ x : St0, x = st0 → mayS x = true := fun x h => h ▸ mayS_st0
 unfold mayMR mayM
 rw [Bool.eq_iff_iff]
 obtain ⟨k, e, st, lead, seq, op, blocks, num, fro, ne, ns, item⟩ := m
 dsimp only at hb ⊢
 generalize hl : nmM k = l
 have hc := nmM_cases k
 rw [hl] at hc
 have k116 : ∀ m : Ms0, kept (((116 : UInt8).toNat : Nat) : Int) m = mayS m.st := fun _ => rfl
 have k108 : ∀ m : Ms0, kept (((108 : UInt8).toNat : Nat) : Int) m = true := fun _ => rfl
 have k110 : ∀ m : Ms0, kept (((110 : UInt8).toNat : Nat) : Int) m = true := fun _ => rfl
 have k115 : ∀ m : Ms0, kept (((115 : UInt8).toNat : Nat) : Int) m = true := fun _ => rfl
 have k109 : ∀ m : Ms0, kept (((109 : UInt8).toNat : Nat) : Int) m = true := fun _ => rfl
 have k102 : ∀ m : Ms0, kept (((102 : UInt8).toNat : Nat) : Int) m = decide (0 ≤ m.fro ∧ m.fro ≤ 2) := fun _ => rfl
 have k111 : ∀ m : Ms0, kept (((111 : UInt8).toNat : Nat) : Int) m = mayO m.op := fun _ => rfl
 have k98 : ∀ m : Ms0, kept (((98 : UInt8).toNat : Nat) : Int) m = decide (0 ≤ m.blocks ∧ m.blocks ≤ 1048576) := fun _ => rfl
 have k105 : ∀ m : Ms0, kept (((105 : UInt8).toNat : Nat) : Int) m = mayI m.item := fun _ => rfl
 have s116 : ∀ b m : Ms0, setM b (((116 : UInt8).toNat : Nat) : Int) m = { b with st := m.st } := fun _ _ => rfl
 have s108 : ∀ b m : Ms0, setM b (((108 : UInt8).toNat : Nat) : Int) m = { b with lead := m.lead } := fun _ _ => rfl
 have s110 : ∀ b m : Ms0, setM b (((110 : UInt8).toNat : Nat) : Int) m = { b with num := m.num } := fun _ _ => rfl
 have s115 : ∀ b m : Ms0, setM b (((115 : UInt8).toNat : Nat) : Int) m = { b with seq := m.seq } := fun _ _ => rfl
 have s109 : ∀ b m : Ms0, setM b (((109 : UInt8).toNat : Nat) : Int) m = { b with ne := m.ne, ns := m.ns } := fun _ _ => rfl
 have s102 : ∀ b m : Ms0, setM b (((102 : UInt8).toNat : Nat) : Int) m = { b with fro := m.fro } := fun _ _ => rfl
 have s111 : ∀ b m : Ms0, setM b (((111 : UInt8).toNat : Nat) : Int) m = { b with op := m.op } := fun _ _ => rfl
 have s98 : ∀ b m : Ms0, setM b (((98 : UInt8).toNat : Nat) : Int) m = { b with blocks := m.blocks } := fun _ _ => rfl
 have s105 : ∀ b m : Ms0, setM b (((105 : UInt8).toNat : Nat) : Int) m = { b with item := m.item } := fun _ _ => rfl
 rcases hc with rfl | rfl | rfl | rfl | rfl | rfl | rfl | rfl | rfl | rfl
 all_goals
  unfold bareM
  simp only [List.all_cons, List.all_nil, List.foldl_cons, List.foldl_nil, k116, k108, k110, k115, k109, k102, k111, k98, k105, s116, s108, s110, s115, s109, s102, s111, s98, s105, msK, hb, Ms0.mk.injEq, Bool.and_eq_true, Bool.or_eq_true, decide_eq_true_eq, opEq_iff, itEq_iff, stEq_iff, true_and, and_true, beq_iff_eq, Bool.not_eq_true']
  clear k116 k108 k110 k115 k109 k102 k111 k98 k105 s116 s108 s110 s115 s109 s102 s111 s98 s105 hb hl
  have h0' := h0 st
  clear h0
  simp [hasL, opEq_iff, itEq_iff]
 all_goals
  intros
  constructor
  ·intro h
   simp_all
  ·intro h
   simp_all
end Go.Proofs.YtgkelbdgdhkeoaaGreat
