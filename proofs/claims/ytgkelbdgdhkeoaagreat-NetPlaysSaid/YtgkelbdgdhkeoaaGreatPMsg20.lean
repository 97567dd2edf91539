/- What nodes say: packed and read: plain Lean (no program). -/
import Derived.Test.YtgkelbdgdhkeoaaGreatPMsg0
namespace Go.Proofs.YtgkelbdgdhkeoaaGreat
set_option linter.unusedVariables false
open Wire Cmd
/-- A value in its one form. -/
def Can (v : V) : Prop := v = num v.n ∨ v = flag v.yes ∨ v = blob v.b ∨ v = blk v.x
theorem can_num (n : Nat) : Can (num n) := .inl rfl
theorem can_flag (y : Bool) : Can (flag y) := .inr (.inl rfl)
theorem can_blob (l : List UInt8) : Can (blob l) := .inr (.inr (.inl rfl))
theorem can_blk (l : List UInt8) : Can (blk l) := .inr (.inr (.inr rfl))
def Vc (v : V) : Prop := Can v ∧ v.n < 18446744073709551616 ∧ v.x.length = 256
theorem sum_take8 (c : UInt8) (b : List UInt8) (h : wid c ≤ b.length) (h8 : wid c ≤ 8) : sum (b.take (wid c)) < 18446744073709551616 := by
 have h1 := sum_take_pow b (wid c) h
 have h2 : 256 ^ wid c ≤ 256 ^ 8 := Nat.pow_le_pow_right (by omega) h8
 have h3 : (256 : Nat) ^ 8 = 18446744073709551616 := by decide
 omega
theorem lift_vc {c : UInt8} {b : List UInt8} {v : V} {k : Nat} (h : lift c b = some (v, k)) (hc : wid c ≤ 8 ∨ c = 35) : Vc v := by
 unfold lift at h
 split at h
 ·cases h
 ·rename_i hl
  split at h
  ·split at h
   ·cases h
   ·obtain ⟨rfl, rfl⟩ := Prod.mk.inj (Option.some.inj h)
    exact ⟨can_flag _, (by decide : (0 : Nat) < 18446744073709551616), List.length_replicate⟩
  ·split at h
   ·split at h
    ·cases h
    ·obtain ⟨rfl, rfl⟩ := Prod.mk.inj (Option.some.inj h)
     exact ⟨can_blob _, (by decide : (0 : Nat) < 18446744073709551616), List.length_replicate⟩
   ·split at h
    ·rename_i h35
     obtain ⟨rfl, rfl⟩ := Prod.mk.inj (Option.some.inj h)
     refine ⟨can_blk _, (by decide : (0 : Nat) < 18446744073709551616), ?_⟩
     have : wid c = 256 := by rw [h35]; rfl
     show (b.take 256).length = 256
     rw [List.length_take]; omega
    ·rename_i h35
     obtain ⟨rfl, rfl⟩ := Prod.mk.inj (Option.some.inj h)
     refine ⟨can_num _, ?_, List.length_replicate⟩
     exact sum_take8 c b (by omega) (hc.resolve_right h35)
/-- A shape of the letters that there are. -/
def Sh (s : List UInt8) : Prop := ∀ c ∈ s, wid c ≤ 8 ∨ c = 35
theorem unpack_vc : ∀ (s b : List UInt8) (l : List V) (n : Nat), Sh s → unpack s b = some (l, n) → ∀ v ∈ l, Vc v
 | [], b, l, n, _, h, v, hv => by
  obtain ⟨rfl, _⟩ := Prod.mk.inj (Option.some.inj h)
  cases hv
 | c :: s, b, l, n, hs, h, v, hv => by
  obtain ⟨v1, k, vs, m, h1, h2, rfl, _⟩ := unpack_cons h
  rcases List.mem_cons.1 hv with rfl | hv
  ·exact lift_vc h1 (hs c (by simp))
  ·exact unpack_vc s _ vs m (fun d hd => hs d (by simp [hd])) h2 v hv
theorem pack_app : ∀ (a c : List UInt8) (x y : List V) (p q : List UInt8), pack a x = some p → pack c y = some q → pack (a ++ c) (x ++ y) = some (p ++ q)
 | [], c, [], y, p, q, h, h2 => by
  obtain rfl := Option.some.inj h
  exact h2
 | [], c, v :: x, y, p, q, h, h2 => by simp [pack] at h
 | d :: a, c, [], y, p, q, h, h2 => by simp [pack] at h
 | d :: a, c, v :: x, y, p, q, h, h2 => by
  rw [pack] at h
  cases hl : lay d v with
  | none => rw [hl] at h; cases h
  | some t =>
   rw [hl, Option.bind_some] at h
   cases hp : pack a x with
   | none => rw [hp] at h; cases h
   | some p' =>
    rw [hp] at h
    obtain rfl := Option.some.inj h
    rw [List.cons_append, List.cons_append, pack, hl, Option.bind_some, pack_app a c x y p' q hp h2]
    simp
def fl (y : Bool) : List UInt8 := [if y then 1 else 0]
/-- An item's bytes; a letter's. -/
def itB (i : It0) : List UInt8 := low (toU i.k) 1 ++ (if i.k = 5 then (low (opB i.op).length 4 ++ opB i.op) ++ low (toU i.blocks) 4 else if i.k = 2 then low i.vol 4 ++ low (toU i.size) 2
 else if i.k = 3 then low i.vol 4 ++ low (toU i.blk) 2 else if i.k = 4 then low i.vol 4 ++ (low (toU i.blk) 2 ++ i.data) else low i.vol 4)
def lc (c : Int) (m : Ms0) : List UInt8 :=
 if c = 116 then low m.st.epoch 8 ++ (low m.st.last 8 ++ (low m.st.seq 8 ++ (low m.st.bl 8 ++ (low m.st.bs 8 ++ fl m.st.marked)))) else if c = 108 then fl m.lead else if c = 110 then low m.num 8
 else if c = 102 then low (toU m.fro) 1 else if c = 109 then low m.ne 8 ++ low m.ns 8 else if c = 111 then low (opB m.op).length 4 ++ opB m.op else if c = 98 then low (toU m.blocks) 4 else if c = 105 then itB m.item else low m.seq 8
def nine (c : UInt8) : Prop := c = 116 ∨ c = 108 ∨ c = 110 ∨ c = 115 ∨ c = 102 ∨ c = 109 ∨ c = 111 ∨ c = 98 ∨ c = 105
theorem nmM_nine (k : Int) : ∀ c ∈ nmM k, nine c := by
 unfold nine
 rcases nmM_cases k with h | h | h | h | h | h | h | h | h | h <;> rw [h] <;> decide
theorem nmM_nodup (k : Int) : (nmM k).Nodup := by
 rcases nmM_cases k with h | h | h | h | h | h | h | h | h | h <;> rw [h] <;> decide
theorem opB_of {o : Op0} {bs : List UInt8} (h : packO o = some bs) : opB o = bs := by unfold opB; rw [h]; rfl
theorem sh_C (c : Int) (k : Int) : Sh (shapeC c k) := by
 unfold shapeC shapeI Sh
 (repeat' split) <;> decide
theorem may_C (c : Int) (k : Int) : may (shapeC c k) = true := by
 unfold shapeC shapeI
 (repeat' split) <;> decide
/-- The shape hangs on the kind in an item's letter alone. -/
theorem shape_item {c : UInt8} (hc : nine c) (h : c ≠ 105) (k k' : Int) : shapeC (c.toNat : Int) k = shapeC (c.toNat : Int) k' := by
 rcases hc with rfl | rfl | rfl | rfl | rfl | rfl | rfl | rfl | rfl
 all_goals first
  | rfl
  | exact absurd rfl h
theorem mayM_parts {m : Ms0} (h : mayM m = true) : (∀ c ∈ nmM m.k, kept (c.toNat : Int) m = true) ∧ 1 ≤ m.k ∧ m.k ≤ 15 ∧ m = bareM m (nmM m.k) := by
 unfold mayM at h
 simp only [Bool.and_eq_true, decide_eq_true_eq, List.all_eq_true] at h
 exact ⟨h.1.1, h.1.2.1, h.1.2.2, msEq_iff.1 h.2⟩
def hdB (m : Ms0) : List UInt8 := low (toU m.k) 1 ++ low m.epoch 8
/-- A message's bytes, in one form. -/
def bsM (m : Ms0) : List UInt8 := hdB m ++ (nmM m.k).flatMap fun c => lc (c.toNat : Int) m
/-- A message of bytes, and what is left of them. -/
def ofP (b : List UInt8) : Option (Ms0 × List UInt8) := (unpack [49, 56] b).bind fun p => ofL (msK ((p.1.headD (num 0)).n : Int) ((p.1.drop 1).headD (num 0)).n) (nmM ((p.1.headD (num 0)).n : Int)) (b.drop p.2)
theorem ofM_P (b : List UInt8) : ofM b = (ofP b).bind fun q => if q.2 = [] ∧ mayM q.1 = true then some q.1 else none := by
 unfold ofM ofP
 rw [Option.bind_assoc]
 rfl
end Go.Proofs.YtgkelbdgdhkeoaaGreat
