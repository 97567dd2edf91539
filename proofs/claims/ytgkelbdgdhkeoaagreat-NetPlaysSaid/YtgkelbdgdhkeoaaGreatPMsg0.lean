/- What nodes say: plain Lean (no program). -/
import Derived.Test.YtgkelbdgdhkeoaaGreatPCB
namespace Go.Proofs.YtgkelbdgdhkeoaaGreat
set_option linter.unusedVariables false
open Wire Cmd
namespace Cmd
/-- A node's state; an item; a message. -/
structure St0 where
 epoch : Nat
 last : Nat
 seq : Nat
 bl : Nat
 bs : Nat
 marked : Bool
deriving DecidableEq
structure It0 where
 k : Int
 vol : Nat
 size : Int
 blk : Int
 data : List UInt8
 op : Op0
 blocks : Int
deriving DecidableEq
structure Ms0 where
 k : Int
 epoch : Nat
 st : St0
 lead : Bool
 seq : Nat
 op : Op0
 blocks : Int
 num : Nat
 fro : Int
 ne : Nat
 ns : Nat
 item : It0
deriving DecidableEq
def stEq (a b : St0) : Bool := decide (a = b)
def itEq (a b : It0) : Bool := decide (a = b)
def msEq (a b : Ms0) : Bool := decide (a = b)
theorem stEq_no {a b : St0} (h : a ≠ b) : stEq a b = false := decide_eq_false h
theorem stEq_yes {a b : St0} (h : a = b) : stEq a b = true := decide_eq_true h
theorem itEq_no {a b : It0} (h : a ≠ b) : itEq a b = false := decide_eq_false h
theorem itEq_iff {a b : It0} : itEq a b = true ↔ a = b := decide_eq_true_iff
theorem msEq_no {a b : Ms0} (h : a ≠ b) : msEq a b = false := decide_eq_false h
theorem msEq_iff {a b : Ms0} : msEq a b = true ↔ a = b := decide_eq_true_iff
def z256 : List UInt8 := List.replicate 256 0
def op0 : Op0 := ⟨0, 0, 0, 0, 0, 0, []⟩
def st0 : St0 := ⟨0, 0, 0, 0, 0, false⟩
def it0 : It0 := ⟨0, 0, 0, 0, z256, op0, 0⟩
def msK (k : Int) (e : Nat) : Ms0 := ⟨k, e, st0, false, 0, op0, 0, 0, 0, 0, 0, it0⟩
structure St0.Ok (x : St0) : Prop where
 epoch : x.epoch < 18446744073709551616
 last : x.last < 18446744073709551616
 seq : x.seq < 18446744073709551616
 bl : x.bl < 18446744073709551616
 bs : x.bs < 18446744073709551616
def I64 (n : Int) : Prop := -9223372036854775808 ≤ n ∧ n ≤ 9223372036854775807
structure It0.Ok (i : It0) : Prop where
 k : I64 i.k
 vol : i.vol < 18446744073709551616
 size : I64 i.size
 blk : I64 i.blk
 data : i.data.length = 256
 op : i.op.Ok
 blocks : I64 i.blocks
structure Ms0.Ok (m : Ms0) : Prop where
 k : I64 m.k
 epoch : m.epoch < 18446744073709551616
 st : m.st.Ok
 seq : m.seq < 18446744073709551616
 op : m.op.Ok
 blocks : I64 m.blocks
 num : m.num < 18446744073709551616
 fro : I64 m.fro
 ne : m.ne < 18446744073709551616
 ns : m.ns < 18446744073709551616
 item : m.item.Ok
/-- May a state be? An item? -/
def MayS (x : St0) : Prop := x.epoch ≤ 4611686018427387904 ∧ x.last ≤ x.epoch ∧ x.bl ≤ x.epoch ∧ x.seq ≤ 4611686018427387904 ∧ x.bs ≤ 4611686018427387904
instance (x : St0) : Decidable (MayS x) := by unfold MayS; infer_instance
def mayS (x : St0) : Bool := decide (MayS x)
theorem mayS_iff {x : St0} : mayS x = true ↔ MayS x := decide_eq_true_iff
def NoneI (i : It0) : Prop := i.op = op0 ∧ i.blocks = 0
def VolI (i : It0) : Prop := 1 ≤ i.vol ∧ i.vol < 4294967296
def BlkI (i : It0) : Prop := 0 ≤ i.blk ∧ i.blk < 256
def MayI (i : It0) : Prop :=
 (i.k = 1 ∧ VolI i ∧ i.size = 0 ∧ i.blk = 0 ∧ i.data = z256 ∧ NoneI i) ∨
 (i.k = 2 ∧ VolI i ∧ (0 ≤ i.size ∧ i.size ≤ 256) ∧ i.blk = 0 ∧ i.data = z256 ∧ NoneI i) ∨
 (i.k = 3 ∧ VolI i ∧ i.size = 0 ∧ BlkI i ∧ i.data = z256 ∧ NoneI i) ∨
 (i.k = 4 ∧ VolI i ∧ i.size = 0 ∧ BlkI i ∧ NoneI i) ∨
 (i.k = 5 ∧ i.vol = 0 ∧ i.size = 0 ∧ i.blk = 0 ∧ i.data = z256 ∧ mayO i.op = true ∧ 0 ≤ i.blocks ∧ i.blocks ≤ 1048576)
instance (i : It0) : Decidable (MayI i) := by unfold MayI NoneI VolI BlkI; infer_instance
def mayI (i : It0) : Bool := decide (MayI i)
theorem mayI_iff {i : It0} : mayI i = true ↔ MayI i := decide_eq_true_iff
/-- The letters of what a message's kind names. -/
def nmM (k : Int) : List UInt8 :=
 if k = 1 then [116, 108] else if k = 2 then [115, 111, 98] else if k = 3 ∨ k = 4 then [115] else if k = 5 ∨ k = 6 ∨ k = 13 ∨ k = 15 then [110]
 else if k = 7 then [110, 102, 109] else if k = 8 then [110, 115, 105] else if k = 9 ∨ k = 10 then [110, 115] else if k = 11 then [110, 115, 109] else if k = 12 then [110, 109] else []
/-- Is what a letter stands for in its bounds? -/
def kept (c : Int) (m : Ms0) : Bool :=
 if c = 116 then mayS m.st else if c = 102 then decide (0 ≤ m.fro ∧ m.fro ≤ 2) else if c = 111 then mayO m.op else if c = 98 then decide (0 ≤ m.blocks ∧ m.blocks ≤ 1048576)
 else if c = 105 then mayI m.item else true
def setM (b : Ms0) (c : Int) (m : Ms0) : Ms0 :=
 if c = 116 then { b with st := m.st } else if c = 108 then { b with lead := m.lead } else if c = 110 then { b with num := m.num } else if c = 115 then { b with seq := m.seq }
 else if c = 102 then { b with fro := m.fro } else if c = 109 then { b with ne := m.ne, ns := m.ns } else if c = 111 then { b with op := m.op } else if c = 98 then { b with blocks := m.blocks }
 else if c = 105 then { b with item := m.item } else b
def bareM (m : Ms0) (l : List UInt8) : Ms0 := l.foldl (fun b c => setM b (c.toNat : Int) m) (msK m.k m.epoch)
theorem bareM_snoc (m : Ms0) (l : List UInt8) (c : UInt8) : bareM m (l ++ [c]) = setM (bareM m l) (c.toNat : Int) m := by simp [bareM]
/-- May a message be? -/
def mayM (m : Ms0) : Bool := (nmM m.k).all (fun c => kept (c.toNat : Int) m) && (decide (1 ≤ m.k) && decide (m.k ≤ 15)) && msEq m (bareM m (nmM m.k))
/-- An operation's bytes, or none. -/
def opB (o : Op0) : List UInt8 := (packO o).getD []
def shapeI (k : Int) : List UInt8 := if k = 5 then [49, 42, 52] else if k = 4 then [49, 52, 50, 35] else if k = 3 ∨ k = 2 then [49, 52, 50] else [49, 52]
def valI (i : It0) : List V :=
 num (toU i.k) :: (if i.k = 5 then [blob (opB i.op), num (toU i.blocks)] else if i.k = 2 then [num i.vol, num (toU i.size)] else if i.k = 3 then [num i.vol, num (toU i.blk)]
  else if i.k = 4 then [num i.vol, num (toU i.blk), blk i.data] else [num i.vol])
def shapeC (c : Int) (k : Int) : List UInt8 :=
 if c = 116 then [56, 56, 56, 56, 56, 63] else if c = 108 then [63] else if c = 102 then [49] else if c = 109 then [56, 56] else if c = 111 then [42] else if c = 98 then [52] else if c = 105 then shapeI k else [56]
def valC (c : Int) (m : Ms0) : List V :=
 if c = 116 then [num m.st.epoch, num m.st.last, num m.st.seq, num m.st.bl, num m.st.bs, flag m.st.marked] else if c = 108 then [flag m.lead] else if c = 110 then [num m.num]
 else if c = 102 then [num (toU m.fro)] else if c = 109 then [num m.ne, num m.ns] else if c = 111 then [blob (opB m.op)] else if c = 98 then [num (toU m.blocks)] else if c = 105 then valI m.item else [num m.seq]
def shapeM (m : Ms0) (l : List UInt8) : List UInt8 := [49, 56] ++ l.flatMap fun c => shapeC (c.toNat : Int) m.item.k
def valM (m : Ms0) (l : List UInt8) : List V := [num (toU m.k), num m.epoch] ++ l.flatMap fun c => valC (c.toNat : Int) m
/-- A message's bytes; none: it may not be. -/
def packM (m : Ms0) : Option (List UInt8) := if mayM m then pack (shapeM m (nmM m.k)) (valM m (nmM m.k)) else none
/-- The item of values. -/
def getI (l : List V) : It0 :=
 let k : Int := ((l.headD (num 0)).n : Int)
 let v1 := (l.drop 1).headD (num 0)
 let v2 := (l.drop 2).headD (num 0)
 let v3 := (l.drop 3).headD (num 0)
 if k = 5 then ⟨5, 0, 0, 0, z256, (ofO v1.b).getD op0, (v2.n : Int)⟩ else if k = 2 then ⟨2, v1.n, (v2.n : Int), 0, z256, op0, 0⟩ else if k = 4 then ⟨4, v1.n, 0, (v2.n : Int), v3.x, op0, 0⟩
 else if k = 3 then ⟨3, v1.n, 0, (v2.n : Int), z256, op0, 0⟩ else ⟨k, v1.n, 0, 0, z256, op0, 0⟩
/-- A message with what a letter stands for, of its values. -/
def getM (m : Ms0) (c : Int) (l : List V) : Ms0 :=
 let v0 := l.headD (num 0)
 let v1 := (l.drop 1).headD (num 0)
 let v2 := (l.drop 2).headD (num 0)
 let v3 := (l.drop 3).headD (num 0)
 let v4 := (l.drop 4).headD (num 0)
 let v5 := (l.drop 5).headD (num 0)
 if c = 116 then { m with st := ⟨v0.n, v1.n, v2.n, v3.n, v4.n, v5.yes⟩ } else if c = 108 then { m with lead := v0.yes } else if c = 110 then { m with num := v0.n } else if c = 115 then { m with seq := v0.n }
 else if c = 102 then { m with fro := (v0.n : Int) } else if c = 109 then { m with ne := v0.n, ns := v1.n } else if c = 111 then { m with op := (ofO v0.b).getD op0 } else if c = 98 then { m with blocks := (v0.n : Int) }
 else if c = 105 then { m with item := getI l } else m
/-- The rest of a message, letter by letter: the message, the bytes left. -/
def ofL : Ms0 → List UInt8 → List UInt8 → Option (Ms0 × List UInt8)
 | m, [], b => some (m, b)
 | m, c :: cs, b => (unpack (shapeC (c.toNat : Int) ((b.headD 0).toNat : Int)) b).bind fun p => ofL (getM m (c.toNat : Int) p.1) cs (b.drop p.2)
/-- The message of bytes; none: none's. -/
def ofM (b : List UInt8) : Option Ms0 := (unpack [49, 56] b).bind fun p =>
 let m := msK ((p.1.headD (num 0)).n : Int) ((p.1.drop 1).headD (num 0)).n
 (ofL m (nmM m.k) (b.drop p.2)).bind fun q => if q.2 = [] ∧ mayM q.1 = true then some q.1 else none
theorem nmM_cases (k : Int) : nmM k = [116, 108] ∨ nmM k = [115, 111, 98] ∨ nmM k = [115] ∨ nmM k = [110] ∨ nmM k = [110, 102, 109] ∨ nmM k = [110, 115, 105] ∨ nmM k = [110, 115] ∨ nmM k = [110, 115, 109] ∨ nmM k = [110, 109] ∨ nmM k = [] := by
 unfold nmM; (repeat' split) <;> simp
theorem nmM_len (k : Int) : (nmM k).length ≤ 3 := by
 rcases nmM_cases k with h | h | h | h | h | h | h | h | h | h <;> rw [h] <;> decide
theorem nmM_low (k : Int) : ∀ c ∈ nmM k, c.toNat < 128 := by
 rcases nmM_cases k with h | h | h | h | h | h | h | h | h | h <;> rw [h] <;> decide
theorem nmM_no {k : Int} (h : k < 1 ∨ 16 ≤ k) : nmM k = [] := by unfold nmM; repeat rw [if_neg (by omega)]
end Cmd
end Go.Proofs.YtgkelbdgdhkeoaaGreat
