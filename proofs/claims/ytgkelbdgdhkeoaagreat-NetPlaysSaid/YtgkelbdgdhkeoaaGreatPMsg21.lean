/- What nodes say: read and packed; what is read is right: plain Lean (no program). -/
import Derived.Test.YtgkelbdgdhkeoaaGreatPMsg20
import Derived.Test.YtgkelbdgdhkeoaaGreatPCR
namespace Go.Proofs.YtgkelbdgdhkeoaaGreat
set_option linter.unusedVariables false
open Wire Cmd
theorem liftN {c : UInt8} {b : List UInt8} {v : V} {k : Nat} (h : lift c b = some (v, k)) (h1 : c ≠ 63) (h2 : c ≠ 42) (h3 : c ≠ 35) : v = num v.n ∧ v.n < 256 ^ wid c ∧ v.n = sum (b.take (wid c)) ∧ wid c ≤ b.length := by
 unfold lift at h
 split at h
 ·cases h
 ·rename_i hl
  obtain ⟨rfl, rfl⟩ := Prod.mk.inj (Option.some.inj h)
  exact ⟨rfl, sum_take_pow b (wid c) (by omega), rfl, by omega⟩
theorem lift_56 {b : List UInt8} {v : V} {k : Nat} (h : lift 56 b = some (v, k)) : v = num v.n ∧ v.n < 18446744073709551616 := by
 obtain ⟨h1, h2, _⟩ := liftN h (by decide) (by decide) (by decide)
 exact ⟨h1, h2⟩
theorem lift_50 {b : List UInt8} {v : V} {k : Nat} (h : lift 50 b = some (v, k)) : v = num v.n ∧ v.n < 65536 := by
 obtain ⟨h1, h2, _⟩ := liftN h (by decide) (by decide) (by decide)
 exact ⟨h1, h2⟩
theorem lift_49h {b : List UInt8} {v : V} {k : Nat} (h : lift 49 b = some (v, k)) : v = num (b.headD 0).toNat := by
 obtain ⟨h1, h2, h3, h4⟩ := liftN h (by decide) (by decide) (by decide)
 have h5 : 1 ≤ b.length := h4
 cases b with
 | nil => simp at h5
 | cons x b =>
  have e : v.n = x.toNat := by
   rw [h3, show wid 49 = 1 from rfl]
   show sum [x] = _
   simp [sum]
  rw [h1, e]; rfl
theorem lift_63 {b : List UInt8} {v : V} {k : Nat} (h : lift 63 b = some (v, k)) : v = flag v.yes := by
 unfold lift at h
 split at h
 ·cases h
 ·rw [if_pos rfl] at h
  split at h
  ·cases h
  ·obtain ⟨rfl, rfl⟩ := Prod.mk.inj (Option.some.inj h)
   rfl
theorem lift_35 {b : List UInt8} {v : V} {k : Nat} (h : lift 35 b = some (v, k)) : v = blk v.x ∧ v.x.length = 256 := by
 unfold lift at h
 split at h
 ·cases h
 ·rename_i hl
  rw [if_neg (by decide), if_neg (by decide), if_pos rfl] at h
  obtain ⟨rfl, rfl⟩ := Prod.mk.inj (Option.some.inj h)
  refine ⟨rfl, ?_⟩
  have : wid 35 = 256 := rfl
  show (b.take 256).length = 256
  rw [List.length_take]; omega
theorem unpack_nil {b : List UInt8} {l : List V} {n : Nat} (h : unpack [] b = some (l, n)) : l = [] := (Prod.mk.inj (Option.some.inj h)).1.symm
theorem ofO_op {x : List UInt8} (h : mayO ((ofO x).getD op0) = true) : opB ((ofO x).getD op0) = x ∧ ∃ d, ofO x = some d := by
 cases ho : ofO x with
 | none =>
  rw [ho] at h
  exact absurd h (by decide)
 | some d => exact ⟨opB_of (packO_ofO ho), d, rfl⟩
/-- An item's values, as they come of bytes. -/
theorem valI_getI {bs : List UInt8} {l : List V} {n : Nat} (hu : unpack (shapeI ((bs.headD 0).toNat : Int)) bs = some (l, n)) (hk : mayI (getI l) = true) : valI (getI l) = l ∧ (getI l).k = ((bs.headD 0).toNat : Int) := by
 generalize hq : (bs.headD 0).toNat = q at hu ⊢
 have hq8 : q < 256 := by rw [← hq]; exact UInt8.toNat_lt _
 by_cases h5 : q = 5
 ·subst h5
  have hs : shapeI ((5 : Nat) : Int) = [49, 42, 52] := rfl
  rw [hs] at hu
  obtain ⟨v1, k1, l1, m1, e1, hu1, rfl, _⟩ := unpack_cons hu
  obtain ⟨v2, k2, l2, m2, e2, hu2, rfl, _⟩ := unpack_cons hu1
  obtain ⟨v3, k3, l3, m3, e3, hu3, rfl, _⟩ := unpack_cons hu2
  obtain rfl := unpack_nil hu3
  have f1 := lift_49h e1
  rw [hq] at f1
  have f2 := lift_42 e2
  obtain ⟨f3, g3⟩ := lift_52 e3
  subst f1
  have hg : getI [num 5, v2, v3] = ⟨5, 0, 0, 0, z256, (ofO v2.b).getD op0, (v3.n : Int)⟩ := rfl
  rw [hg] at hk ⊢
  rcases mayI_iff.1 hk with ⟨h, _⟩ | ⟨h, _⟩ | ⟨h, _⟩ | ⟨h, _⟩ | ⟨_, _, _, _, _, ho, _⟩
  ·exact absurd (show (5 : Int) = 1 from h) (by decide)
  ·exact absurd (show (5 : Int) = 2 from h) (by decide)
  ·exact absurd (show (5 : Int) = 3 from h) (by decide)
  ·exact absurd (show (5 : Int) = 4 from h) (by decide)
  ·have hop := (ofO_op ho).1
   refine ⟨?_, rfl⟩
   show [num 5, blob (opB ((ofO v2.b).getD op0)), num (toU (v3.n : Int))] = _
   rw [hop, ← f2, toU_nat g3, ← f3]
 by_cases h4 : q = 4
 ·subst h4
  have hs : shapeI ((4 : Nat) : Int) = [49, 52, 50, 35] := rfl
  rw [hs] at hu
  obtain ⟨v1, k1, l1, m1, e1, hu1, rfl, _⟩ := unpack_cons hu
  obtain ⟨v2, k2, l2, m2, e2, hu2, rfl, _⟩ := unpack_cons hu1
  obtain ⟨v3, k3, l3, m3, e3, hu3, rfl, _⟩ := unpack_cons hu2
  obtain ⟨v4, k4, l4, m4, e4, hu4, rfl, _⟩ := unpack_cons hu3
  obtain rfl := unpack_nil hu4
  have f1 := lift_49h e1
  rw [hq] at f1
  obtain ⟨f2, g2⟩ := lift_52 e2
  obtain ⟨f3, g3⟩ := lift_50 e3
  obtain ⟨f4, g4⟩ := lift_35 e4
  subst f1
  refine ⟨?_, rfl⟩
  show [num 4, num v2.n, num (toU (v3.n : Int)), blk v4.x] = _
  rw [toU_nat (by omega), ← f2, ← f3, ← f4]
 by_cases h3 : q = 3
 ·subst h3
  have hs : shapeI ((3 : Nat) : Int) = [49, 52, 50] := rfl
  rw [hs] at hu
  obtain ⟨v1, k1, l1, m1, e1, hu1, rfl, _⟩ := unpack_cons hu
  obtain ⟨v2, k2, l2, m2, e2, hu2, rfl, _⟩ := unpack_cons hu1
  obtain ⟨v3, k3, l3, m3, e3, hu3, rfl, _⟩ := unpack_cons hu2
  obtain rfl := unpack_nil hu3
  have f1 := lift_49h e1
  rw [hq] at f1
  obtain ⟨f2, g2⟩ := lift_52 e2
  obtain ⟨f3, g3⟩ := lift_50 e3
  subst f1
  refine ⟨?_, rfl⟩
  show [num 3, num v2.n, num (toU (v3.n : Int))] = _
  rw [toU_nat (by omega), ← f2, ← f3]
 by_cases h2 : q = 2
 ·subst h2
  have hs : shapeI ((2 : Nat) : Int) = [49, 52, 50] := rfl
  rw [hs] at hu
  obtain ⟨v1, k1, l1, m1, e1, hu1, rfl, _⟩ := unpack_cons hu
  obtain ⟨v2, k2, l2, m2, e2, hu2, rfl, _⟩ := unpack_cons hu1
  obtain ⟨v3, k3, l3, m3, e3, hu3, rfl, _⟩ := unpack_cons hu2
  obtain rfl := unpack_nil hu3
  have f1 := lift_49h e1
  rw [hq] at f1
  obtain ⟨f2, g2⟩ := lift_52 e2
  obtain ⟨f3, g3⟩ := lift_50 e3
  subst f1
  refine ⟨?_, rfl⟩
  show [num 2, num v2.n, num (toU (v3.n : Int))] = _
  rw [toU_nat (by omega), ← f2, ← f3]
 ·have hs : shapeI ((q : Nat) : Int) = [49, 52] := by
   unfold shapeI
   rw [if_neg (by omega), if_neg (by omega), if_neg (by omega)]
  rw [hs] at hu
  obtain ⟨v1, k1, l1, m1, e1, hu1, rfl, _⟩ := unpack_cons hu
  obtain ⟨v2, k2, l2, m2, e2, hu2, rfl, _⟩ := unpack_cons hu1
  obtain rfl := unpack_nil hu2
  have f1 := lift_49h e1
  rw [hq] at f1
  obtain ⟨f2, g2⟩ := lift_52 e2
  subst f1
  have hg : getI [num q, v2] = ⟨(q : Int), v2.n, 0, 0, z256, op0, 0⟩ := by
   unfold getI
   have e0 : (([num q, v2] : List V).headD (num 0)).n = q := rfl
   have e1 : ((([num q, v2] : List V).drop 1).headD (num 0)) = v2 := rfl
   dsimp only
   rw [e0, e1, if_neg (by omega), if_neg (by omega), if_neg (by omega), if_neg (by omega)]
  rw [hg]
  refine ⟨?_, rfl⟩
  unfold valI
  dsimp only
  rw [if_neg (by omega), if_neg (by omega), if_neg (by omega), if_neg (by omega), toU_nat (by omega), ← f2]
theorem valC_getM (b : Ms0) {c : UInt8} (hc : nine c) {bs : List UInt8} {l : List V} {n : Nat} (hu : unpack (shapeC (c.toNat : Int) ((bs.headD 0).toNat : Int)) bs = some (l, n)) (hk : kept (c.toNat : Int) (getM b (c.toNat : Int) l) = true) :
  valC (c.toNat : Int) (getM b (c.toNat : Int) l) = l ∧ shapeC (c.toNat : Int) (getM b (c.toNat : Int) l).item.k = shapeC (c.toNat : Int) ((bs.headD 0).toNat : Int) := by
 by_cases h105 : c = 105
 ·subst h105
  obtain ⟨h1, h2⟩ := valI_getI hu hk
  exact ⟨h1, congrArg shapeI h2⟩
 refine ⟨?_, shape_item hc h105 _ _⟩
 rcases hc with rfl | rfl | rfl | rfl | rfl | rfl | rfl | rfl | rfl
 ·obtain ⟨v1, k1, l1, m1, e1, hu1, rfl, _⟩ := unpack_cons (c := 56) (s := [56, 56, 56, 56, 63]) hu
  obtain ⟨v2, k2, l2, m2, e2, hu2, rfl, _⟩ := unpack_cons hu1
  obtain ⟨v3, k3, l3, m3, e3, hu3, rfl, _⟩ := unpack_cons hu2
  obtain ⟨v4, k4, l4, m4, e4, hu4, rfl, _⟩ := unpack_cons hu3
  obtain ⟨v5, k5, l5, m5, e5, hu5, rfl, _⟩ := unpack_cons hu4
  obtain ⟨v6, k6, l6, m6, e6, hu6, rfl, _⟩ := unpack_cons hu5
  obtain rfl := unpack_nil hu6
  show [num v1.n, num v2.n, num v3.n, num v4.n, num v5.n, flag v6.yes] = _
  rw [← (lift_56 e1).1, ← (lift_56 e2).1, ← (lift_56 e3).1, ← (lift_56 e4).1, ← (lift_56 e5).1, ← lift_63 e6]
 ·obtain ⟨v1, k1, l1, m1, e1, hu1, rfl, _⟩ := unpack_cons (c := 63) (s := []) hu
  obtain rfl := unpack_nil hu1
  show [flag v1.yes] = _
  rw [← lift_63 e1]
 ·obtain ⟨v1, k1, l1, m1, e1, hu1, rfl, _⟩ := unpack_cons (c := 56) (s := []) hu
  obtain rfl := unpack_nil hu1
  show [num v1.n] = _
  rw [← (lift_56 e1).1]
 ·obtain ⟨v1, k1, l1, m1, e1, hu1, rfl, _⟩ := unpack_cons (c := 56) (s := []) hu
  obtain rfl := unpack_nil hu1
  show [num v1.n] = _
  rw [← (lift_56 e1).1]
 ·obtain ⟨v1, k1, l1, m1, e1, hu1, rfl, _⟩ := unpack_cons (c := 49) (s := []) hu
  obtain rfl := unpack_nil hu1
  obtain ⟨f1, g1⟩ := lift_49 e1
  show [num (toU (v1.n : Int))] = _
  rw [toU_nat (by omega), ← f1]
 ·obtain ⟨v1, k1, l1, m1, e1, hu1, rfl, _⟩ := unpack_cons (c := 56) (s := [56]) hu
  obtain ⟨v2, k2, l2, m2, e2, hu2, rfl, _⟩ := unpack_cons hu1
  obtain rfl := unpack_nil hu2
  show [num v1.n, num v2.n] = _
  rw [← (lift_56 e1).1, ← (lift_56 e2).1]
 ·obtain ⟨v1, k1, l1, m1, e1, hu1, rfl, _⟩ := unpack_cons (c := 42) (s := []) hu
  obtain rfl := unpack_nil hu1
  have ho : mayO ((ofO v1.b).getD op0) = true := hk
  show [blob (opB ((ofO v1.b).getD op0))] = _
  rw [(ofO_op ho).1, ← lift_42 e1]
 ·obtain ⟨v1, k1, l1, m1, e1, hu1, rfl, _⟩ := unpack_cons (c := 52) (s := []) hu
  obtain rfl := unpack_nil hu1
  obtain ⟨f1, g1⟩ := lift_52 e1
  show [num (toU (v1.n : Int))] = _
  rw [toU_nat (by omega), ← f1]
 ·exact absurd rfl h105
/-- What hangs on a letter. -/
def fc (d : UInt8) (m : Ms0) : List V × Bool × List UInt8 := (valC (d.toNat : Int) m, kept (d.toNat : Int) m, shapeC (d.toNat : Int) m.item.k)
theorem fc_getM (m : Ms0) (l : List V) {c d : UInt8} (hc : nine c) (hd : nine d) (h : d ≠ c) : fc d (getM m (c.toNat : Int) l) = fc d m := by
 rcases hc with rfl | rfl | rfl | rfl | rfl | rfl | rfl | rfl | rfl <;> rcases hd with rfl | rfl | rfl | rfl | rfl | rfl | rfl | rfl | rfl
 all_goals first
  | rfl
  | exact absurd rfl h
theorem getM_k (m : Ms0) (c : Int) (l : List V) : (getM m c l).k = m.k ∧ (getM m c l).epoch = m.epoch := by
 unfold getM
 dsimp only
 (repeat' split) <;> exact ⟨rfl, rfl⟩
theorem ofL_inv : ∀ (cs : List UInt8) (m : Ms0) (b : List UInt8) (m' : Ms0) (r : List UInt8), cs.Nodup → (∀ c ∈ cs, nine c) → ofL m cs b = some (m', r) → (∀ c ∈ cs, kept (c.toNat : Int) m' = true) →
  ∃ bs, b = bs ++ r ∧ pack (cs.flatMap fun c => shapeC (c.toNat : Int) m'.item.k) (cs.flatMap fun c => valC (c.toNat : Int) m') = some bs ∧ (∀ d, nine d → d ∉ cs → fc d m' = fc d m) ∧ m'.k = m.k ∧ m'.epoch = m.epoch
 | [], m, b, m', r, _, _, h, _ => by
  obtain ⟨rfl, rfl⟩ := Prod.mk.inj (Option.some.inj h)
  exact ⟨[], rfl, rfl, fun _ _ _ => rfl, rfl, rfl⟩
 | c :: cs, m, b, m', r, hn, hc, h, hk => by
  rw [ofL] at h
  cases hu : unpack (shapeC (c.toNat : Int) ((b.headD 0).toNat : Int)) b with
  | none => rw [hu] at h; cases h
  | some p =>
   obtain ⟨l, n⟩ := p
   rw [hu, Option.bind_some] at h
   dsimp only at h
   obtain ⟨hcn, hnd⟩ := List.nodup_cons.1 hn
   obtain ⟨bs, h1, h2, h3, h4, h5⟩ := ofL_inv cs _ _ _ _ hnd (fun d hd => hc d (by simp [hd])) h (fun d hd => hk d (by simp [hd]))
   have hf := h3 c (hc c (by simp)) hcn
   have hkc : kept (c.toNat : Int) (getM m (c.toNat : Int) l) = true := by
    have e : (fc c m').2.1 = (fc c (getM m (c.toNat : Int) l)).2.1 := by rw [hf]
    have := hk c (by simp)
    exact e.symm.trans this
   obtain ⟨v1, v2⟩ := valC_getM m (hc c (by simp)) hu hkc
   have e1 : valC (c.toNat : Int) m' = l := (congrArg (fun x => x.1) hf).trans v1
   have e2 : shapeC (c.toNat : Int) m'.item.k = shapeC (c.toNat : Int) ((b.headD 0).toNat : Int) := (congrArg (fun x => x.2.2) hf).trans v2
   have hp := pack_unpack _ _ _ _ (may_C _ _) hu
   refine ⟨b.take n ++ bs, ?_, ?_, fun d hd hdc => ?_, h4.trans (getM_k _ _ _).1, h5.trans (getM_k _ _ _).2⟩
   ·rw [List.append_assoc, ← h1, List.take_append_drop]
   ·rw [List.flatMap_cons, List.flatMap_cons, e1, e2]
    exact pack_app _ _ _ _ _ _ hp h2
   ·rw [h3 d hd (fun h => hdc (by simp [h])), fc_getM m l (hc c (by simp)) hd (fun e => hdc (by simp [e]))]
theorem op0_ok : op0.Ok := kind0_ok 0
theorem ofO_good {b : List UInt8} {d : Op0} (h : ofO b = some d) : d.Ok ∧ d.data.length ≤ b.length := by
 cases b with
 | nil => cases h
 | cons k r =>
  rw [ofO] at h
  cases hu : unpack (shS (nm (k.toNat : Int))) r with
  | none => rw [hu] at h; cases h
  | some p =>
   obtain ⟨l, n⟩ := p
   rw [hu, Option.bind_some] at h
   split at h
   ·split at h
    ·obtain rfl := Option.some.inj h
     have h2 := (unpack_blen _ _ _ _ hu).1
     refine ⟨getAll_ok (unpackT _ _ _ _ hu) (nm_six _) (kind0_ok k), getAll_dlen (Nat.zero_le _) fun v hv => ?_⟩
     have := h2 v hv
     rw [List.length_cons]; omega
    ·cases h
   ·cases h
theorem ofO_getD (x : List UInt8) : ((ofO x).getD op0).Ok ∧ ((ofO x).getD op0).data.length ≤ x.length := by
 cases ho : ofO x with
 | none => exact ⟨op0_ok, Nat.zero_le _⟩
 | some d => exact ofO_good ho
/-- What the values of bytes are: their numbers small. -/
structure Vg (v : V) (N : Nat) : Prop where
 n : v.n < 18446744073709551616
 x : v.x.length = 256
 b : v.b.length ≤ N
theorem vg_num (N : Nat) : Vg (num 0) N := ⟨by decide, List.length_replicate, Nat.zero_le _⟩
theorem vg_get {l : List V} {N : Nat} (h : ∀ v ∈ l, Vg v N) (j : Nat) : Vg ((l.drop j).headD (num 0)) N := by
 cases hj : l.drop j with
 | nil => exact vg_num N
 | cons v r => exact h v (List.mem_of_mem_drop (by rw [hj]; simp))
theorem vg_unpack {s b : List UInt8} {l : List V} {n N : Nat} (hs : Sh s) (h : unpack s b = some (l, n)) (hN : b.length ≤ N) : ∀ v ∈ l, Vg v N := fun v hv => by
 obtain ⟨_, h2, h3⟩ := unpack_vc s b l n hs h v hv
 exact ⟨h2, h3, Nat.le_trans ((unpack_blen _ _ _ _ h).1 v hv) hN⟩
theorem unpack_width {c : UInt8} {s b : List UInt8} {l : List V} {n : Nat} (h : unpack (c :: s) b = some (l, n)) (hc : c = 49 ∨ c = 52) : (l.headD (num 0)).n < 4294967296 := by
 obtain ⟨v1, k1, l1, m1, e1, hu1, rfl, _⟩ := unpack_cons h
 rcases hc with rfl | rfl
 ·have := (lift_49 e1).2
  show v1.n < _
  omega
 ·exact (lift_52 e1).2
/-- What the operations of a message have of bytes. -/
structure Cmd.Ms0.Small (m : Ms0) (N : Nat) : Prop where
 op : m.op.data.length ≤ N
 item : m.item.op.data.length ≤ N
theorem z256_len : z256.length = 256 := List.length_replicate
theorem getI_ok {l : List V} {N : Nat} (h : ∀ v ∈ l, Vg v N) (hn : (l.headD (num 0)).n < 4294967296) (h2 : ((l.drop 2).headD (num 0)).n < 9223372036854775808) : (getI l).Ok ∧ (getI l).op.data.length ≤ N := by
 have g1 := vg_get h 1
 have g3 := vg_get h 3
 have hz : I64 0 := by unfold I64; omega
 have hv2 : I64 ((((l.drop 2).headD (num 0)).n : Nat) : Int) := by unfold I64; omega
 have hk : ∀ n : Nat, n < 4294967296 → I64 (n : Int) := fun n h => by unfold I64; omega
 obtain ⟨o1, o2⟩ := ofO_getD ((l.drop 1).headD (num 0)).b
 have o3 := Nat.le_trans o2 g1.b
 have h02 : I64 2 := by unfold I64; omega
 have h03 : I64 3 := by unfold I64; omega
 have h04 : I64 4 := by unfold I64; omega
 have h05 : I64 5 := by unfold I64; omega
 unfold getI
 dsimp only
 (repeat' split)
 ·exact ⟨⟨h05, (by decide : (0 : Nat) < 18446744073709551616), hz, hz, z256_len, o1, hv2⟩, o3⟩
 ·exact ⟨⟨h02, g1.n, hv2, hz, z256_len, op0_ok, hz⟩, Nat.zero_le _⟩
 ·exact ⟨⟨h04, g1.n, hz, hv2, g3.x, op0_ok, hz⟩, Nat.zero_le _⟩
 ·exact ⟨⟨h03, g1.n, hz, hv2, z256_len, op0_ok, hz⟩, Nat.zero_le _⟩
 ·exact ⟨⟨hk _ hn, g1.n, hz, hz, z256_len, op0_ok, hz⟩, Nat.zero_le _⟩
theorem unpack_third {k : Int} {b : List UInt8} {l : List V} {n : Nat} (h : unpack (shapeI k) b = some (l, n)) : (l.headD (num 0)).n < 4294967296 ∧ ((l.drop 2).headD (num 0)).n < 9223372036854775808 := by
 have h0 : ((num 0).n : Nat) < 9223372036854775808 := by decide
 unfold shapeI at h
 (repeat' split at h)
 ·obtain ⟨v1, k1, l1, m1, e1, hu1, rfl, _⟩ := unpack_cons h
  obtain ⟨v2, k2, l2, m2, e2, hu2, rfl, _⟩ := unpack_cons hu1
  obtain ⟨v3, k3, l3, m3, e3, hu3, rfl, _⟩ := unpack_cons hu2
  have h1 := (lift_49 e1).2
  have h2 := (lift_52 e3).2
  exact ⟨show v1.n < _ by omega, show v3.n < _ by omega⟩
 ·obtain ⟨v1, k1, l1, m1, e1, hu1, rfl, _⟩ := unpack_cons h
  obtain ⟨v2, k2, l2, m2, e2, hu2, rfl, _⟩ := unpack_cons hu1
  obtain ⟨v3, k3, l3, m3, e3, hu3, rfl, _⟩ := unpack_cons hu2
  have h1 := (lift_49 e1).2
  have h2 := (lift_50 e3).2
  exact ⟨show v1.n < _ by omega, show v3.n < _ by omega⟩
 ·obtain ⟨v1, k1, l1, m1, e1, hu1, rfl, _⟩ := unpack_cons h
  obtain ⟨v2, k2, l2, m2, e2, hu2, rfl, _⟩ := unpack_cons hu1
  obtain ⟨v3, k3, l3, m3, e3, hu3, rfl, _⟩ := unpack_cons hu2
  have h1 := (lift_49 e1).2
  have h2 := (lift_50 e3).2
  exact ⟨show v1.n < _ by omega, show v3.n < _ by omega⟩
 ·obtain ⟨v1, k1, l1, m1, e1, hu1, rfl, _⟩ := unpack_cons h
  obtain ⟨v2, k2, l2, m2, e2, hu2, rfl, _⟩ := unpack_cons hu1
  obtain rfl := unpack_nil hu2
  have h1 := (lift_49 e1).2
  exact ⟨show v1.n < _ by omega, h0⟩
/-- A message with what a letter's values say is right. -/
theorem getM_ok {m : Ms0} (ok : m.Ok) {N : Nat} (sm : m.Small N) {c : UInt8} (hc : nine c) {k : Int} {b : List UInt8} {l : List V} {n : Nat} (hu : unpack (shapeC (c.toNat : Int) k) b = some (l, n)) (hN : b.length ≤ N) :
  (getM m (c.toNat : Int) l).Ok ∧ (getM m (c.toNat : Int) l).Small N := by
 have hg := vg_unpack (sh_C _ _) hu hN
 have g0 := vg_get hg 0
 have g1 := vg_get hg 1
 have g2 := vg_get hg 2
 have g3 := vg_get hg 3
 have g4 := vg_get hg 4
 have e0 : (l.drop 0).headD (num 0) = l.headD (num 0) := rfl
 rw [e0] at g0
 rcases hc with rfl | rfl | rfl | rfl | rfl | rfl | rfl | rfl | rfl
 ·exact ⟨⟨ok.k, ok.epoch, ⟨g0.n, g1.n, g2.n, g3.n, g4.n⟩, ok.seq, ok.op, ok.blocks, ok.num, ok.fro, ok.ne, ok.ns, ok.item⟩, sm.op, sm.item⟩
 ·exact ⟨⟨ok.k, ok.epoch, ok.st, ok.seq, ok.op, ok.blocks, ok.num, ok.fro, ok.ne, ok.ns, ok.item⟩, sm.op, sm.item⟩
 ·exact ⟨⟨ok.k, ok.epoch, ok.st, ok.seq, ok.op, ok.blocks, g0.n, ok.fro, ok.ne, ok.ns, ok.item⟩, sm.op, sm.item⟩
 ·exact ⟨⟨ok.k, ok.epoch, ok.st, g0.n, ok.op, ok.blocks, ok.num, ok.fro, ok.ne, ok.ns, ok.item⟩, sm.op, sm.item⟩
 ·have hw := unpack_width (c := 49) (s := []) hu (.inl rfl)
  have h9 : I64 (((l.headD (num 0)).n : Nat) : Int) := by unfold I64; omega
  exact ⟨⟨ok.k, ok.epoch, ok.st, ok.seq, ok.op, ok.blocks, ok.num, h9, ok.ne, ok.ns, ok.item⟩, sm.op, sm.item⟩
 ·exact ⟨⟨ok.k, ok.epoch, ok.st, ok.seq, ok.op, ok.blocks, ok.num, ok.fro, g0.n, g1.n, ok.item⟩, sm.op, sm.item⟩
 ·obtain ⟨o1, o2⟩ := ofO_getD (l.headD (num 0)).b
  exact ⟨⟨ok.k, ok.epoch, ok.st, ok.seq, o1, ok.blocks, ok.num, ok.fro, ok.ne, ok.ns, ok.item⟩, Nat.le_trans o2 g0.b, sm.item⟩
 ·have hw := unpack_width (c := 52) (s := []) hu (.inr rfl)
  have h9 : I64 (((l.headD (num 0)).n : Nat) : Int) := by unfold I64; omega
  exact ⟨⟨ok.k, ok.epoch, ok.st, ok.seq, ok.op, h9, ok.num, ok.fro, ok.ne, ok.ns, ok.item⟩, sm.op, sm.item⟩
 ·have hu' : unpack (shapeI k) b = some (l, n) := hu
  obtain ⟨h1, h2⟩ := unpack_third hu'
  obtain ⟨i1, i2⟩ := getI_ok hg h1 h2
  exact ⟨⟨ok.k, ok.epoch, ok.st, ok.seq, ok.op, ok.blocks, ok.num, ok.fro, ok.ne, ok.ns, i1⟩, sm.op, i2⟩
theorem msK_ok {k e : Nat} (hk : k < 4294967296) (he : e < 18446744073709551616) (N : Nat) : (msK (k : Int) e).Ok ∧ (msK (k : Int) e).Small N := by
 have hz : I64 0 := by unfold I64; omega
 have h9 : I64 (k : Int) := by unfold I64; omega
 have z : (0 : Nat) < 18446744073709551616 := by decide
 exact ⟨⟨h9, he, ⟨z, z, z, z, z⟩, z, op0_ok, hz, z, hz, z, z, ⟨hz, z, hz, hz, z256_len, op0_ok, hz⟩⟩, Nat.zero_le _, Nat.zero_le _⟩
theorem ofL_ok : ∀ (cs : List UInt8) (m : Ms0) (b : List UInt8) (m' : Ms0) (r : List UInt8) (N : Nat), (∀ c ∈ cs, nine c) → m.Ok → m.Small N → b.length ≤ N → ofL m cs b = some (m', r) → m'.Ok ∧ m'.Small N
 | [], m, b, m', r, N, _, ok, sm, _, h => by
  obtain ⟨rfl, rfl⟩ := Prod.mk.inj (Option.some.inj h)
  exact ⟨ok, sm⟩
 | c :: cs, m, b, m', r, N, hc, ok, sm, hN, h => by
  rw [ofL] at h
  cases hu : unpack (shapeC (c.toNat : Int) ((b.headD 0).toNat : Int)) b with
  | none => rw [hu] at h; cases h
  | some p =>
   obtain ⟨l, n⟩ := p
   rw [hu, Option.bind_some] at h
   dsimp only at h
   obtain ⟨o1, o2⟩ := getM_ok ok sm (hc c (by simp)) hu hN
   exact ofL_ok cs _ _ _ _ N (fun d hd => hc d (by simp [hd])) o1 o2 (by rw [List.length_drop]; omega) h
theorem ofM_ok {b : List UInt8} {m : Ms0} (h : ofM b = some m) : m.Ok ∧ m.Small b.length := by
 rw [ofM_P] at h
 cases hp : ofP b with
 | none => rw [hp] at h; cases h
 | some q =>
  obtain ⟨m', r⟩ := q
  rw [hp, Option.bind_some] at h
  split at h
  ·obtain rfl := Option.some.inj h
   unfold ofP at hp
   cases hu : unpack [49, 56] b with
   | none => rw [hu] at hp; cases hp
   | some p =>
    obtain ⟨l, n⟩ := p
    rw [hu, Option.bind_some] at hp
    have hw := unpack_width (c := 49) (s := [56]) hu (.inl rfl)
    have hg := vg_get (vg_unpack (by unfold Sh; decide) hu (Nat.le_refl _)) 1
    obtain ⟨o1, o2⟩ := msK_ok hw hg.n b.length
    exact ofL_ok _ _ _ _ _ _ (nmM_nine _) o1 o2 (by rw [List.length_drop]; omega) hp
  ·cases h
end Go.Proofs.YtgkelbdgdhkeoaaGreat
