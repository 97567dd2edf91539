/- What nodes say: packed and read: plain Lean (no program). -/
import Derived.Test.YtgkelbdgdhkeoaaSMsg0
namespace Go.Proofs.Ytgkelbdgdhkeoaa
set_option linter.unusedVariables false
open Wire Cmd
/-- A value in its one form. -/
def Can (v : V) : Prop := v = num v.n ∨ v = flag v.yes ∨ v = blob v.b ∨ v = blk v.x
theorem can_num (n : Nat) : Can (num n) := .inl rfl
theorem can_flag (y : Bool) : Can (flag y) := .inr (.inl rfl)
theorem can_blob (l : List UInt8) : Can (blob l) := .inr (.inr (.inl rfl))
theorem can_blk (l : List UInt8) : Can (blk l) := .inr (.inr (.inr rfl))
theorem can_letter {v : V} (h : Can v) : (v.letter = 56 ∧ v = num v.n) ∨ (v.letter = 63 ∧ v = flag v.yes) ∨ (v.letter = 42 ∧ v = blob v.b) ∨ (v.letter = 35 ∧ v = blk v.x) := by
 rcases h with h | h | h | h
 ·exact .inl ⟨by rw [h]; rfl, h⟩
 ·exact .inr (.inl ⟨by rw [h]; rfl, h⟩)
 ·exact .inr (.inr (.inl ⟨by rw [h]; rfl, h⟩))
 ·exact .inr (.inr (.inr ⟨by rw [h]; rfl, h⟩))
theorem same_eq {x y : V} (h : SameV x y) (hx : Can x) (hy : Can y) : x = y := by
 obtain ⟨h1, h2⟩ := h
 rcases can_letter hx with ⟨p, hx⟩ | ⟨p, hx⟩ | ⟨p, hx⟩ | ⟨p, hx⟩ <;> rcases can_letter hy with ⟨q, hy⟩ | ⟨q, hy⟩ | ⟨q, hy⟩ | ⟨q, hy⟩ <;> rcases h2 with ⟨a, e⟩ | ⟨a, e⟩ | ⟨a, e⟩ | ⟨a, e⟩
 all_goals first
  | exact absurd (p.symm.trans a) (by decide)
  | exact absurd (p.symm.trans (h1.trans q)) (by decide)
  | exact (hx.trans (by rw [e])).trans hy.symm
def Vc (v : V) : Prop := Can v ∧ v.n < 18446744073709551616 ∧ v.x.length = 256
theorem sum_take8 (c : UInt8) (b : List UInt8) (h : wid c ≤ b.length) (h8 : wid c ≤ 8) : sum (b.take (wid c)) < 18446744073709551616 := by
 have h1 := sum_take_pow b (wid c) h
 have h2 : 256 ^ wid c ≤ 256 ^ 8 := Nat.pow_le_pow_right (by omega) h8
 have h3 : (256 : Nat) ^ 8 = 18446744073709551616 := by decide
 omega
theorem lift_vc {c : UInt8} {b : List UInt8} {v : V} {k : Nat} (h : lift c b = some (v, k)) (hc : wid c ≤ 8 ∨ c = 35) : Vc v := by
 unfold lift at h
 split at h
 ·cases h
 ·rename_i hl
  split at h
  ·split at h
   ·cases h
   ·obtain ⟨rfl, rfl⟩ := Prod.mk.inj (Option.some.inj h)
    exact ⟨can_flag _, (by decide : (0 : Nat) < 18446744073709551616), List.length_replicate⟩
  ·split at h
   ·split at h
    ·cases h
    ·obtain ⟨rfl, rfl⟩ := Prod.mk.inj (Option.some.inj h)
     exact ⟨can_blob _, (by decide : (0 : Nat) < 18446744073709551616), List.length_replicate⟩
   ·split at h
    ·rename_i h35
     obtain ⟨rfl, rfl⟩ := Prod.mk.inj (Option.some.inj h)
     refine ⟨can_blk _, (by decide : (0 : Nat) < 18446744073709551616), ?_⟩
     have : wid c = 256 := by rw [h35]; rfl
     show (b.take 256).length = 256
     rw [List.length_take]; omega
    ·rename_i h35
     obtain ⟨rfl, rfl⟩ := Prod.mk.inj (Option.some.inj h)
     refine ⟨can_num _, ?_, List.length_replicate⟩
     exact sum_take8 c b (by omega) (hc.resolve_right h35)
/-- A shape of the letters that there are. -/
def Sh (s : List UInt8) : Prop := ∀ c ∈ s, wid c ≤ 8 ∨ c = 35
theorem unpack_vc : ∀ (s b : List UInt8) (l : List V) (n : Nat), Sh s → unpack s b = some (l, n) → ∀ v ∈ l, Vc v
 | [], b, l, n, _, h, v, hv => by
  obtain ⟨rfl, _⟩ := Prod.mk.inj (Option.some.inj h)
  cases hv
 | c :: s, b, l, n, hs, h, v, hv => by
  obtain ⟨v1, k, vs, m, h1, h2, rfl, _⟩ := unpack_cons h
  rcases List.mem_cons.1 hv with rfl | hv
  ·exact lift_vc h1 (hs c (by simp))
  ·exact unpack_vc s _ vs m (fun d hd => hs d (by simp [hd])) h2 v hv
theorem sameVs_eq : ∀ (l l' : List V), SameVs l' l → (∀ v ∈ l', Can v) → (∀ v ∈ l, Can v) → l' = l
 | [], l', h, _, _ => List.eq_nil_of_length_eq_zero h.1
 | v :: l, [], h, _, _ => absurd h.1 (by simp)
 | v :: l, u :: l', h, h1, h2 => by
  rw [same_eq (h.2 0 u v rfl rfl) (h1 u (by simp)) (h2 v (by simp)), sameVs_eq l l' ⟨by simpa using h.1, fun j x y a b => h.2 (j + 1) x y (by simpa using a) (by simpa using b)⟩ (fun x hx => h1 x (by simp [hx])) (fun x hx => h2 x (by simp [hx]))]
theorem unpack_pack_eq {s : List UInt8} {l : List V} {bs : List UInt8} (hs : Sh s) (hl : ∀ v ∈ l, Can v ∧ v.x.length = 256) (h : pack s l = some bs) (r : List UInt8) : unpack s (bs ++ r) = some (l, bs.length) := by
 obtain ⟨_, l', hu, hss⟩ := unpack_pack s l bs (fun v hv => (hl v hv).2) h r
 rw [hu, sameVs_eq l l' hss (fun v hv => (unpack_vc s _ l' _ hs hu v hv).1) (fun v hv => (hl v hv).1)]
theorem pack_app : ∀ (a c : List UInt8) (x y : List V) (p q : List UInt8), pack a x = some p → pack c y = some q → pack (a ++ c) (x ++ y) = some (p ++ q)
 | [], c, [], y, p, q, h, h2 => by
  obtain rfl := Option.some.inj h
  exact h2
 | [], c, v :: x, y, p, q, h, h2 => by simp [pack] at h
 | d :: a, c, [], y, p, q, h, h2 => by simp [pack] at h
 | d :: a, c, v :: x, y, p, q, h, h2 => by
  rw [pack] at h
  cases hl : lay d v with
  | none => rw [hl] at h; cases h
  | some t =>
   rw [hl, Option.bind_some] at h
   cases hp : pack a x with
   | none => rw [hp] at h; cases h
   | some p' =>
    rw [hp] at h
    obtain rfl := Option.some.inj h
    rw [List.cons_append, List.cons_append, pack, hl, Option.bind_some, pack_app a c x y p' q hp h2]
    simp
theorem layN {c : UInt8} {n : Nat} (hc : isNum c = true) (h : n < 256 ^ wid c) : lay c (num n) = some (low n (wid c)) := by
 have h2 : isNum c = true ∧ n < 256 ^ wid c := ⟨hc, h⟩
 exact if_pos h2
theorem lay8 {n : Nat} (h : n < 18446744073709551616) : lay 56 (num n) = some (low n 8) := layN rfl (by rw [show wid 56 = 8 from rfl]; exact h)
theorem lay4 {n : Nat} (h : n < 4294967296) : lay 52 (num n) = some (low n 4) := layN rfl (by rw [show wid 52 = 4 from rfl]; exact h)
theorem lay2 {n : Nat} (h : n < 65536) : lay 50 (num n) = some (low n 2) := layN rfl (by rw [show wid 50 = 2 from rfl]; exact h)
theorem lay1 {n : Nat} (h : n < 256) : lay 49 (num n) = some (low n 1) := layN rfl (by rw [show wid 49 = 1 from rfl]; omega)
def fl (y : Bool) : List UInt8 := [if y then 1 else 0]
theorem layF (y : Bool) : lay 63 (flag y) = some (fl y) := rfl
theorem layX (l : List UInt8) : lay 35 (blk l) = some l := rfl
/-- An item's bytes; a letter's. -/
def itB (i : It0) : List UInt8 := low (toU i.k) 1 ++ (if i.k = 5 then (low (opB i.op).length 4 ++ opB i.op) ++ low (toU i.blocks) 4 else if i.k = 2 then low i.vol 4 ++ low (toU i.size) 2
 else if i.k = 3 then low i.vol 4 ++ low (toU i.blk) 2 else if i.k = 4 then low i.vol 4 ++ (low (toU i.blk) 2 ++ i.data) else low i.vol 4)
def lc (c : Int) (m : Ms0) : List UInt8 :=
 if c = 116 then low m.st.epoch 8 ++ (low m.st.last 8 ++ (low m.st.seq 8 ++ (low m.st.bl 8 ++ (low m.st.bs 8 ++ fl m.st.marked)))) else if c = 108 then fl m.lead else if c = 110 then low m.num 8
 else if c = 102 then low (toU m.fro) 1 else if c = 109 then low m.ne 8 ++ low m.ns 8 else if c = 111 then low (opB m.op).length 4 ++ opB m.op else if c = 98 then low (toU m.blocks) 4 else if c = 105 then itB m.item else low m.seq 8
def nine (c : UInt8) : Prop := c = 116 ∨ c = 108 ∨ c = 110 ∨ c = 115 ∨ c = 102 ∨ c = 109 ∨ c = 111 ∨ c = 98 ∨ c = 105
theorem nmM_nine (k : Int) : ∀ c ∈ nmM k, nine c := by
 unfold nine
 rcases nmM_cases k with h | h | h | h | h | h | h | h | h | h <;> rw [h] <;> decide
theorem nmM_nodup (k : Int) : (nmM k).Nodup := by
 rcases nmM_cases k with h | h | h | h | h | h | h | h | h | h <;> rw [h] <;> decide
/-- An operation that may be has few bytes. -/
theorem mayO_dlen {o : Op0} (h : mayO o = true) : o.data.length ≤ 2048 := by
 have hk := (mayO_parts h).1
 unfold mayO at h
 simp only [Bool.and_eq_true] at h
 have he := opEq_iff.1 h.2
 have hd : ∀ (l : List UInt8) (b : Op0), (100 : UInt8) ∉ l → (∀ c ∈ l, six c) → (l.foldl (fun b c => setL b (c.toNat : Int) o) b).data = b.data := by
  intro l
  induction l with
  | nil => intro b _ _; rfl
  | cons c l ih =>
   intro b hn hs
   rw [List.foldl_cons, ih _ (fun h => hn (by simp [h])) (fun d hd => hs d (by simp [hd]))]
   rcases hs c (by simp) with rfl | rfl | rfl | rfl | rfl | rfl
   ·rfl
   ·rfl
   ·rfl
   ·rfl
   ·rfl
   ·exact absurd (by simp) hn
 by_cases hn : (100 : UInt8) ∈ nm o.k
 ·have := hk 100 hn
  have h2 : (decide (64 ≤ o.data.length) && decide (o.data.length % 64 = 0) && decide (o.data.length ≤ 2048)) = true := this
  simp only [Bool.and_eq_true, decide_eq_true_eq] at h2
  exact h2.2
 ·have h3 : o.data = [] := by
   have h4 := hd (nm o.k) (bare0 o) hn (nm_six o.k)
   have h5 : (bare o (nm o.k)).data = [] := h4
   rw [← he] at h5
   exact h5
  rw [h3]; simp
theorem opB_of {o : Op0} {bs : List UInt8} (h : packO o = some bs) : opB o = bs := by unfold opB; rw [h]; rfl
theorem opB_some {o : Op0} (h : mayO o = true) : packO o = some (opB o) := by
 obtain ⟨bs, h1, _⟩ := packO_some h
 rw [opB_of h1, h1]
theorem vals_blen0 (o : Op0) (l : List UInt8) : ∀ v ∈ vals o l, v.b.length ≤ o.data.length := by
 intro v hv
 obtain ⟨c, _, rfl⟩ := List.mem_map.1 hv
 unfold vaL
 (repeat' split)
 all_goals first | exact Nat.zero_le _ | exact Nat.le_refl _
theorem opB_len {o : Op0} (h : mayO o = true) : (opB o).length ≤ 7000 := by
 obtain ⟨_, r, h0, hp⟩ := packO_parts (opB_some h)
 have h1 := pack_len _ _ _ 2048 (fun v hv => ⟨vals_x o _ v hv, Nat.le_trans (vals_blen0 o _ v hv) (mayO_dlen h)⟩) hp
 have h2 : (shS (nm o.k)).length ≤ 3 := by unfold shS; rw [List.length_map]; exact nm_len _
 have h3 : (shS (nm o.k)).length * (2048 + 260) ≤ 3 * 2308 := Nat.mul_le_mul_right _ h2
 rw [h0, List.length_cons]; omega
theorem lay_op {o : Op0} (h : mayO o = true) : lay 42 (blob (opB o)) = some (low (opB o).length 4 ++ opB o) := lay_b42 (by have := opB_len h; omega)
theorem toU_lt {n : Int} {u : Nat} (h1 : 0 ≤ n) (h2 : n < (u : Int)) (h3 : u ≤ 18446744073709551616) : toU n < u := by unfold toU; omega
theorem pack_item {i : It0} (h : mayI i = true) (hd : i.data.length = 256) : pack (shapeI i.k) (valI i) = some (itB i) := by
 rcases mayI_iff.1 h with ⟨hk, hv, _⟩ | ⟨hk, hv, hs, _⟩ | ⟨hk, hv, _, hb, _⟩ | ⟨hk, hv, _, hb, _⟩ | ⟨hk, _, _, _, _, ho, h1, h2⟩
 ·unfold shapeI valI itB
  rw [hk]
  show pack [49, 52] [num 1, num i.vol] = _
  simp only [pack, lay1 (n := 1) (by decide), lay4 hv.2, Option.bind_some, Option.map_some, List.append_nil]
  rfl
 ·unfold shapeI valI itB
  rw [hk]
  show pack [49, 52, 50] [num 2, num i.vol, num (toU i.size)] = _
  simp only [pack, lay1 (n := 2) (by decide), lay4 hv.2, lay2 (n := toU i.size) (toU_lt hs.1 (by omega) (by omega)), Option.bind_some, Option.map_some, List.append_nil]
  rfl
 ·unfold shapeI valI itB
  rw [hk]
  show pack [49, 52, 50] [num 3, num i.vol, num (toU i.blk)] = _
  simp only [pack, lay1 (n := 3) (by decide), lay4 hv.2, lay2 (n := toU i.blk) (toU_lt hb.1 (by have := hb.2; omega) (by omega)), Option.bind_some, Option.map_some, List.append_nil]
  rfl
 ·unfold shapeI valI itB
  rw [hk]
  show pack [49, 52, 50, 35] [num 4, num i.vol, num (toU i.blk), blk i.data] = _
  simp only [pack, lay1 (n := 4) (by decide), lay4 hv.2, lay2 (n := toU i.blk) (toU_lt hb.1 (by have := hb.2; omega) (by omega)), layX, Option.bind_some, Option.map_some, List.append_nil]
  rfl
 ·unfold shapeI valI itB
  rw [hk]
  show pack [49, 42, 52] [num 5, blob (opB i.op), num (toU i.blocks)] = _
  simp only [pack, lay1 (n := 5) (by decide), lay_op ho, lay4 (n := toU i.blocks) (toU_lt h1 (by omega) (by omega)), Option.bind_some, Option.map_some, List.append_nil]
  rfl
/-- What a letter stands for has bytes. -/
theorem pack_letter {m : Ms0} (ok : m.Ok) {c : UInt8} (hc : nine c) (h : kept (c.toNat : Int) m = true) : pack (shapeC (c.toNat : Int) m.item.k) (valC (c.toNat : Int) m) = some (lc (c.toNat : Int) m) := by
 rcases hc with rfl | rfl | rfl | rfl | rfl | rfl | rfl | rfl | rfl
 ·have hm := mayS_iff.1 (show mayS m.st = true from h)
  obtain ⟨h1, h2, h3, h4, h5⟩ := hm
  show pack [56, 56, 56, 56, 56, 63] [num m.st.epoch, num m.st.last, num m.st.seq, num m.st.bl, num m.st.bs, flag m.st.marked] = _
  simp only [pack, lay8 ok.st.epoch, lay8 ok.st.last, lay8 ok.st.seq, lay8 ok.st.bl, lay8 ok.st.bs, layF, Option.bind_some, Option.map_some, List.append_nil]
  rfl
 ·show pack [63] [flag m.lead] = _
  simp only [pack, layF, Option.bind_some, Option.map_some, List.append_nil]
  rfl
 ·show pack [56] [num m.num] = _
  simp only [pack, lay8 ok.num, Option.bind_some, Option.map_some, List.append_nil]
  rfl
 ·show pack [56] [num m.seq] = _
  simp only [pack, lay8 ok.seq, Option.bind_some, Option.map_some, List.append_nil]
  rfl
 ·have h2 : 0 ≤ m.fro ∧ m.fro ≤ 2 := of_decide_eq_true h
  show pack [49] [num (toU m.fro)] = _
  simp only [pack, lay1 (n := toU m.fro) (toU_lt h2.1 (by omega) (by omega)), Option.bind_some, Option.map_some, List.append_nil]
  rfl
 ·show pack [56, 56] [num m.ne, num m.ns] = _
  simp only [pack, lay8 ok.ne, lay8 ok.ns, Option.bind_some, Option.map_some, List.append_nil]
  rfl
 ·show pack [42] [blob (opB m.op)] = _
  simp only [pack, lay_op (show mayO m.op = true from h), Option.bind_some, Option.map_some, List.append_nil]
  rfl
 ·have h2 : 0 ≤ m.blocks ∧ m.blocks ≤ 1048576 := of_decide_eq_true h
  show pack [52] [num (toU m.blocks)] = _
  simp only [pack, lay4 (n := toU m.blocks) (toU_lt h2.1 (by omega) (by omega)), Option.bind_some, Option.map_some, List.append_nil]
  rfl
 ·exact pack_item (show mayI m.item = true from h) ok.item.data
theorem valI_can (i : It0) (hd : i.data.length = 256) : ∀ v ∈ valI i, Can v ∧ v.x.length = 256 := by
 intro v hv
 unfold valI at hv
 have hN : ∀ n, Can (num n) ∧ (num n).x.length = 256 := fun n => ⟨can_num n, List.length_replicate⟩
 have hB : ∀ n, Can (blob n) ∧ (blob n).x.length = 256 := fun n => ⟨can_blob n, List.length_replicate⟩
 rcases List.mem_cons.1 hv with rfl | hv
 ·exact hN _
 ·split at hv
  ·simp only [List.mem_cons, List.not_mem_nil, or_false] at hv
   rcases hv with rfl | rfl
   ·exact hB _
   ·exact hN _
  ·split at hv
   ·simp only [List.mem_cons, List.not_mem_nil, or_false] at hv
    rcases hv with rfl | rfl <;> exact hN _
   ·split at hv
    ·simp only [List.mem_cons, List.not_mem_nil, or_false] at hv
     rcases hv with rfl | rfl <;> exact hN _
    ·split at hv
     ·simp only [List.mem_cons, List.not_mem_nil, or_false] at hv
      rcases hv with rfl | rfl | rfl
      ·exact hN _
      ·exact hN _
      ·exact ⟨can_blk _, hd⟩
     ·simp only [List.mem_cons, List.not_mem_nil, or_false] at hv
      rcases hv with rfl
      exact hN _
theorem valC_can {m : Ms0} (hd : m.item.data.length = 256) {c : UInt8} (hc : nine c) : ∀ v ∈ valC (c.toNat : Int) m, Can v ∧ v.x.length = 256 := by
 intro v hv
 have hN : ∀ n, Can (num n) ∧ (num n).x.length = 256 := fun n => ⟨can_num n, List.length_replicate⟩
 have hF : ∀ n, Can (flag n) ∧ (flag n).x.length = 256 := fun n => ⟨can_flag n, List.length_replicate⟩
 have hB : ∀ n, Can (blob n) ∧ (blob n).x.length = 256 := fun n => ⟨can_blob n, List.length_replicate⟩
 rcases hc with rfl | rfl | rfl | rfl | rfl | rfl | rfl | rfl | rfl
 ·have h : v ∈ [num m.st.epoch, num m.st.last, num m.st.seq, num m.st.bl, num m.st.bs, flag m.st.marked] := hv
  simp only [List.mem_cons, List.not_mem_nil, or_false] at h
  rcases h with rfl | rfl | rfl | rfl | rfl | rfl
  ·exact hN _
  ·exact hN _
  ·exact hN _
  ·exact hN _
  ·exact hN _
  ·exact hF _
 ·have h : v ∈ [flag m.lead] := hv
  simp only [List.mem_cons, List.not_mem_nil, or_false] at h
  subst h; exact hF _
 ·have h : v ∈ [num m.num] := hv
  simp only [List.mem_cons, List.not_mem_nil, or_false] at h
  subst h; exact hN _
 ·have h : v ∈ [num m.seq] := hv
  simp only [List.mem_cons, List.not_mem_nil, or_false] at h
  subst h; exact hN _
 ·have h : v ∈ [num (toU m.fro)] := hv
  simp only [List.mem_cons, List.not_mem_nil, or_false] at h
  subst h; exact hN _
 ·have h : v ∈ [num m.ne, num m.ns] := hv
  simp only [List.mem_cons, List.not_mem_nil, or_false] at h
  rcases h with rfl | rfl <;> exact hN _
 ·have h : v ∈ [blob (opB m.op)] := hv
  simp only [List.mem_cons, List.not_mem_nil, or_false] at h
  subst h; exact hB _
 ·have h : v ∈ [num (toU m.blocks)] := hv
  simp only [List.mem_cons, List.not_mem_nil, or_false] at h
  subst h; exact hN _
 ·exact valI_can m.item hd v hv
theorem sh_C (c : Int) (k : Int) : Sh (shapeC c k) := by
 unfold shapeC shapeI Sh
 (repeat' split) <;> decide
theorem may_C (c : Int) (k : Int) : may (shapeC c k) = true := by
 unfold shapeC shapeI
 (repeat' split) <;> decide
/-- The shape hangs on the kind in an item's letter alone. -/
theorem shape_item {c : UInt8} (hc : nine c) (h : c ≠ 105) (k k' : Int) : shapeC (c.toNat : Int) k = shapeC (c.toNat : Int) k' := by
 rcases hc with rfl | rfl | rfl | rfl | rfl | rfl | rfl | rfl | rfl
 all_goals first
  | rfl
  | exact absurd rfl h
theorem itB_head (i : It0) (h : mayI i = true) (r : List UInt8) : (((itB i ++ r).headD 0).toNat : Int) = i.k := by
 have hk : 0 ≤ i.k ∧ i.k < 256 := by rcases mayI_iff.1 h with ⟨hk, _⟩ | ⟨hk, _⟩ | ⟨hk, _⟩ | ⟨hk, _⟩ | ⟨hk, _⟩ <;> omega
 have e : (itB i ++ r).headD 0 = UInt8.ofNat (toU i.k % 256) := rfl
 have e2 := toU_of (n := i.k) hk.1 (by omega)
 rw [e, UInt8.toNat_ofNat']
 omega
theorem opGet {o : Op0} (h : mayO o = true) : (ofO (opB o)).getD op0 = o := by rw [ofO_packO (opB_some h)]; rfl
theorem getI_valI {i : It0} (h : mayI i = true) : getI (valI i) = i := by
 obtain ⟨k, vol, size, bk, data, op, blocks⟩ := i
 rcases mayI_iff.1 h with ⟨hk, hv, h1, h2, h3, h4, h5⟩ | ⟨hk, hv, h1, h2, h3, h4, h5⟩ | ⟨hk, hv, h1, h2, h3, h4, h5⟩ | ⟨hk, hv, h1, h2, h4, h5⟩ | ⟨hk, hv, h1, h2, h3, h4, h5, h6⟩
 all_goals dsimp only at hk h1 h2 h4 h5
 ·subst hk h1 h2 h3 h4 h5
  rfl
 ·subst hk h2 h3 h4 h5
  show (⟨2, vol, ((toU size : Nat) : Int), 0, z256, op0, 0⟩ : It0) = _
  rw [toU_of h1.1 (by omega)]
 ·subst hk h1 h3 h4 h5
  show (⟨3, vol, 0, ((toU bk : Nat) : Int), z256, op0, 0⟩ : It0) = _
  rw [toU_of (show (0 : Int) ≤ bk from h2.1) (by have h := h2.2; change bk < 256 at h; omega)]
 ·subst hk h1 h4 h5
  show (⟨4, vol, 0, ((toU bk : Nat) : Int), data, op0, 0⟩ : It0) = _
  rw [toU_of (show (0 : Int) ≤ bk from h2.1) (by have h := h2.2; change bk < 256 at h; omega)]
 ·dsimp only at hv h3 h6
  subst hk hv h1 h2 h3
  show (⟨5, 0, 0, 0, z256, (ofO (opB op)).getD op0, ((toU blocks : Nat) : Int)⟩ : It0) = _
  rw [opGet h4, toU_of h5 (by omega)]
/-- A letter's values, put where they belong. -/
theorem getM_valC {m : Ms0} (b : Ms0) {c : UInt8} (hc : nine c) (h : kept (c.toNat : Int) m = true) : getM b (c.toNat : Int) (valC (c.toNat : Int) m) = setM b (c.toNat : Int) m := by
 rcases hc with rfl | rfl | rfl | rfl | rfl | rfl | rfl | rfl | rfl
 ·rfl
 ·rfl
 ·rfl
 ·rfl
 ·have h2 : 0 ≤ m.fro ∧ m.fro ≤ 2 := of_decide_eq_true h
  show ({ b with fro := ((toU m.fro : Nat) : Int) } : Ms0) = { b with fro := m.fro }
  rw [toU_of h2.1 (by omega)]
 ·rfl
 ·show ({ b with op := (ofO (opB m.op)).getD op0 } : Ms0) = { b with op := m.op }
  rw [opGet h]
 ·have h2 : 0 ≤ m.blocks ∧ m.blocks ≤ 1048576 := of_decide_eq_true h
  show ({ b with blocks := ((toU m.blocks : Nat) : Int) } : Ms0) = { b with blocks := m.blocks }
  rw [toU_of h2.1 (by omega)]
 ·show ({ b with item := getI (valI m.item) } : Ms0) = { b with item := m.item }
  rw [getI_valI h]
/-- Letters' bytes, read behind one another. -/
theorem ofL_pack {m : Ms0} (ok : m.Ok) : ∀ (cs : List UInt8) (b : Ms0) (r : List UInt8), (∀ c ∈ cs, nine c ∧ kept (c.toNat : Int) m = true) →
  pack (cs.flatMap fun c => shapeC (c.toNat : Int) m.item.k) (cs.flatMap fun c => valC (c.toNat : Int) m) = some (cs.flatMap fun c => lc (c.toNat : Int) m) ∧
  ofL b cs ((cs.flatMap fun c => lc (c.toNat : Int) m) ++ r) = some (cs.foldl (fun b c => setM b (c.toNat : Int) m) b, r)
 | [], b, r, _ => ⟨rfl, rfl⟩
 | c :: cs, b, r, h => by
  obtain ⟨hc, hk⟩ := h c (by simp)
  obtain ⟨i1, i2⟩ := ofL_pack ok cs (setM b (c.toNat : Int) m) r (fun d hd => h d (by simp [hd]))
  have hp := pack_letter ok hc hk
  refine ⟨?_, ?_⟩
  ·rw [List.flatMap_cons, List.flatMap_cons, List.flatMap_cons]
   exact pack_app _ _ _ _ _ _ hp i1
  ·rw [List.flatMap_cons, List.append_assoc]
   have hs : shapeC (c.toNat : Int) ((((lc (c.toNat : Int) m) ++ ((cs.flatMap fun c => lc (c.toNat : Int) m) ++ r)).headD 0).toNat : Int) = shapeC (c.toNat : Int) m.item.k := by
    by_cases h105 : c = 105
    ·subst h105
     have e : lc (((105 : UInt8).toNat : Nat) : Int) m = itB m.item := rfl
     rw [e, itB_head m.item hk]
    ·exact shape_item hc h105 _ _
   rw [ofL, hs, unpack_pack_eq (sh_C _ _) (valC_can ok.item.data hc) hp, Option.bind_some]
   dsimp only
   rw [List.drop_left, getM_valC b hc hk, i2, List.foldl_cons]
theorem mayM_parts {m : Ms0} (h : mayM m = true) : (∀ c ∈ nmM m.k, kept (c.toNat : Int) m = true) ∧ 1 ≤ m.k ∧ m.k ≤ 15 ∧ m = bareM m (nmM m.k) := by
 unfold mayM at h
 simp only [Bool.and_eq_true, decide_eq_true_eq, List.all_eq_true] at h
 exact ⟨h.1.1, h.1.2.1, h.1.2.2, msEq_iff.1 h.2⟩
def hdB (m : Ms0) : List UInt8 := low (toU m.k) 1 ++ low m.epoch 8
/-- A message's bytes, in one form. -/
def bsM (m : Ms0) : List UInt8 := hdB m ++ (nmM m.k).flatMap fun c => lc (c.toNat : Int) m
/-- A message of bytes, and what is left of them. -/
def ofP (b : List UInt8) : Option (Ms0 × List UInt8) := (unpack [49, 56] b).bind fun p => ofL (msK ((p.1.headD (num 0)).n : Int) ((p.1.drop 1).headD (num 0)).n) (nmM ((p.1.headD (num 0)).n : Int)) (b.drop p.2)
theorem ofM_P (b : List UInt8) : ofM b = (ofP b).bind fun q => if q.2 = [] ∧ mayM q.1 = true then some q.1 else none := by
 unfold ofM ofP
 rw [Option.bind_assoc]
 rfl
theorem hdB_pack {m : Ms0} (ok : m.Ok) (h1 : 1 ≤ m.k) (h2 : m.k ≤ 15) : pack [49, 56] [num (toU m.k), num m.epoch] = some (hdB m) := by
 simp only [pack, lay1 (n := toU m.k) (toU_lt (by omega) (by omega) (by omega)), lay8 ok.epoch, Option.bind_some, Option.map_some, List.append_nil]
 rfl
theorem packM_bs {m : Ms0} (ok : m.Ok) (h : mayM m = true) : packM m = some (bsM m) := by
 obtain ⟨hk, h1, h2, _⟩ := mayM_parts h
 unfold packM
 rw [if_pos h]
 exact pack_app _ _ _ _ _ _ (hdB_pack ok h1 h2) (ofL_pack ok (nmM m.k) m [] (fun c hc => ⟨nmM_nine _ c hc, hk c hc⟩)).1
theorem ofP_bs {m : Ms0} (ok : m.Ok) (h : mayM m = true) (r : List UInt8) : ofP (bsM m ++ r) = some (m, r) := by
 obtain ⟨hk, h1, h2, hb⟩ := mayM_parts h
 have hu := unpack_pack_eq (s := [49, 56]) (by unfold Sh; decide) (fun v hv => by
  simp only [List.mem_cons, List.not_mem_nil, or_false] at hv
  rcases hv with rfl | rfl <;> exact ⟨can_num _, List.length_replicate⟩) (hdB_pack ok h1 h2) (((nmM m.k).flatMap fun c => lc (c.toNat : Int) m) ++ r)
 unfold ofP bsM
 rw [List.append_assoc, hu, Option.bind_some]
 dsimp only
 have e1 : ((([num (toU m.k), num m.epoch] : List V).headD (num 0)).n : Int) = m.k := toU_of (by omega) (by omega)
 have e2 : ((([num (toU m.k), num m.epoch] : List V).drop 1).headD (num 0)).n = m.epoch := rfl
 rw [e1, e2, List.drop_left, (ofL_pack ok (nmM m.k) (msK m.k m.epoch) r (fun c hc => ⟨nmM_nine _ c hc, hk c hc⟩)).2]
 exact congrArg (fun x => some (x, r)) hb.symm
theorem ofM_packM {m : Ms0} (ok : m.Ok) (h : mayM m = true) : ofM (bsM m) = some m := by
 have := ofP_bs ok h []
 rw [List.append_nil] at this
 rw [ofM_P, this, Option.bind_some]
 exact if_pos ⟨rfl, h⟩
end Go.Proofs.Ytgkelbdgdhkeoaa
