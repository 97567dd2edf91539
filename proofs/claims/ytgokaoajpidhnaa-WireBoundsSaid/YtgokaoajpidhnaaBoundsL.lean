/- WireBounds, walked. -/
import Derived.Test.YtgokaoajpidhnaaJoinsL
namespace Go.Proofs.Ytgokaoajpidhnaa
open Go.RowKit
set_option linter.unusedVariables false
set_option linter.unusedSimpArgs false
open Wire

theorem anys_one {w : World} {u : Value} {v : V} (h : AnyV w u v) (T : TypeId) : Anys (w.alloc (.cells #[u] T)) (some ⟨w.heap.size, 0, none⟩) 1 1 [v] := by
  refine ⟨rfl, Nat.le_refl _, by unfold maxLen; omega, fun j x hj => ?_⟩
  match j, hj with
  | 0, hj =>
    obtain rfl := Option.some.inj hj
    exact ⟨w.heap.size, 0, u, rfl, by simp, cellOf' (heap_alloc_new w _) 0 rfl, h.below (balloc (Below.refl _ w) _)⟩
  | j + 1, hj => cases hj
/-- A value that has none of the types. -/
def odd : V := ⟨0, 0, false, [], []⟩
theorem chs1 (c : UInt8) : chs ⟨#[c]⟩ = [c] := rfl
theorem pack_blob (l : List UInt8) (h : l.length ≤ 16777216) : pack [42] [blob l] = some (low l.length 4 ++ l) := by
  have : lay 42 (blob l) = some (low l.length 4 ++ l) := by
    unfold lay blob
    simp [h]
  rw [pack, this]
  simp [pack]
theorem pack_big (l : List UInt8) (h : 16777216 < l.length) : pack [42] [blob l] = none := by
  have : lay 42 (blob l) = none := by
    unfold lay blob
    have : ¬ l.length ≤ 16777216 := by omega
    simp [this]
  rw [pack, this]
  rfl
theorem pack_odd (c : UInt8) : pack [c] [odd] = none := by
  have : lay c odd = none := rfl
  rw [pack, this]; rfl
theorem unpack_big (l : List UInt8) : ucode [42] ([1, 0, 0, 1] ++ l) = 4 := by
  have : lift 42 ([1, 0, 0, 1] ++ l) = none := by
    unfold lift
    have h4 : ([1, 0, 0, 1] ++ l : List UInt8).take 4 = [1, 0, 0, 1] := rfl
    rw [h4, if_neg (by rw [show wid 42 = 4 from rfl, List.length_append]; simp), if_neg (by decide), if_pos rfl, if_pos (.inl (by decide))]
  unfold ucode
  rw [if_pos (by decide), unpack, this]
  rfl
theorem unpack_blob (l : List UInt8) (h : l.length ≤ 16777216) : may [42] = true ∧ unpack [42] (low l.length 4 ++ l) = some ([blob l], 4 + l.length) := by
  have h4 : (low l.length 4).length = 4 := low_len _ _
  have hs : sum ((low l.length 4 ++ l).take 4) = l.length := by
    rw [List.take_left' h4]; exact sum_low 4 _ (Nat.lt_of_le_of_lt h (by decide))
  have : lift 42 (low l.length 4 ++ l) = some (blob l, 4 + l.length) := by
    unfold lift
    rw [if_neg (by rw [show wid 42 = 4 from rfl, List.length_append, h4]; omega), if_neg (by decide), if_pos rfl, hs, if_neg (by rw [List.length_append, h4]; omega), List.drop_left' h4, List.take_of_length_le (Nat.le_refl _)]
  refine ⟨by decide, ?_⟩
  rw [unpack, this]
  simp [unpack]
theorem bV_zeros (n : Nat) : List.replicate n (Value.int .u8 0) = bV (List.replicate n 0) := by simp [bV]

theorem rd_tail {w : World} {base n : Nat} {b : Nat} {l : List UInt8} {x : UInt8} (ho : w.ownsRow base 5 1 (.slice (some ⟨b, 0, none⟩) n n) n (bV (x :: l))) (hn : 2 ≤ n) : Rd w 1 (.slice (some ⟨b, 1, none⟩) (n - 1) (n - 1)) (n - 1) (bV l) := by
  have h := (Rd.of_own ho).cut (show 1 ≤ n by omega) (Nat.le_refl n)
  have hl : l.length + 1 = n := by have := ho.1; simpa [bV_len] using this
  have e : cutA (some ⟨b, 0, none⟩) n 1 1 = some ⟨b, 1, none⟩ := by
    unfold cutA
    rw [if_neg (by omega)]
    simp [Addr.add_lit]
  rw [e] at h
  have e2 : ((bV (x :: l)).drop (1 * 1)).take ((n - 1) * 1) = bV l := by
    simp only [bV, List.map_cons, Nat.mul_one, List.drop_succ_cons, List.drop_zero]
    exact List.take_of_length_le (by simp; omega)
  rwa [e2] at h

theorem pk_blob (w : World) (l : List UInt8) (sl : Value) (m : Nat) (hr : Rd w 1 sl m (bV l)) (hm : l.length = m) (hl : m ≤ 20000000) (T : TypeId) :
    Calls Try.prog 54 #[.string ⟨#[42]⟩, .slice (some ⟨w.heap.size, 0, none⟩) 1 1] (w.alloc (.cells #[.iface 36 sl] T)) (PackP (w.alloc (.cells #[.iface 36 sl] T)) (pack [42] [blob l])) := by
  subst hm
  have ha : AnyV w (.iface 36 sl) (blob l) := .inr (.inr (.inl ⟨rfl, sl, rfl, hr⟩))
  refine pack_any ⟨#[42]⟩ (anys_one ha T) 20000000 (fun v hv => ?_) (by omega) (show 1 * (20000000 + 260) ≤ 40000000 by omega) (fun h => by cases h)
  obtain rfl : v = blob l := by simpa using hv
  exact hl
theorem pk_odd (w : World) (c : UInt8) (u : Value) (hu : OddV u) (T : TypeId) :
    Calls Try.prog 54 #[.string ⟨#[c]⟩, .slice (some ⟨w.heap.size, 0, none⟩) 1 1] (w.alloc (.cells #[u] T)) fun e w' => e = .returned (.tuple #[.slice none 0 0, .int .i64 2]) ∧ Below (w.alloc (.cells #[u] T)).heap.size (w.alloc (.cells #[u] T)) w' := by
  have ha : AnyV w u odd := .inr (.inr (.inr (.inr ⟨by decide, by decide, by decide, by decide, hu⟩)))
  refine (pack_any ⟨#[c]⟩ (anys_one ha T) 0 (fun v hv => ?_) (by omega) (show 1 * (0 + 260) ≤ 40000000 by omega) (fun h => by cases h)).mono ?_
  · obtain rfl : v = odd := by simpa using hv
    exact Nat.le_refl _
  · rintro e w' ⟨hb, hP⟩
    rw [chs1, pack_odd] at hP
    exact ⟨hP, hb⟩
theorem pk_over (w : World) (x : Nat) (hx : x < 18446744073709551616) (T : TypeId) :
    Calls Try.prog 54 #[.string ⟨#[]⟩, .slice (some ⟨w.heap.size, 0, none⟩) 1 1] (w.alloc (.cells #[.iface 93 (.int .u64 (x : Int))] T)) fun e w' => e = .returned (.tuple #[.slice none 0 0, .int .i64 2]) ∧ Below (w.alloc (.cells #[.iface 93 (.int .u64 (x : Int))] T)).heap.size (w.alloc (.cells #[.iface 93 (.int .u64 (x : Int))] T)) w' := by
  have ha : AnyV w (.iface 93 (.int .u64 (x : Int))) (num x) := .inl ⟨rfl, rfl, hx⟩
  refine (pack_any ⟨#[]⟩ (anys_one ha T) 0 (fun v hv => ?_) (by omega) (show 0 * (0 + 260) ≤ 40000000 by omega) (fun h => by cases h)).mono ?_
  · obtain rfl : v = num x := by simpa using hv
    exact Nat.le_refl _
  · rintro e w' ⟨hb, hP⟩
    exact ⟨hP, hb⟩
theorem pk_none (w : World) : Calls Try.prog 54 #[.string ⟨#[]⟩, .slice none 0 0] w fun e w' => ∃ ao cap, e = .returned (.tuple #[.slice ao 0 cap, .int .i64 0]) ∧ Below w.heap.size w w' := by
  have ha : Anys w none 0 0 [] := ⟨rfl, Nat.le_refl _, Nat.zero_le _, fun j v h => by simp at h⟩
  refine (pack_any ⟨#[]⟩ ha 0 (fun v hv => by simp at hv) (by omega) (show 0 * (0 + 260) ≤ 40000000 by omega) (fun h => rfl)).mono ?_
  rintro e w' ⟨hb, v, rfl, ho⟩
  obtain ⟨ao, cap, rfl, _⟩ := Rd.of_own ho
  exact ⟨ao, cap, rfl, hb⟩
theorem run_made4 (w : World) : (w.alloc (.cells #[.int .u8 1, .int .u8 0, .int .u8 0, .int .u8 1] 5)).ownsRow w.heap.size 5 1 (.slice (some ⟨w.heap.size, 0, none⟩) 4 4) 4 (bV [1, 0, 0, 1]) :=
  ⟨rfl, .inr ⟨w.heap.size, 4, _, rfl, Nat.le_refl _, heap_alloc_new w _, Nat.le_refl _, by unfold maxLen; omega, rfl, rfl⟩⟩

set_option maxRecDepth 100000 in
set_option maxHeartbeats 12800000 in
theorem wireBounds_walk (w : World) : Calls Try.prog 14 #[] w fun e w' => e = .returned (.bool true) ∧ Below w.heap.size w w' := by
  have CN := fun n W => num1_any n W
  have CK := fun W => known1_any W
  obtain ⟨n, hn⟩ : ∃ n : Nat, n = 16777217 := ⟨_, rfl⟩
  have HN := Lib.hid hn
  have hbn : 1 * n ≤ 281474976710656 := by omega
  have hB : w.heap.size ≤ w.heap.size := Nat.le_refl _
  have hni : (16777217 : Int) = (n : Int) := by omega
  have HNI := Lib.hid hni
  have hn2 : 100 ≤ n := by omega
  have hn3 : n ≤ 20000000 := by omega
  have hn4 : ¬ n = 1 := by omega
  clear hn hni
  go_enter Try.func14, Try.ntmps14
  go_wp2_with (at_make; go_must (refine wpList_mk rfl _ _ 36 rfl w.heap.size 5 (.int .u8 0) 1 1 Try.underlying36 infoByte (by decide) _ _ _ _ n rfl rfl HNI.out HNI.out hbn hB ?_); intro w1 ho1 hb1)
  obtain ⟨l1, hl1⟩ : ∃ l : List UInt8, List.replicate n 0 = 0 :: l ∧ l.length = n - 1 := by
    refine ⟨List.replicate (n - 1) 0, ?_, by simp⟩
    rw [show n = (n - 1) + 1 by omega, List.replicate_succ]; simp
  have ho1' : w1.ownsRow w.heap.size 5 1 (.slice (some ⟨w.heap.size, 0, none⟩) n n) n (bV (0 :: l1)) := by
    have := ho1
    rw [Nat.mul_one] at this
    simp only [Value.cells, toList_madeCells_one, bV_zeros] at this
    rw [hl1.1] at this
    exact this
  have hr1 := rd_tail ho1' (by omega)
  have hr0 := Rd.of_own ho1'
  have HL1 := Lib.hid hl1.2
  have HB1 := Lib.hid hb1
  have HR0 := Lib.hid hr0
  have HR1 := Lib.hid hr1
  have C1 := pk_blob w1 l1 _ (n - 1) hr1 hl1.2 (by omega) 20
  rw [pack_blob l1 (by rw [hl1.2, HN.out]; omega)] at C1
  have hA : (low l1.length 4 ++ l1).length = 16777220 := by rw [List.length_append, low_len, hl1.2, HN.out]
  have HA := Lib.hid hA
  have HU := Lib.hid (unpack_blob l1 (by rw [hl1.2, HN.out]; omega))
  clear hb1 ho1 ho1' hr1 hr0 hA
  have HL := hl1.2
  clear hl1
  generalize low l1.length 4 ++ l1 = A at *
  have HLL := Lib.hid HL
  clear HL
  go_wp2_with fail
  refine C1.mono ?_
  rintro e w2 ⟨hb2, v2, rfl, ho2⟩
  rw [HA.out] at ho2
  have HB2 := Lib.hid (bthen (balloc HB1.out _) hb2)
  have hr2 := Rd.of_own ho2
  have HR2 := Lib.hid hr2
  obtain ⟨ao2, cap2, rfl, _⟩ := hr2
  have hB12 := (balloc (Below.refl _ w1) (.cells #[.iface 36 (.slice (some ⟨w.heap.size, 1, none⟩) (n - 1) (n - 1))] 20)).trans (hb2.mono (by simp))
  have HR02 := Lib.hid (HR0.out.below hB12)
  have C2 := pk_blob w2 (0 :: l1) _ n HR02.out (by rw [List.length_cons, HLL.out]; omega) hn3 20
  rw [pack_big (0 :: l1) (by rw [List.length_cons, HLL.out, HN.out]; omega)] at C2
  clear hb2 ho2 C1 hB12
  dsimp only
  go_wp2_with fail
  refine C2.mono ?_
  rintro e w3 ⟨hb3, rfl⟩
  have HB23 := Lib.hid (bthen (balloc (Below.refl _ w2) _) hb3)
  have HB3 := Lib.hid (bthen HB2.out HB23.out)
  have HR3 := Lib.hid (HR02.out.below HB23.out)
  have ho4 := run_made4 w3
  have HRA := Lib.hid (HR3.out.below (balloc (Below.refl _ w3) (.cells #[.int .u8 1, .int .u8 0, .int .u8 0, .int .u8 1] 5)))
  have hb34 : Below w3.heap.size w3 (w3.alloc (.cells #[.int .u8 1, .int .u8 0, .int .u8 0, .int .u8 1] 5)) := balloc (Below.refl _ w3) _
  have HB34 := Lib.hid hb34
  have hs34 : w3.heap.size ≤ (w3.alloc (.cells #[.int .u8 1, .int .u8 0, .int .u8 0, .int .u8 1] 5)).heap.size := hb34.size
  clear hb3 hb34 C2
  go_wp2_with (at_builtin; go_must (refine wpList_apps rfl _ _ 36 rfl w3.heap.size 5 _ 1 1 Try.underlying36 infoByte rfl (by decide) (by decide) _ 4 _ rfl ho4 _ n _ rfl HRA.out (bV_one _) (by omega) hs34 ?_); intro v5 w5 ho5 hb5 hg5 hs5 hn5)
  have hr5 := Rd.of_own ho5
  rw [← bV_app] at hr5
  have HB5 := Lib.hid (bthen HB3.out (HB34.out.trans hb5))
  have HB35 := Lib.hid (HB34.out.trans hb5)
  have C3 := u_any ⟨#[42]⟩ hr5 (by omega) (by decide)
  rw [chs1, unpack_big] at C3
  clear ho5 hb5 hg5 hs5 hn5 ho4 hr5 hs34
  refine C3.mono ?_
  rintro e w6 ⟨ao6, cap6, rfl, hb6, _⟩
  have HB6 := Lib.hid (bthen HB5.out hb6)
  have HB26 := Lib.hid (HB23.out.trans ((HB35.out.trans (hb6.mono HB35.out.size)).mono HB23.out.size))
  have C4 := u_any ⟨#[42]⟩ (HR2.out.below HB26.out) (by omega) (by decide)
  obtain ⟨q1, q2, q3⟩ := ucode_of HU.out.1 HU.out.2
  rw [chs1, q1, q2, q3, HLL.out, show 4 + (n - 1) = 16777220 by rw [HN.out]] at C4
  clear hb6 C3 q1 q2 q3
  go_wp2_with fail
  refine C4.mono ?_
  rintro e w7 ⟨ao7, cap7, rfl, hb7, _⟩
  have HB7 := Lib.hid (bthen HB6.out hb7)
  clear hb7 C4
  go_wp2_with fail
  refine (pk_none w7).mono ?_
  rintro e w8 ⟨ao8, cap8, rfl, hb8⟩
  have HB8 := Lib.hid (bthen HB7.out hb8)
  clear hb8
  go_wp2_with fail
  refine (pk_odd w8 49 _ (.inl ⟨1, rfl⟩) _).mono ?_
  rintro e w9 ⟨rfl, hb9⟩
  have HB9 := Lib.hid (bthen (balloc HB8.out _) hb9)
  clear hb9
  go_wp2_with fail
  refine (pk_odd w9 63 _ (.inr rfl) _).mono ?_
  rintro e w10 ⟨rfl, hb10⟩
  have HB10 := Lib.hid (bthen (balloc HB9.out _) hb10)
  clear hb10
  go_wp2_with fail
  refine (pk_over w10 1 (by omega) _).mono ?_
  rintro e w11 ⟨rfl, hb11⟩
  have HB11 := Lib.hid (bthen (balloc HB10.out _) hb11)
  clear hb11
  go_wp2_with fail
  refine (CN _ w11).mono ?_
  rintro e w12 ⟨rfl, rfl⟩
  go_wp2_with fail
  refine (CN _ w11).mono ?_
  rintro e w12 ⟨rfl, rfl⟩
  go_wp2_with fail
  refine (CN _ w11).mono ?_
  rintro e w12 ⟨rfl, rfl⟩
  go_wp2_with fail
  refine (CN _ w11).mono ?_
  rintro e w12 ⟨rfl, rfl⟩
  go_wp2_with fail
  refine (CN _ w11).mono ?_
  rintro e w12 ⟨rfl, rfl⟩
  go_wp2_with fail
  refine (CN _ w11).mono ?_
  rintro e w12 ⟨rfl, rfl⟩
  go_wp2_with fail
  refine (CN _ w11).mono ?_
  rintro e w12 ⟨rfl, rfl⟩
  go_wp2_with fail
  refine (CN _ w11).mono ?_
  rintro e w12 ⟨rfl, rfl⟩
  go_wp2_with fail
  refine (CK w11).mono ?_
  rintro e w12 ⟨rfl, hb12⟩
  have HB12 := Lib.hid (bthen HB11.out hb12)
  clear hb12
  go_wp2_with fail
  go_ret
  exact ⟨rfl, HB12.out⟩
end Go.Proofs.Ytgokaoajpidhnaa
