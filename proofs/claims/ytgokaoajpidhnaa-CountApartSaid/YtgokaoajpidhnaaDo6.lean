/- The law's acts, walked: both areas go on alike. -/
import Derived.Test.YtgokaoajpidhnaaKnown6
import Derived.StillTailTactics
import Derived.Test.YtgokaoajpidhnaaRef6b
namespace Go.Proofs.Ytgokaoajpidhnaa
open Go.RowKit
set_option linter.unusedVariables false

/-- Both areas, of the same numbers, in blocks of their own. -/
structure Two (w : World) (p r : Nat) (A : M) (F G : List Nat) : Prop where
  a : IA w p A F
  r : RA w r A G
  d : ∀ k ∈ F, k ∉ G
  ok : A.Ok
theorem RA.below {w w' : World} {p : Nat} {A : M} {F : List Nat} (h : RA w p A F) (hb : Below w.heap.size w w') : RA w' p A F := h.same fun k hk => hb.block k (h.lt k hk)
theorem Two.below {w w' : World} {p r : Nat} {A : M} {F G : List Nat} (h : Two w p r A F G) (hb : Below w.heap.size w w') : Two w' p r A F G := ⟨IA.below h.a hb, RA.below h.r hb, h.d, h.ok⟩
/-- What an act leaves. -/
def TwoP (p r : Nat) (F G : List Nat) (w w' : World) : Prop := ∃ A' F' G', Two w' p r A' F' G' ∧ Left (F ++ G) w w' (F' ++ G')
theorem Left.apart {F F' G : List Nat} {w w' : World} (h : Left F w w' F') (d : ∀ k ∈ F, k ∉ G) (lt : ∀ k ∈ G, k < w.heap.size) : SameAt G w w' ∧ ∀ k ∈ F', k ∉ G := by
  refine ⟨h.1.same fun k hk => ⟨lt k hk, fun h2 => d k h2 hk⟩, fun k hk hg => ?_⟩
  rcases h.2 k hk with h1 | h1
  · exact d k h1 hg
  · have := lt k hg; omega
theorem Left.wide {F F' G : List Nat} {w w' : World} (h : Left F w w' F') : Left (F ++ G) w w' (F' ++ G) :=
  ⟨h.1.mono fun k hk => by simp [hk], fun k hk => by
    rcases List.mem_append.1 hk with h1 | h1
    · rcases h.2 k h1 with h2 | h2
      · exact .inl (by simp [h2])
      · exact .inr h2
    · exact .inl (by simp [h1])⟩
theorem Left.wider {F G G' : List Nat} {w w' : World} (h : Left G w w' G') : Left (F ++ G) w w' (F ++ G') :=
  ⟨h.1.mono fun k hk => by simp [hk], fun k hk => by
    rcases List.mem_append.1 hk with h1 | h1
    · exact .inl (by simp [h1])
    · rcases h.2 k h1 with h2 | h2
      · exact .inl (by simp [h2])
      · exact .inr h2⟩
theorem Left.cell {F F' : List Nat} {w w' : World} (h : Left F w w' F') {p : Addr} (hp : p.block < w.heap.size) (hn : p.block ∉ F) : w'.cell? p = w.cell? p := World.cell?_of_block (h.1.block _ hp hn)
theorem Left.of_below {F : List Nat} {w w' : World} (h : Below w.heap.size w w') : Left F w w' F := ⟨Mods.of_below h, fun k hk => .inl hk⟩
/-- The area has gone on: the reference's is as it was. -/
theorem Two.one {w w1 : World} {p r : Nat} {A A' : M} {F F' G : List Nat} (h : Two w p r A F G) (ha : IA w1 p A' F') (l : Left F w w1 F') : RA w1 r A G ∧ ∀ k ∈ F', k ∉ G := by
  have q := l.apart h.d h.r.lt
  exact ⟨h.r.same q.1, q.2⟩
/-- Then the reference's goes on. -/
theorem Two.two {w w1 w2 : World} {p r : Nat} {A A' : M} {F F' G G' : List Nat} (h : Two w p r A F G) (ha : IA w1 p A' F') (l : Left F w w1 F') (hr : RA w2 r A' G') (m : Left G w1 w2 G') (ok : A'.Ok) : TwoP p r F G w w2 := by
  have q := h.one ha l
  have q2 := m.apart (G := F') (fun k hk hf => q.2 k hf hk) ha.lt
  exact ⟨A', F', G', ⟨ha.same q2.1, hr, fun k hk hg => q2.2 k hg hk, ok⟩, l.wide.trans m.wider⟩
theorem TwoP.pre {p r : Nat} {F G : List Nat} {w w0 w' : World} (hb : Below w.heap.size w w0) (h : TwoP p r F G w0 w') : TwoP p r F G w w' := by
  obtain ⟨A', F', G', h1, h2⟩ := h
  exact ⟨A', F', G', h1, (Left.of_below hb).trans h2⟩
theorem TwoP.same {p r : Nat} {F G : List Nat} {w w' : World} {A : M} (h : Two w p r A F G) (hb : Below w.heap.size w w') : TwoP p r F G w w' := ⟨A, F, G, h.below hb, Left.of_below hb⟩

theorem allocM_ok {A : M} {i : Nat} (ok : A.Ok) (h : i < A.now.length) : (allocM A i).Ok := by
  refine ⟨by simpa [allocM] using ok.pos, by simpa [allocM] using ok.max, by simpa [allocM] using ok.len, ?_, by simpa [allocM] using ok.kept, ?_, ok.was⟩
  · simp only [allocM, List.length_set]; exact Nat.mod_lt _ ok.pos
  · intro k hk
    rcases List.mem_or_eq_of_mem_set hk with h1 | h1
    · exact ok.now k h1
    · omega
theorem set_ok {A : M} {i k : Nat} (ok : A.Ok) (h : i < A.now.length) (hk : k < 65536) : M.Ok { A with now := A.now.set i k } := by
  refine ⟨by simpa using ok.pos, by simpa using ok.max, by simpa using ok.len, by simpa using ok.at_, by simpa using ok.kept, ?_, ok.was⟩
  intro j hj
  rcases List.mem_or_eq_of_mem_set hj with h1 | h1
  · exact ok.now j h1
  · omega
theorem TwoP.post {p r : Nat} {F G : List Nat} {w w1 w' : World} (h : TwoP p r F G w w1) (hb : Below w1.heap.size w1 w') : TwoP p r F G w w' := by
  obtain ⟨A', F', G', h1, h2⟩ := h
  exact ⟨A', F', G', h1.below hb, h2.trans (Left.of_below hb)⟩
theorem findF_lt {A : M} (hp : 0 < A.now.length) : ∀ f k i, findF A f k = some i → i < A.now.length := by
  intro f
  induction f with
  | zero => intro k i h; simp [findF] at h
  | succ f ih =>
    intro k i h
    rw [findF] at h
    split at h
    · obtain rfl := Option.some.inj h; exact nth_lt hp k
    · exact ih _ _ h

theorem rclone_fits {w w1 : World} {p g1 g2 n1 c1 n2 c2 n : Nat} {A : M} {xs : List Nat} {v : Value} (h : RAt w p g1 g2 n1 c1 n2 c2 A) (ho : w1.ownsRow w.heap.size 3 1 v n (kV .i64 xs)) (hb : Below w.heap.size w w1) (hn : 0 < n) :
    RAt w1 p g1 g2 n1 c1 n2 c2 A ∧ ∃ g cap, v = .slice (some ⟨g, 0, none⟩) n cap ∧ p ≠ g ∧ g1 ≠ g ∧ g2 ≠ g ∧ w.heap.size ≤ g ∧ Row 3 .i64 w1 g n cap xs := by
  refine ⟨h.below hb, ?_⟩
  have hv : v ≠ .slice none 0 0 := by
    rintro rfl
    rcases ho.2 with ⟨_, h0⟩ | ⟨g, cap, cur, hv, _⟩
    · omega
    · cases hv
  obtain ⟨g, cap, rfl, hge, hr⟩ := Row.of_own ho hv
  have := h.lt
  have := h.r1.lt
  have := h.r2.lt
  exact ⟨g, cap, rfl, by omega, by omega, by omega, hge, hr⟩

theorem rcommit_left {w w1 : World} {p g1 g2 c1 c2 g cap : Nat} {A : M} (h : RAt w1 p g1 g2 A.now.length c1 A.was.length c2 A) (hb : Below w.heap.size w w1) (hr : Row 3 .i64 w1 g A.now.length cap A.now) (hp : p ≠ g) (h1 : g1 ≠ g) (hge : w.heap.size ≤ g) :
    ∃ F', RA ((w1.setCell ⟨p, 1, none⟩ (.slice (some ⟨g, 0, none⟩) A.now.length cap)).setCell ⟨p, 3, none⟩ (.int .i64 (A.at_ : Int))) p { A with was := A.now, kept := A.at_ } F' ∧
      Left [p, g1, g2] w ((w1.setCell ⟨p, 1, none⟩ (.slice (some ⟨g, 0, none⟩) A.now.length cap)).setCell ⟨p, 3, none⟩ (.int .i64 (A.at_ : Int))) F' := by
  refine ⟨[p, g1, g], ⟨g1, g, c1, cap, rfl, (h.putWas hr h1 hp).setKept A.at_⟩, ((Mods.of_below hb).setCell (by simp) _).setCell (by simp) _, fun k hk => ?_⟩
  simp only [List.mem_cons, List.not_mem_nil, or_false] at hk ⊢
  rcases hk with rfl | rfl | rfl
  · exact .inl (.inl rfl)
  · exact .inl (.inr (.inl rfl))
  · exact .inr hge
theorem rabort_left {w w1 : World} {p g1 g2 c1 c2 g cap : Nat} {A : M} (h : RAt w1 p g1 g2 A.now.length c1 A.was.length c2 A) (hb : Below w.heap.size w w1) (hr : Row 3 .i64 w1 g A.was.length cap A.was) (hp : p ≠ g) (h2 : g2 ≠ g) (hge : w.heap.size ≤ g) :
    ∃ F', RA ((w1.setCell ⟨p, 0, none⟩ (.slice (some ⟨g, 0, none⟩) A.was.length cap)).setCell ⟨p, 2, none⟩ (.int .i64 (A.kept : Int))) p { A with now := A.was, at_ := A.kept } F' ∧
      Left [p, g1, g2] w ((w1.setCell ⟨p, 0, none⟩ (.slice (some ⟨g, 0, none⟩) A.was.length cap)).setCell ⟨p, 2, none⟩ (.int .i64 (A.kept : Int))) F' := by
  refine ⟨[p, g, g2], ⟨g, g2, cap, c2, rfl, (h.putNow hr (Ne.symm h2) hp).setAt A.kept⟩, ((Mods.of_below hb).setCell (by simp) _).setCell (by simp) _, fun k hk => ?_⟩
  simp only [List.mem_cons, List.not_mem_nil, or_false] at hk ⊢
  rcases hk with rfl | rfl | rfl
  · exact .inl (.inl rfl)
  · exact .inr hge
  · exact .inl (.inr (.inr rfl))


/-- The act's own box. -/
def boxed (w : World) (k n : Int) : World := w.alloc (.cells #[.int .i64 k, .int .i64 n] 58)
theorem boxed_below (w : World) (k n : Int) : Below w.heap.size w (boxed w k n) := balloc (Below.refl _ w) _
theorem boxed_k (w : World) (k n : Int) : (boxed w k n).cell? ⟨w.heap.size, 0, none⟩ = some (.int .i64 k) ∧ (boxed w k n).cell? ⟨w.heap.size, 1, none⟩ = some (.int .i64 n) := by
  have hh := heap_alloc_new w (.cells #[.int .i64 k, .int .i64 n] 58)
  exact ⟨cellOf hh 0 rfl, cellOf hh 1 rfl⟩

end Go.Proofs.Ytgokaoajpidhnaa
