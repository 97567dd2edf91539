/- Copy of a message, walked. -/
import Derived.Test.YtgkelbdgdhkeoaaGreatPMsg12
import Derived.Deep.RegionHeld3
import Derived.Test.YtgkelbdgdhkeoaaGreatPWA
import Derived.Test.YtgkelbdgdhkeoaaGreatPCR
namespace Go.Proofs.YtgkelbdgdhkeoaaGreat
open Go.RowKit
set_option linter.unusedVariables false
set_option linter.unusedSimpArgs false
open Wire Cmd
theorem resM {w : World} {fn : Func} {p : Tmp} (h : fn.results = #[.cell p 80]) (tmps : Array Value) (B : Nat) (CS : List Value) (hp : tmps.getD p undef = .pointer (some ⟨B, 0, none⟩)) (hl : CS.length = 290) (ht : w.there B 0 290) :
  (results fn tmps).run Tryz.prog (w.setCells B 0 CS) = .ok (.agg CS.toArray) (w.setCells B 0 CS) :=
 results_cell_mid h tmps _ B 0 CS _ hp (World.rangeAt_setCells_same w _ _ _ (by rw [hl]; exact ht)) Tryz.underlying80 rfl (by rw [hl]; exact infoMs)
theorem zeroM : Tryz.zeroCells80.size = 290 := by kernel_rfl
theorem heap_twoM (w : World) (A B : Array Value) : ((w.alloc (.cells A 80)).alloc (.cells B 80)).heap[w.heap.size + 1]? = some (.cells B 80 (0, 0)) := by
 have h := heap_alloc_new (w.alloc (.cells A 80)) (.cells B 80)
 rw [World.size_alloc] at h
 exact h
theorem own_setCells {W : World} {b o : Nat} {vs : List Value} {base n : Nat} {sl : Value} {xs : List Value} (ho : W.ownsRow base 5 1 sl n xs) (hb : b < base) : (W.setCells b o vs).ownsRow base 5 1 sl n xs :=
 ownsRow_at ho (fun j hj => heapSetC _ _ _ _ _ (fun e => by have := ownsRow_ge ho j hj; omega))
theorem there_mid {w : World} {b o n N : Nat} {cs : Array Value} {t : TypeId} (h : w.heap[b]? = some (.cells cs t (0, 0))) (hn : cs.size = N) (ho : o + n ≤ N) : w.there b o n := fun j hj => by
 refine ⟨?_, frozenOf h (o + j)⟩
 rw [cell_of_row w b (o + j) _ _ _ h, Array.getElem?_eq_getElem (by omega)]; rfl
end Go.Proofs.YtgkelbdgdhkeoaaGreat
