import Derived.Test.YthkmihedkddnmaaGreatProg
import Derived.Deep.RegionHeld3
import Derived.Deep.QuietTactic
import Derived.Test.YthkmihedkddnmaaGreatUG1
import Derived.Lib.Hide
set_option linter.unusedVariables false
set_option linter.unusedSimpArgs false
namespace Go.Proofs.YthkmihedkddnmaaGreat
open Go
theorem hLT {α:Type} {xs:Array α} {i:Nat} {a:α} (h:xs[i]? = some a):i<xs.size:=(Array.getElem?_eq_some_iff.1 h).1
theorem gE1 {α:Type _} {xs:List α} {i:Nat} (h:i<xs.toArray.size):xs.toArray[i]=xs[i]'h:=rfl
theorem gE2 {α:Type _} (x:α) (l:List α) (h:0<(x :: l).length):(x :: l)[0]=x:=rfl
theorem gE3 {α:Type _} (x:α) (l:List α) (i:Nat) (h:i+1<(x :: l).length):(x :: l)[i+1]=l[i]'(Nat.lt_of_succ_lt_succ h):=rfl
theorem pE1 {α:Type _} (l:List α) (i:Nat) (x:α):l.toArray.setIfInBounds i x=(l.set i x).toArray:=List.setIfInBounds_toArray l i x
theorem pE2 {α:Type _} {x:α} {l:List α} {y:α}:(x :: l).set 0 y=y :: l:=rfl
theorem pE3 {α:Type _} {x:α} {l:List α} {i:Nat} {y:α}:(x :: l).set (i+1) y=x :: l.set i y:=rfl
section
variable {P:Program} {ops:Array Oper} {Q:Exit→Act→World→Prop} {md:Region.Mode} {S:World→Prop} {oi:Oper} {v:Value} {fuel:Nat} {listed:Array Bool} {a:Act} {w:World}
theorem tkA (i:Nat) {A2:Act} {L2:Array Bool} (hi:ops[i]? = some oi) (h:wpAnyH P md ops Q S fuel L2 A2 w)
  (hw:Region.wanted oi (yielded ops a.tmps)=true:=by rfl) (hs:Region.noSelect ops=true:=by kernel_rfl) (hf:Region.free md ops listed i=true:=by kernel_rfl) (hr:(Region.ready md ops listed).contains i=true:=by kernel_rfl)
  (hQ:∀ c a w,Q (.panic c) (a.put oi.dst v) w→Q (.panic c) a w:=by first | exact fun _ _ _ h=>h | exact fun _ _ _ h=>(by cases h.1))
  (hy:∀ w,S w→(execOp a.eval oi).run P w = .ok (.value v) w:=by (intro w hSw;(try dsimp only at hSw);simp only [gE1,gE2,gE3];go_simp;first | done | with_reducible rfl))
  (hA:a.put oi.dst v=A2:=by (simp only [gE1,gE2,gE3,Act.put,pE1,pE2,pE3];first | done | with_reducible rfl)) (hL:listed.setIfInBounds i true=L2:=by first | (simp only [pE1,pE2,pE3];first | done | with_reducible rfl) | exact rfl)
  (hS:S w:=by assumption):wpAnyH P md ops Q S (fuel+1) listed a w:=by
 subst hA hL;exact wpAnyH_take hi hs hf hr hQ (.inl ⟨hw,hy⟩) hS h
theorem tkB (i:Nat) (v:Value) {A2:Act} {L2:Array Bool} (hi:ops[i]? = some oi) (hy:∀ w,S w→(execOp a.eval oi).run P w = .ok (.value v) w) (h:wpAnyH P md ops Q S fuel L2 A2 w)
  (hw:Region.wanted oi (yielded ops a.tmps)=true:=by rfl) (hs:Region.noSelect ops=true:=by kernel_rfl) (hf:Region.free md ops listed i=true:=by kernel_rfl) (hr:(Region.ready md ops listed).contains i=true:=by kernel_rfl)
  (hQ:∀ c a w,Q (.panic c) (a.put oi.dst v) w→Q (.panic c) a w:=by first | exact fun _ _ _ h=>h | exact fun _ _ _ h=>(by cases h.1))
  (hA:a.put oi.dst v=A2:=by (simp only [gE1,gE2,gE3,Act.put,pE1,pE2,pE3];first | done | with_reducible rfl)) (hL:listed.setIfInBounds i true=L2:=by first | (simp only [pE1,pE2,pE3];first | done | with_reducible rfl) | exact rfl)
  (hS:S w:=by assumption):wpAnyH P md ops Q S (fuel+1) listed a w:=by
 subst hA hL;exact wpAnyH_take hi hs hf hr hQ (.inl ⟨hw,hy⟩) hS h
theorem rd1 (i:Nat) (ho:ops[i]? = some oi)
  (h:∀ K':Act→World→Prop,Shut (∀ a w,S w→(S w→wpAnyH P md ops Q S fuel (listed.setIfInBounds i true) a w)→K' a w)→if Region.wanted oi (yielded ops a.tmps)=true then Oper.wp P oi a w K' Q else K' (a.put oi.dst undef) w)
  (hr:Region.ready md ops listed=[i]:=by kernel_rfl):wpAnyH P md ops Q S (fuel+1) listed a w :=
 wpAnyH_ready hr (by simp) (.cons ho h .nil)
theorem rd2 (i j:Nat) {oj:Oper} (ho:ops[i]? = some oi) (hj:ops[j]? = some oj)
  (h:∀ K':Act→World→Prop,Shut (∀ a w,S w→(S w→wpAnyH P md ops Q S fuel (listed.setIfInBounds i true) a w)→K' a w)→if Region.wanted oi (yielded ops a.tmps)=true then Oper.wp P oi a w K' Q else K' (a.put oi.dst undef) w)
  (h2:∀ K':Act→World→Prop,Shut (∀ a w,S w→(S w→wpAnyH P md ops Q S fuel (listed.setIfInBounds j true) a w)→K' a w)→if Region.wanted oj (yielded ops a.tmps)=true then Oper.wp P oj a w K' Q else K' (a.put oj.dst undef) w)
  (hr:Region.ready md ops listed=[i,j]:=by kernel_rfl):wpAnyH P md ops Q S (fuel+1) listed a w :=
 wpAnyH_ready hr (by simp) (.cons ho h (.cons hj h2 .nil))
end
end Go.Proofs.YthkmihedkddnmaaGreat
namespace Go.Proofs.YthkmihedkddnmaaGreat
open Lib (hid)
open Go.RowKit
section
variable {W Y w2:World} {b j:Nat} {t:TypeId} {x0 x1 x2:Value}
theorem bx2 (h:W.heap[b]? = some (.cells #[x0,x1] t (0,0))):W.cell? ⟨b,0,none⟩=some x0∧W.frozen? ⟨b,0,none⟩=false∧W.cell? ⟨b,1,none⟩=some x1∧W.frozen? ⟨b,1,none⟩=false:=⟨cellOf h 0 rfl,frozenOf h 0,cellOf h 1 rfl,frozenOf h 1⟩
theorem bx3 (h:W.heap[b]? = some (.cells #[x0,x1,x2] t (0,0))):W.cell? ⟨b,0,none⟩=some x0∧W.frozen? ⟨b,0,none⟩=false∧W.cell? ⟨b,1,none⟩=some x1∧W.frozen? ⟨b,1,none⟩=false∧W.cell? ⟨b,2,none⟩=some x2∧W.frozen? ⟨b,2,none⟩=false:=⟨cellOf h 0 rfl,frozenOf h 0,cellOf h 1 rfl,frozenOf h 1,cellOf h 2 rfl,frozenOf h 2⟩
theorem st2 (h:W.heap[b]? = some (.cells #[x0,x1] t (0,0))) (v0 v1:Value):∃ y,(W.setCell ⟨b,0,none⟩ v0).setCell ⟨b,1,none⟩ v1=y∧Mods [b] W y∧y.heap[b]? = some (.cells #[v0,v1] t (0,0)) :=
 ⟨_,rfl,((Mods.refl [b] W).setCell (p:=⟨b,0,none⟩) (by simp) _).setCell (p:=⟨b,1,none⟩) (by simp) _,by simpa using setOf (setOf h 0 v0) 1 v1⟩
theorem st3 (h:W.heap[b]? = some (.cells #[x0,x1,x2] t (0,0))) (v0 v1 v2:Value):∃ y,((W.setCell ⟨b,0,none⟩ v0).setCell ⟨b,1,none⟩ v1).setCell ⟨b,2,none⟩ v2=y∧Mods [b] W y∧y.heap[b]? = some (.cells #[v0,v1,v2] t (0,0)) :=
 ⟨_,rfl,(((Mods.refl [b] W).setCell (p:=⟨b,0,none⟩) (by simp) _).setCell (p:=⟨b,1,none⟩) (by simp) _).setCell (p:=⟨b,2,none⟩) (by simp) _,by simpa using setOf (setOf (setOf h 0 v0) 1 v1) 2 v2⟩
theorem al (W:World) (o:Obj):∃ b y,W.heap.size=b∧W.alloc o=y∧Below W.heap.size W y∧Hid (y.heap[b]? = some o):=⟨_,_,rfl,rfl,balloc (Below.refl _ _) _,hid (heap_alloc_new _ _)⟩
theorem bM (h:Below w2.heap.size w2 W) (hm:Mods [b] W Y) (hg:w2.heap.size≤b):Below w2.heap.size w2 Y:=h.trans (hm.below (fun k hk=>by have e:=List.mem_singleton.1 hk;omega) h.size)
theorem nMa {o:Obj} (hm:Mods [b] W Y) (h:W.heap[j]? = some o) (hne:b≠j):Y.heap[j]? = some o:=(hm.block j (hLT h) (fun e=>hne (List.mem_singleton.1 e).symm)).trans h
theorem nMb {o:Obj} (hm:Mods [b] W Y) (h:W.heap[j]? = some o) (hne:j≠b):Y.heap[j]? = some o:=(hm.block j (hLT h) (fun e=>hne (List.mem_singleton.1 e))).trans h
theorem nX {o:Obj} (hx:Below W.heap.size W Y) (h:W.heap[j]? = some o):Y.heap[j]? = some o:=(hx.block j (hLT h)).trans h
end
end Go.Proofs.YthkmihedkddnmaaGreat
