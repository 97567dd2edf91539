import Derived.Test.YthkmihedkddnmaaGreatUG2
import Derived.Test.YthkmihedkddnmaaGreatUG4
import Derived.Test.YthkmihedkddnmaaGreatUG3
import Derived.Test.YthkmihedkddnmaaGreatUG5
import Derived.Lib.SmallJoins
import Derived.Test.YthkmihedkddnmaaGreatUG0
import Derived.Test.YthkmihedkddnmaaGreatUG1
import Derived.Deep.Slices
import Derived.OpenShut
import Derived.Shelf.SortM.Plain
import Derived.Sort.WalkA
import Derived.Sort.WalkB3
import Derived.Sort.WalkB12
set_option linter.unusedVariables false
set_option linter.unusedSimpArgs false
set_option maxHeartbeats 1600000
set_option maxRecDepth 100000
namespace Go.Proofs.YthkmihedkddnmaaGreat
open Go.RowKit
open Wire Cmd
def RowA (B:Nat) (w W:World) (v:Value) (l:List V):Prop :=
 ∃ xs,W.ownsRow B 20 1 v l.length xs∧∀ (j:Nat) (x:V),l[j]? = some x→∃ u,xs[j]? = some u∧AnyV w u x
theorem RowA.below {B:Nat} {w W W':World} {v:Value} {l:List V} (h:RowA B w W v l) (hb:Below W.heap.size W W'):RowA B w W' v l:=by
 obtain ⟨xs,ho,hx⟩:=h;exact ⟨xs,ownsRow_below ho hb,hx⟩
theorem RowA.at {B:Nat} {w W W':World} {v:Value} {l:List V} (h:RowA B w W v l) (hs:∀ k∈ob v,W'.heap[k]? = W.heap[k]?):RowA B w W' v l:=by
 obtain ⟨xs,ho,hx⟩:=h;exact ⟨xs,ownsRow_at ho hs,hx⟩
theorem RowA.snoc {B:Nat} {w W':World} {v' u:Value} {l:List V} {x:V} {xs:List Value} (hx:∀ (j:Nat) (x:V),l[j]? = some x→∃ u,xs[j]? = some u∧AnyV w u x) (hn:xs.length=l.length)
  (ho:W'.ownsRow B 20 1 v' (l.length+1) (xs ++ [u])) (hu:AnyV w u x):RowA B w W' v' (l ++ [x]):=by
 refine ⟨xs ++ [u],by rw [List.length_append];exact ho,fun j y hj => ?_⟩
 rcases Nat.lt_trichotomy j l.length with h | h | h
 ·rw [List.getElem?_append_left h] at hj
  obtain ⟨z,h1,h2⟩:=hx j y hj;exact ⟨z,by rw [List.getElem?_append_left (by omega)];exact h1,h2⟩
 ·subst h
  have hy:x=y:=by simpa using hj
  subst hy;exact ⟨u,by rw [← hn];simp,hu⟩
 ·rw [List.getElem?_eq_none (by simp;omega)] at hj;cases hj
structure ShM (B K:Nat) (w:World) (o:Op0) (sl v:Value) (l:List V) (pos:Nat) (W:World):Prop where
 it:W.heap[K]? = some (.stringIter (strB (nm o.k)) pos)
 bx:W.heap[B]? = some (.cells (oC o sl) 40 (0,0))
 row:RowA (B+1) w W v l
 ap:∀ j∈ob v,j≠K
 below:Below B w W
 kb:B+1<K
theorem ShM.next {B K:Nat} {w:World} {o:Op0} {sl v:Value} {l:List V} {pos p':Nat} {W:World} (h:ShM B K w o sl v l pos W):ShM B K w o sl v l p' (W.iterAt K (strB (nm o.k)) p') :=
 ⟨Lib.iterAt_heap W K _ pos p' h.it,(Lib.iterAt_other _ _ _ _ _ (by have:=h.kb;omega)).trans h.bx,h.row.at (fun k hk=>Lib.iterAt_other _ _ _ _ _ (h.ap k hk)),h.ap,Lib.below_iterAt h.below (by have:=h.kb;omega) _ _,h.kb⟩
theorem ShM.grown {B K:Nat} {w:World} {o:Op0} {sl v v' u:Value} {l:List V} {x:V} {xs:List Value} {pos:Nat} {W W':World} (h:ShM B K w o sl v l pos W)
  (hx:∀ (j:Nat) (x:V),l[j]? = some x→∃ u,xs[j]? = some u∧AnyV w u x) (hn:xs.length=l.length) (ho1:W.ownsRow (B+1) 20 1 v l.length xs)
  (ho:W'.ownsRow (B+1) 20 1 v' (l.length+1) (xs ++ [u])) (hu:AnyV w u x) (hb:Below (B+1) W W') (hg:W.grownBy W' v.ownBlock) (hs:SameOrNew W v v'):ShM B K w o sl v' (l ++ [x]) pos W':=by
 have hk:=(hLT h.it)
 have hkb:=h.kb;refine ⟨(hg.block K hk (fun e=>h.ap K (by unfold ob;rw [Option.mem_toList];exact e.symm) rfl)).trans h.it,(hb.block B (by omega)).trans h.bx,RowA.snoc hx hn ho hu,fun j hj => ?_,h.below.trans (hb.mono (by omega)),hkb⟩
 rcases (Chg.of_grown hg hs).2 j hj with h1 | h1
 ·exact h.ap j h1
 ·omega
end Go.Proofs.YthkmihedkddnmaaGreat
namespace Go.Proofs.YthkmihedkddnmaaGreat
open Go.RowKit
open Wire Cmd
theorem AnyV.one {w:World} {u:Value} {x:V} (h:AnyV w u x):u.oneCell'=true:=by
 rcases h with ⟨_,rfl,_⟩ | ⟨_,rfl⟩ | ⟨_,sl,rfl,_⟩ | ⟨_,rfl,_⟩ | ⟨_,_,_,_,h⟩
 ·rfl
 ·rfl
 ·rfl
 ·rfl
 ·rcases h with ⟨n,rfl⟩ | rfl <;> rfl
end Go.Proofs.YthkmihedkddnmaaGreat
namespace Go.Proofs.YthkmihedkddnmaaGreat
open Go.RowKit
open Wire Cmd
end Go.Proofs.YthkmihedkddnmaaGreat
namespace Go.Proofs.YthkmihedkddnmaaGreat
open Go.RowKit
open Wire Cmd
end Go.Proofs.YthkmihedkddnmaaGreat
namespace Go.Proofs.YthkmihedkddnmaaGreat
open Go.RowKit
open Wire Cmd
end Go.Proofs.YthkmihedkddnmaaGreat
namespace Go.Proofs.YthkmihedkddnmaaGreat
open Go.RowKit
open Wire Cmd
end Go.Proofs.YthkmihedkddnmaaGreat
namespace Go.Proofs.YthkmihedkddnmaaGreat
open Go.RowKit
end Go.Proofs.YthkmihedkddnmaaGreat
namespace Go.Proofs.YthkmihedkddnmaaGreat
open Go.RowKit
open Wire Cmd
end Go.Proofs.YthkmihedkddnmaaGreat
namespace Go.Proofs.YthkmihedkddnmaaGreat
open Go.RowKit
open Wire Cmd
namespace Cmd
structure Ans0 where
 code:Int
 done:Int
 data:List UInt8
deriving DecidableEq
def ansEq (a b:Ans0):Bool:=decide (a=b)
structure Ans0.Ok (a:Ans0):Prop where
 code : -9223372036854775808≤a.code∧a.code≤9223372036854775807
 done : -9223372036854775808≤a.done∧a.done≤9223372036854775807
def MayA (a:Ans0):Prop:=0≤a.code∧a.code≤14∧0≤a.done∧a.done≤1024∧(a.done=0∨a.code=8)∧a.data.length % 64=0∧a.data.length≤65536∧(a.code=0∨a.data.length=0)
instance (a:Ans0):Decidable (MayA a):=by unfold MayA;infer_instance
def mayA (a:Ans0):Bool:=decide (MayA a)
def packA (a:Ans0):Option (List UInt8):=if mayA a then pack [49,52,42] [num (toU a.code),num (toU a.done),blob a.data] else none
end Cmd
end Go.Proofs.YthkmihedkddnmaaGreat
namespace Go.Proofs.YthkmihedkddnmaaGreat
open Go.RowKit
open Wire Cmd
def aC (a:Ans0) (sl:Value):Array Value:=#[.int .i64 a.code,.int .i64 a.done,sl]
end Go.Proofs.YthkmihedkddnmaaGreat
namespace Go.Proofs.YthkmihedkddnmaaGreat
open Go.RowKit
open Wire Cmd
end Go.Proofs.YthkmihedkddnmaaGreat
namespace Go.Proofs.YthkmihedkddnmaaGreat
open Go.RowKit
open Wire Cmd
end Go.Proofs.YthkmihedkddnmaaGreat
namespace Go.Proofs.YthkmihedkddnmaaGreat
open Go.RowKit
open Wire Cmd
end Go.Proofs.YthkmihedkddnmaaGreat
namespace Go.Proofs.YthkmihedkddnmaaGreat
open Wire Cmd
namespace Cmd
def getL (o:Op0) (c:UInt8) (v:V):Op0 :=
 if c=118 then { o with vol:=v.n } else if c=116 then ⟨o.k,o.vol,v.n,o.size,o.pl,o.count,o.data⟩ else if c=115 then { o with size:=(v.n:Int) }
 else if c=97 then { o with pl:=(v.n:Int) } else if c=99 then { o with count:=(v.n:Int) } else { o with data:=v.b }
def getAll:Op0→List UInt8→List V→Op0
 | o,c :: cs,v :: vs=>getAll (getL o c v) cs vs
 | o,_,_=>o
def kind0 (k:UInt8):Op0:=⟨(k.toNat:Int),0,0,0,0,0,[]⟩
def ofO:List UInt8→Option Op0
 | []=>none
 | k :: r=>(unpack (shS (nm (k.toNat:Int))) r).bind fun p =>
  if p.2=r.length then (if mayO (getAll (kind0 k) (nm (k.toNat:Int)) p.1) then some (getAll (kind0 k) (nm (k.toNat:Int)) p.1) else none) else none
def ansV:List V→Option Ans0
 | [x,y,z]=>if mayA ⟨(x.n:Int),(y.n:Int),z.b⟩ then some ⟨(x.n:Int),(y.n:Int),z.b⟩ else none
 | _=>none
def ofA (b:List UInt8):Option Ans0:=(unpack [49,52,42] b).bind fun p=>if p.2=b.length then ansV p.1 else none
end Cmd
def six (c:UInt8):Prop:=c=118∨c=116∨c=115∨c=97∨c=99∨c=100
def ValOf (c:UInt8) (v:V):Prop:=(shL (c.toNat:Int)=52∧v=num v.n∧v.n<4294967296)∨(shL (c.toNat:Int)=42∧v=blob v.b)
inductive VTs:List UInt8→List V→Prop
 | nil:VTs [] []
 | cons {c:UInt8} {cs:List UInt8} {v:V} {vs:List V}:ValOf c v→VTs cs vs→VTs (c :: cs) (v :: vs)
end Go.Proofs.YthkmihedkddnmaaGreat
namespace Go.Proofs.YthkmihedkddnmaaGreat
open Go.ChangeShapes Go.WideShapes Go.ChangeAt Go.RowKit
theorem open_bytes {H:Type} {enc:TypeId × Value→H} {w:World} {base b0:Nat} {held:Bool} {v:Value} {d:DataW H} {p:List MemPlace}
  (hv:Value.okWide Tryz.prog w .any b0 33 v) (h:DataW.Trod enc Tryz.prog w base (fun _=>true) held 33 v d p):∃ n bs,Rd w 1 v n (bV bs):=by
 obtain ⟨a0,len,cap,rfl⟩:=okWide_slice Tryz.underlying33 hv;obtain ⟨fuel,hf⟩:=h
 rcases open_ints Tryz.underlying33 Tryz.underlying5 (by kernel_rfl) hf with ⟨hcs,_⟩ | ⟨x,l,c,zs,hcs,_,hl,hm,hz,_,hcell,hwz⟩
 ·simp [Value.cells] at hcs
  obtain ⟨rfl,rfl,rfl⟩:=hcs;exact ⟨0,[],none,0,rfl,by simp [bV],by simp,⟨fun _=>rfl,by simp,by simp⟩,fun j u hj=>by simp [bV] at hj⟩
 ·simp [Value.cells] at hcs
  obtain ⟨rfl,rfl,rfl⟩:=hcs
  replace hz:zs.length=cap:=by simpa using hz
  refine ⟨len,(zs.take len).map fun z=>UInt8.ofNat z.toNat,some x,cap,rfl,?_,by omega,⟨(fun h=>by cases h),hl,hm⟩,fun j u hj => ?_⟩
  ·rw [bV_len,List.length_map,List.length_take];omega
  ·have hjl:j<len:=by
    have:=(List.getElem?_eq_some_iff.1 hj).1;rw [bV_len,List.length_map,List.length_take] at this;omega
   obtain ⟨b,off,spot⟩:=x;have hc:=hcell j (by omega);have hspot:spot=none:=by
    have h0:=hcell 0 (by omega)
    simpa [Addr.add] using World.cell?_spot h0
   subst hspot;rw [Addr.add_lit] at hc;refine ⟨b,off,rfl,World.block_lt_of_cell? w _ hc,?_⟩;rw [hc];have hzj:zs[j]? = some zs[j]:=List.getElem?_eq_getElem (by omega);have hw:=hwz zs[j] (List.getElem_mem _);have hr:0≤zs[j]∧zs[j]≤255:=by simpa [Lit.wf,IntKind.min,IntKind.max,IntKind.signed,IntKind.bits] using hw
   simp only [bV,List.getElem?_map,List.getElem?_take,hjl,if_true,hzj,Option.map_some] at hj;rw [← hj];simp only [List.getD_eq_getElem?_getD,hzj,Option.getD_some,Option.some.injEq,Value.int.injEq,true_and]
   simp
   omega
end Go.Proofs.YthkmihedkddnmaaGreat
namespace Go.Proofs.YthkmihedkddnmaaGreat
open Go.ChangeShapes Go.WideShapes Go.ChangeAt Go.RowKit Go.Deep
open Wire
def byteOf:Value→UInt8
 | .int _ n=>UInt8.ofNat n.toNat
 | _=>0
section
variable {H:Type} {enc:TypeId × Value→H} {w:World} {base:Nat} {held:Bool}
end
end Go.Proofs.YthkmihedkddnmaaGreat
namespace Go.Proofs.YthkmihedkddnmaaGreat
open Go.ChangeShapes Go.WideShapes Go.ChangeAt Go.RowKit Go.Deep
open Wire Cmd
section
variable {H:Type} {enc:TypeId × Value→H} {w:World} {base:Nat} {held:Bool}
end
end Go.Proofs.YthkmihedkddnmaaGreat
namespace Go.Proofs.YthkmihedkddnmaaGreat
open Go.ChangeShapes Go.WideShapes Go.ChangeAt Go.RowKit Go.Deep
open Wire Cmd
section
variable {H:Type} {enc:TypeId × Value→H} {w:World} {base:Nat} {held:Bool}
end
end Go.Proofs.YthkmihedkddnmaaGreat
namespace Go.Proofs.YthkmihedkddnmaaGreat
open Go
section
variable {P:Program} {ops:Array Oper} {Q:Exit→Act→World→Prop} {md:Region.Mode} {S:World→Prop} {oi:Oper} {v:Value} {fuel:Nat} {listed:Array Bool} {a:Act} {w:World}
theorem tkP (i:Nat) {A2:Act} {L2:Array Bool} (hi:ops[i]? = some oi) (h:wpAnyH P md ops Q S fuel L2 A2 w)
  (hw:Region.wanted oi (yielded ops a.tmps)=true:=by rfl) (hs:Region.noSelect ops=true:=by kernel_rfl) (hf:Region.free md ops listed i=true:=by kernel_rfl) (hr:(Region.ready md ops listed).contains i=true:=by kernel_rfl)
  (hy:∀ w,S w→(execOp a.eval oi).run P w = .ok (.value v) w:=by (intro w hSw;(try dsimp only at hSw);simp only [gE1,gE2,gE3];go_simp;first | done | with_reducible rfl))
  (hQ:∀ c a w,Q (.panic c) (a.put oi.dst v) w→Q (.panic c) a w:=by exact fun _ _ _ h=>h)
  (hA:a.put oi.dst v=A2:=by (simp only [gE1,gE2,gE3,Act.put,pE1,pE2,pE3];first | done | with_reducible rfl)) (hL:listed.setIfInBounds i true=L2:=by first | (simp only [pE1,pE2,pE3];first | done | with_reducible rfl) | exact rfl)
  (hS:S w:=by assumption):wpAnyH P md ops Q S (fuel+1) listed a w:=by
 subst hA hL;exact wpAnyH_take hi hs hf hr hQ (.inl ⟨hw,hy⟩) hS h
theorem tkR (i:Nat) {A2:Act} {L2:Array Bool} (hi:ops[i]? = some oi) (h:wpAnyH P md ops Q S fuel L2 A2 w)
  (hw:Region.wanted oi (yielded ops a.tmps)=true:=by rfl) (hs:Region.noSelect ops=true:=by kernel_rfl) (hf:Region.free md ops listed i=true:=by kernel_rfl) (hr:(Region.ready md ops listed).contains i=true:=by kernel_rfl)
  (hy:∀ w,S w→(execOp a.eval oi).run P w = .ok (.value v) w:=by (intro w hSw;(try dsimp only at hSw);simp only [gE1,gE2,gE3];go_simp;first | done | with_reducible rfl))
  (hQ:∀ c a w,Q (.panic c) (a.put oi.dst v) w→Q (.panic c) a w:=by exact fun _ _ _ h=>(by cases h.1))
  (hA:a.put oi.dst v=A2:=by (simp only [gE1,gE2,gE3,Act.put,pE1,pE2,pE3];first | done | with_reducible rfl)) (hL:listed.setIfInBounds i true=L2:=by first | (simp only [pE1,pE2,pE3];first | done | with_reducible rfl) | exact rfl)
  (hS:S w:=by assumption):wpAnyH P md ops Q S (fuel+1) listed a w:=by
 subst hA hL;exact wpAnyH_take hi hs hf hr hQ (.inl ⟨hw,hy⟩) hS h
theorem tkQ (i:Nat) (v:Value) {A2:Act} {L2:Array Bool} (hi:ops[i]? = some oi) (hy:∀ w,S w→(execOp a.eval oi).run P w = .ok (.value v) w) (h:wpAnyH P md ops Q S fuel L2 A2 w)
  (hw:Region.wanted oi (yielded ops a.tmps)=true:=by rfl) (hs:Region.noSelect ops=true:=by kernel_rfl) (hf:Region.free md ops listed i=true:=by kernel_rfl) (hr:(Region.ready md ops listed).contains i=true:=by kernel_rfl)
  (hQ:∀ c a w,Q (.panic c) (a.put oi.dst v) w→Q (.panic c) a w:=by exact fun _ _ _ h=>h)
  (hA:a.put oi.dst v=A2:=by (simp only [gE1,gE2,gE3,Act.put,pE1,pE2,pE3];first | done | with_reducible rfl)) (hL:listed.setIfInBounds i true=L2:=by first | (simp only [pE1,pE2,pE3];first | done | with_reducible rfl) | exact rfl)
  (hS:S w:=by assumption):wpAnyH P md ops Q S (fuel+1) listed a w:=by
 subst hA hL;exact wpAnyH_take hi hs hf hr hQ (.inl ⟨hw,hy⟩) hS h
theorem tkS (i:Nat) (v:Value) {A2:Act} {L2:Array Bool} (hi:ops[i]? = some oi) (hy:∀ w,S w→(execOp a.eval oi).run P w = .ok (.value v) w) (h:wpAnyH P md ops Q S fuel L2 A2 w)
  (hw:Region.wanted oi (yielded ops a.tmps)=true:=by rfl) (hs:Region.noSelect ops=true:=by kernel_rfl) (hf:Region.free md ops listed i=true:=by kernel_rfl) (hr:(Region.ready md ops listed).contains i=true:=by kernel_rfl)
  (hQ:∀ c a w,Q (.panic c) (a.put oi.dst v) w→Q (.panic c) a w:=by exact fun _ _ _ h=>(by cases h.1))
  (hA:a.put oi.dst v=A2:=by (simp only [gE1,gE2,gE3,Act.put,pE1,pE2,pE3];first | done | with_reducible rfl)) (hL:listed.setIfInBounds i true=L2:=by first | (simp only [pE1,pE2,pE3];first | done | with_reducible rfl) | exact rfl)
  (hS:S w:=by assumption):wpAnyH P md ops Q S (fuel+1) listed a w:=by
 subst hA hL;exact wpAnyH_take hi hs hf hr hQ (.inl ⟨hw,hy⟩) hS h
theorem tkV (i:Nat) {A2:Act} {L2:Array Bool} (hi:ops[i]? = some oi) (h:wpAnyH P md ops Q S fuel L2 A2 w)
  (hw:Region.wanted oi (yielded ops a.tmps)=false:=by rfl) (hs:Region.noSelect ops=true:=by kernel_rfl) (hf:Region.free md ops listed i=true:=by kernel_rfl) (hr:(Region.ready md ops listed).contains i=true:=by kernel_rfl)
  (hQ:∀ c a w,Q (.panic c) (a.put oi.dst undef) w→Q (.panic c) a w:=by exact fun _ _ _ h=>(by cases h.1))
  (hA:a.put oi.dst undef=A2:=by (simp only [gE1,gE2,gE3,Act.put,pE1,pE2,pE3];first | done | with_reducible rfl)) (hL:listed.setIfInBounds i true=L2:=by first | (simp only [pE1,pE2,pE3];first | done | with_reducible rfl) | exact rfl)
  (hS:S w:=by assumption):wpAnyH P md ops Q S (fuel+1) listed a w:=by
 subst hA hL;exact wpAnyH_take hi hs hf hr hQ (.inr ⟨hw,rfl⟩) hS h
end
end Go.Proofs.YthkmihedkddnmaaGreat
namespace Go.Proofs.YthkmihedkddnmaaGreat
open Go.RowKit Go.Sort
def sortN_ren:Go.Shelf.Ren:=⟨fun | 8=>96 | 19=>122 | 20=>123 | 31=>140 | 32=>141 | _=>0,fun | 0=>0 | 3=>3 | 4=>4 | 5=>5 | 9=>9 | 32=>163 | 44=>189 | 46=>38 | 53=>201 | 63=>215 | _=>0,fun | n=>n⟩
theorem sortN31:Go.Proofs.SlLaysM.n31 Tryz.prog sortN_ren:={
 mixed:=by kernel_rfl
 f8:=Tryz.func96.trans (congrArg some (by kernel_rfl))
 f19:=Tryz.func122.trans (congrArg some (by kernel_rfl))
 f20:=Tryz.func123.trans (congrArg some (by kernel_rfl))
 f31:=Tryz.func140.trans (congrArg some (by kernel_rfl))
 t3:=Tryz.underlying3
 a3:=Tryz.isAgg3
 z3:=Tryz.sizeOf3
 v3:=Tryz.zeroValue3
 t4:=Tryz.underlying4
 a4:=Tryz.isAgg4
 z4:=Tryz.sizeOf4
 v4:=Tryz.zeroValue4
 t5:=Tryz.underlying5
 a5:=Tryz.isAgg5
 z5:=Tryz.sizeOf5
 v5:=Tryz.zeroValue5
 t9:=Tryz.underlying9
 a9:=Tryz.isAgg9
 z9:=Tryz.sizeOf9
 v9:=Tryz.zeroValue9
 t32:=Tryz.underlying163
 a32:=Tryz.isAgg163
 z32:=Tryz.sizeOf163
 v32:=Tryz.zeroValue163
 t44:=Tryz.underlying189
 a44:=Tryz.isAgg189
 z44:=Tryz.sizeOf189
 v44:=Tryz.zeroValue189
 t46:=Tryz.underlying38
 a46:=Tryz.isAgg38
 z46:=Tryz.sizeOf38
 v46:=Tryz.zeroValue38 }
theorem sortN32:Go.Proofs.SlLaysM.n32 Tryz.prog sortN_ren:={
 mixed:=by kernel_rfl
 f32:=Tryz.func141.trans (congrArg some (by kernel_rfl))
 t0:=Tryz.underlying0
 a0:=Tryz.isAgg0
 z0:=Tryz.sizeOf0
 v0:=Tryz.zeroValue0
 t32:=Tryz.underlying163
 a32:=Tryz.isAgg163
 z32:=Tryz.sizeOf163
 v32:=Tryz.zeroValue163
 t46:=Tryz.underlying38
 a46:=Tryz.isAgg38
 z46:=Tryz.sizeOf38
 v46:=Tryz.zeroValue38
 t53:=Tryz.underlying201
 a53:=Tryz.isAgg201
 z53:=Tryz.sizeOf201
 v53:=Tryz.zeroValue201
 t63:=Tryz.underlying215
 a63:=Tryz.isAgg215
 z63:=Tryz.sizeOf215
 v63:=Tryz.zeroValue215 }
theorem xnext (rb ro X:Nat) (hX:X<18446744073709551616) (w:World) (hc:w.cell? ⟨rb,ro,none⟩=some (.int .u64 X)) (hf:w.frozen? ⟨rb,ro,none⟩=false) :
  Calls Tryz.prog 141 #[.pointer (some ⟨rb,ro,none⟩)] w fun e w'=>e = .returned (.int .u64 (xorNextN X:Nat))∧w'=(w.setCell ⟨rb,ro,none⟩ (.int .u64 (xorNextN X:Nat))).drewN 3 :=
 calls_of_every_depth fun D=>AnySM.xorshift_NextIn sortN32 D rb ro X hX w hc hf
theorem npow (n:Nat) (hn:n<4611686018427387904) (w:World) :
  Calls Tryz.prog 140 #[.int .i64 n] w fun e w'=>e = .returned (.int .u64 ((1 <<< bitsLen n:Nat):Int))∧w'=w :=
 calls_of_every_depth fun D=>AnySM.nextPowerOfTwoIn sortN31 D n hn w
theorem bitsLenC (x:Int) (w:World) (h0:0≤x) (h1:x≤18446744073709551615) :
  Calls Tryz.prog 96 #[.int .u64 x] w fun e w'=>e = .returned (.int .i64 (Lib.bitLen x.toNat))∧w'=w :=
 calls_of_every_depth fun D=>AnySM.bits_LenIn { sortN31 with } D x w h0 h1
end Go.Proofs.YthkmihedkddnmaaGreat
namespace Go.Proofs.YthkmihedkddnmaaGreat
open Lib (hid)
open Go.RowKit Go.Sort
abbrev e64:Int→Value:=Value.int .u64
theorem nan64 (x:Int) (w:World):Calls Tryz.prog 148 #[.int .u64 x] w fun e w'=>e = .returned (.bool false)∧w'=w:=by
 go_enter Tryz.func148,Tryz.ntmps148
 go_wp2;go_ret;exact ⟨by simp,rfl⟩
theorem less64 (x y:Int) (w:World):Calls Tryz.prog 132 #[.int .u64 x,.int .u64 y] w fun e w'=>e = .returned (.bool (ltInt x y))∧w'=w:=by
 go_enter Tryz.func132,Tryz.ntmps132
 go_wp2_with (go_at_call 148;refine (nan64 _ _).mono ?_;rintro e w' ⟨rfl,rfl⟩)
 go_ret;exact ⟨rfl,rfl⟩
theorem row64 {blk off m:Nat} {d y:Array Int} {w wr:World} (hH:Holds e64 w blk off d) (hy:y.size=d.size) (hwr:wr=putRow e64 (Sort.ahead w m) blk off y) :
  ∃ G:Nat→Int,(∀ t,G t=y[t]!)∧(∀ t,t<d.size→wr.cell? ⟨blk,off+t,none⟩=some (.int .u64 (G t)))∧(∀ t,t<d.size→wr.frozen? ⟨blk,off+t,none⟩=false):=by
 refine ⟨fun t=>y[t]!,fun _=>rfl,fun t ht => ?_,fun t ht => ?_⟩
 ·rw [hwr]
  exact cell?_putRow _ _ _ _ d y (holds_ahead _ _ _ _ _ _ hH) hy t (by omega)
 ·rw [hwr,frozen?_putRow]
  exact ((holds_ahead _ _ m _ _ _ hH) t ht).2
theorem drew64 {blk off m:Nat} {y:Array Int} {w wr:World} (h:wr=putRow e64 (Sort.ahead w m) blk off y) (q:Nat):wr.drewN q=putRow e64 (Sort.ahead w (m+q)) blk off y:=by rw [h];exact putRow_drewN _ _ _ _ _ _ _
theorem swap64 {blk off m:Nat} {y:Array Int} {w wr:World} (h:wr=putRow e64 (Sort.ahead w m) blk off y) (q i j:Nat) (hi:i<y.size) (hj:j<y.size) :
  ((wr.drewN q).setCell ⟨blk,off+i,none⟩ (.int .u64 y[j]!)).setCell ⟨blk,off+j,none⟩ (.int .u64 y[i]!)=putRow e64 (Sort.ahead w (m+q)) blk off (swp y i j):=by
 rw [h];exact swap_worldA e64 w m q blk off y i j hi hj
theorem ins64 (blk off cap a b:Nat) (d:Array Int) (w:World) (hH:Holds e64 w blk off d) (hab:a≤b) (hb:b≤d.size) (hsz:d.size<4611686018427387904) :
  Calls Tryz.prog 126 #[.slice (some ⟨blk,off,none⟩) d.size cap,.int .i64 (a:Int),.int .i64 (b:Int)] w fun e w'=>e = .returned (.tuple #[])∧∃ n,w'=putRow e64 (Sort.ahead w n) blk off (Sort.insertionSort ltInt d a b):=by
 go_enter Tryz.func126,Tryz.ntmps126
 go_wp2
 go_loopw [6] (fun i wr=>∃ (k n:Nat) (x:Array Int),i = .int .i64 (k:Int)∧a<k∧k≤b+1∧x.size=d.size∧wr=putRow e64 (Sort.ahead w n) blk off x∧insOuter ltInt a b k x=insOuter ltInt a b (a+1) d) (fun i _=>b+1 - (Go.Proofs.intOf i).toNat)
 case atStart=>exact ⟨a+1,0,d,by go_num,by omega,by omega,rfl,(putRow_self _ _ _ _ _ hH).symm,rfl⟩
 case round =>
  obtain ⟨k,n,x,rfl,hk1,hk2,hx,hwr,hout⟩:=hrel;have HO:=hid hout;have HWR:=hid hwr;clear hout
  by_cases hlt:k<b
  rotate_left
  ·have q0:decide ((k:Int)<(b:Int))=false:=decide_eq_false (by omega)
   go_wp2_with fail
   go_end0
   exact ⟨rfl,n,by unfold Sort.insertionSort;rw [← HO.out,insOuter_stop _ _ _ _ _ hlt]⟩
  have q0:decide ((k:Int)<(b:Int))=true:=decide_eq_true (by omega);clear hwr;go_wp2_with fail
  go_loopw [7] (fun i wr2=>∃ (j m:Nat) (y:Array Int),i = .int .i64 (j:Int)∧a≤j∧j≤k∧y.size=d.size∧wr2=putRow e64 (Sort.ahead w m) blk off y∧insInner ltInt a j y=insInner ltInt a k x) (fun i _=>(Go.Proofs.intOf i).toNat)
  case atStart=>exact ⟨k,n,x,rfl,by omega,Nat.le_refl _,hx,HWR.out,rfl⟩
  case round =>
   obtain ⟨j,m,y,rfl,hj1,hj2,hy,hwr2,hin⟩:=hrel;obtain ⟨G,hG,hcw,hfw⟩:=row64 hH hy hwr2;have HI:=hid hin;have HW:=hid hwr2;have HG:=hid hG;clear hin hwr2 hG;have OUT:Hid ((j≤a∨ltInt (G j) (G (j - 1))=false)→insOuter ltInt a b (k+1) y=insOuter ltInt a b (a+1) d):=hid (fun h=>by
    rw [← HO.out,insOuter_go _ _ _ _ _ hlt,← HI.out,insInner_stop _ _ _ _ (by rw [← HG.out,← HG.out];exact h)])
   go_wp2
   by_cases hja:a<j
   rotate_left
   ·go_quiet (first | (go_at_call 132;refine Calls.quiet_of_same (less64 _ _ _)))
    go_wp2;go_roundw
    case rel=>exact ⟨k+1,m+nq,y,by go_num,by omega,by omega,hy,drew64 HW.out nq,OUT.out (.inl (by omega))⟩
    case measure=>simp [Go.Proofs.intOf];omega
   go_quiet (first | (go_at_call 132;refine Calls.quiet_of_same (less64 _ _ _)))
   go_wp2
   ·have hl:ltInt (G j) (G (j - 1))=true:=by assumption
    go_region
    all_goals go_wp2
    go_roundw
    case rel =>
     refine ⟨j - 1,m+(nq+1),swp y j (j - 1),by congr 1;omega,by omega,by omega,by rw [size_swp];exact hy,?_,?_⟩
     ·rw [HG.out,HG.out]
      exact swap64 HW.out (nq+1) j (j - 1) (by omega) (by omega)
     ·rw [← HI.out,insInner_go ltInt a j y hja (by rw [← HG.out,← HG.out];exact hl)]
    case measure=>simp [Go.Proofs.intOf];omega
   ·have hl:ltInt (G j) (G (j - 1))=false:=by assumption
    go_roundw
    case rel=>exact ⟨k+1,m+nq,y,by go_num,by omega,by omega,hy,drew64 HW.out nq,OUT.out (.inr hl)⟩
    case measure=>simp [Go.Proofs.intOf];omega
end Go.Proofs.YthkmihedkddnmaaGreat
namespace Go.Proofs.YthkmihedkddnmaaGreat
open Lib (hid)
open Go.RowKit Go.Sort
theorem rowG64 {blk off m:Nat} {d y:Array Int} {w wr:World} {G:Nat→Int} (hH:Holds e64 w blk off d) (hy:y.size=d.size) (hwr:wr=putRow e64 (Sort.ahead w m) blk off y) (hG:∀ t,G t=y[t]!) :
  (∀ t,t<d.size→wr.cell? ⟨blk,off+t,none⟩=some (.int .u64 (G t)))∧(∀ t,t<d.size→wr.frozen? ⟨blk,off+t,none⟩=false):=by
 obtain ⟨G',h1,h2,h3⟩:=row64 hH hy hwr;refine ⟨fun t ht => ?_,h3⟩;rw [hG,← h1];exact h2 t ht
def Sft64 (w:World) (blk off hi first lo:Nat) (d:Array Int) (r:Nat) (x:Array Int):Prop:=r≤hi∧x.size=d.size∧siftDown ltInt hi first r x=siftDown ltInt hi first lo d
theorem sift64 (blk off cap lo hi first:Nat) (d:Array Int) (w:World) (hH:Holds e64 w blk off d) (hlo:lo≤hi) (hb:first+hi≤d.size) (hsz:d.size<4611686018427387904) :
  Calls Tryz.prog 145 #[.slice (some ⟨blk,off,none⟩) d.size cap,.int .i64 (lo:Int),.int .i64 (hi:Int),.int .i64 (first:Int)] w fun e w'=>e = .returned (.tuple #[])∧∃ n,w'=putRow e64 (Sort.ahead w n) blk off (siftDown ltInt hi first lo d):=by
 go_enter Tryz.func145,Tryz.ntmps145
 go_wp2
 go_loopw [8] (fun i wr=>∃ (r n:Nat) (x:Array Int),i = .int .i64 (r:Int)∧Sft64 w blk off hi first lo d r x∧wr=putRow e64 (Sort.ahead w n) blk off x) (fun i _=>hi - (Go.Proofs.intOf i).toNat)
 case atStart=>exact ⟨lo,0,d,rfl,⟨hlo,rfl,rfl⟩,(putRow_self _ _ _ _ _ hH).symm⟩
 case round =>
  obtain ⟨r,m,x,rfl,⟨hr,hx,hout⟩,hwr⟩:=hrel;have HO:=hid hout;have HW:=hid hwr;obtain ⟨G,hG,hcw,hfw⟩:=row64 hH hx hwr;have HG:=hid hG;clear hout hwr hG
  by_cases h1:hi≤2 * r+1
  ·have q1:decide (2 * (r:Int)+1 ≥ (hi:Int))=true:=decide_eq_true (by omega)
   go_wp2
   go_end0
   all_goals exact ⟨rfl,m,by rw [← HO.out,sd_end ltInt x h1];exact HW.out⟩
  have q1:decide (2 * (r:Int)+1 ≥ (hi:Int))=false:=decide_eq_false (by omega);go_wp2;have hr2:2 * r+1<hi:=by omega
  have hwa:IntKind.i64.wrap (2 * (r:Int)+1+1)=2 * (r:Int)+1+1:=IntWalk.i64_in _ (by omega);have hwb:IntKind.i64.wrap ((first:Int)+(2 * (r:Int)+1))=(first:Int)+(2 * (r:Int)+1):=IntWalk.i64_in _ (by omega);have hwc:IntKind.i64.wrap ((first:Int)+(2 * (r:Int)+1)+1)=(first:Int)+(2 * (r:Int)+1)+1:=IntWalk.i64_in _ (by omega);have hwd:IntKind.i64.wrap ((first:Int)+(r:Int))=(first:Int)+(r:Int):=IntWalk.i64_in _ (by omega)
  have hwe:IntKind.i64.wrap ((first:Int)+(2 * (r:Int)+1+1))=(first:Int)+(2 * (r:Int)+1+1):=IntWalk.i64_in _ (by omega)
  by_cases h2:2 * r+2<hi
  ·have q2:decide (2 * (r:Int)+1+1<(hi:Int))=true:=decide_eq_true (by omega)
   go_quiet (first | (go_at_call 132;refine Calls.quiet_of_same (less64 _ _ _)))
   obtain ⟨wr2,hw2⟩:∃ y,wr.drewN nq=y:=⟨_,rfl⟩
   have HW2:Hid (wr2=putRow e64 (Sort.ahead w (m+nq)) blk off x):=hid (by rw [← hw2];exact drew64 HW.out nq);clear hcw hfw;obtain ⟨hcw,hfw⟩:=rowG64 hH hx HW2.out HG.out;rw [hw2];clear hw2
   cases hl:ltInt (G (first+2 * r+1)) (G (first+2 * r+2)) with
   | true =>
    go_wp2
    go_quiet (first | (go_at_call 132;refine Calls.quiet_of_same (less64 _ _ _)))
    obtain ⟨wr3,hw3⟩:∃ y,wr2.drewN nq=y:=⟨_,rfl⟩
    have HW3:Hid (∃ m3,wr3=putRow e64 (Sort.ahead w m3) blk off x):=hid ⟨_,by rw [← hw3];exact drew64 HW2.out nq⟩;rw [hw3];clear hw3 hcw hfw;obtain ⟨m3,hm3⟩:=HW3.out;obtain ⟨hcw,hfw⟩:=rowG64 hH hx hm3 HG.out;have HM3:=hid hm3;clear hm3 HW3
    cases hl2:ltInt (G (first+r)) (G (first+2 * r+2)) with
    | false =>
     go_wp2
     (try simp only [Exit.inBlock,Exit.then]);refine bodyPost_ret (results_none rfl _ _ _) rfl ?_
     exact ⟨rfl,m3,by rw [← HO.out,sd_right_stop ltInt x h2 (by have h:=hl;rw [HG.out,HG.out] at h;exact h) (by have h:=hl2;rw [HG.out,HG.out] at h;exact h)];exact HM3.out⟩
    | true =>
     go_wp2
     go_region
     all_goals go_wp2
     go_roundw
     case rel =>
      refine ⟨2 * r+2,m3+1,swp x (first+r) (first+(2 * r+2)),by first | (congr 1;done) | (congr 1;omega),⟨by omega,by rw [size_swp];exact hx,?_⟩,?_⟩
      ·rw [← HO.out,sd_right_go ltInt x h2 (by have h:=hl;rw [HG.out,HG.out] at h;exact h) (by have h:=hl2;rw [HG.out,HG.out] at h;exact h)]
      ·rw [HG.out,HG.out]
       exact swap64 HM3.out 1 (first+r) (first+(2 * r+2)) (by omega) (by omega)
     case measure=>simp [Go.Proofs.intOf];omega
   | false =>
    go_wp2
    go_quiet (first | (go_at_call 132;refine Calls.quiet_of_same (less64 _ _ _)))
    obtain ⟨wr3,hw3⟩:∃ y,wr2.drewN nq=y:=⟨_,rfl⟩
    have HW3:Hid (∃ m3,wr3=putRow e64 (Sort.ahead w m3) blk off x):=hid ⟨_,by rw [← hw3];exact drew64 HW2.out nq⟩;rw [hw3];clear hw3 hcw hfw;obtain ⟨m3,hm3⟩:=HW3.out;obtain ⟨hcw,hfw⟩:=rowG64 hH hx hm3 HG.out;have HM3:=hid hm3;clear hm3 HW3
    cases hl2:ltInt (G (first+r)) (G (first+2 * r+1)) with
    | false =>
     go_wp2
     (try simp only [Exit.inBlock,Exit.then]);refine bodyPost_ret (results_none rfl _ _ _) rfl ?_
     exact ⟨rfl,m3,by rw [← HO.out,sd_left_stop ltInt x hr2 (fun _=>(by have h:=hl;rw [HG.out,HG.out] at h;exact h)) (by have h:=hl2;rw [HG.out,HG.out] at h;exact h)];exact HM3.out⟩
    | true =>
     go_wp2
     go_region
     all_goals go_wp2
     go_roundw
     case rel =>
      refine ⟨2 * r+1,m3+1,swp x (first+r) (first+(2 * r+1)),by first | (congr 1;done) | (congr 1;omega),⟨by omega,by rw [size_swp];exact hx,?_⟩,?_⟩
      ·rw [← HO.out,sd_left_go ltInt x hr2 (fun _=>(by have h:=hl;rw [HG.out,HG.out] at h;exact h)) (by have h:=hl2;rw [HG.out,HG.out] at h;exact h)]
      ·rw [HG.out,HG.out]
       exact swap64 HM3.out 1 (first+r) (first+(2 * r+1)) (by omega) (by omega)
     case measure=>simp [Go.Proofs.intOf];omega
  ·have q2:decide (2 * (r:Int)+1+1<(hi:Int))=false:=decide_eq_false (by omega)
   go_quiet (first | (go_at_call 132;refine Calls.quiet_of_same (less64 _ _ _)))
   obtain ⟨wr2,hw2⟩:∃ y,wr.drewN nq=y:=⟨_,rfl⟩
   have HW2:Hid (wr2=putRow e64 (Sort.ahead w (m+nq)) blk off x):=hid (by rw [← hw2];exact drew64 HW.out nq);clear hcw hfw;obtain ⟨hcw,hfw⟩:=rowG64 hH hx HW2.out HG.out;rw [hw2];clear hw2;go_wp2
   go_quiet (first | (go_at_call 132;refine Calls.quiet_of_same (less64 _ _ _)))
   obtain ⟨wr3,hw3⟩:∃ y,wr2.drewN nq=y:=⟨_,rfl⟩
   have HW3:Hid (∃ m3,wr3=putRow e64 (Sort.ahead w m3) blk off x):=hid ⟨_,by rw [← hw3];exact drew64 HW2.out nq⟩;rw [hw3];clear hw3 hcw hfw;obtain ⟨m3,hm3⟩:=HW3.out;obtain ⟨hcw,hfw⟩:=rowG64 hH hx hm3 HG.out;have HM3:=hid hm3;clear hm3 HW3
   cases hl2:ltInt (G (first+r)) (G (first+2 * r+1)) with
   | false =>
    go_wp2
    (try simp only [Exit.inBlock,Exit.then]);refine bodyPost_ret (results_none rfl _ _ _) rfl ?_
    exact ⟨rfl,m3,by rw [← HO.out,sd_left_stop ltInt x hr2 (fun h=>absurd h h2) (by have h:=hl2;rw [HG.out,HG.out] at h;exact h)];exact HM3.out⟩
   | true =>
    go_wp2
    go_region
    all_goals go_wp2
    go_roundw
    case rel =>
     refine ⟨2 * r+1,m3+1,swp x (first+r) (first+(2 * r+1)),by first | (congr 1;done) | (congr 1;omega),⟨by omega,by rw [size_swp];exact hx,?_⟩,?_⟩
     ·rw [← HO.out,sd_left_go ltInt x hr2 (fun h=>absurd h h2) (by have h:=hl2;rw [HG.out,HG.out] at h;exact h)]
     ·rw [HG.out,HG.out]
      exact swap64 HM3.out 1 (first+r) (first+(2 * r+1)) (by omega) (by omega)
    case measure=>simp [Go.Proofs.intOf];omega
theorem siftSz64 (hi F root:Nat) (d:Array Int):(siftDown ltInt hi F root d).size=d.size:=size_siftDown ltInt hi F (hi - root) root d (Nat.le_refl _)
end Go.Proofs.YthkmihedkddnmaaGreat
namespace Go.Proofs.YthkmihedkddnmaaGreat
open Lib (hid)
open Go.RowKit Go.Sort
theorem heap64 (blk off cap a b:Nat) (d:Array Int) (w:World) (hH:Holds e64 w blk off d) (hab:a≤b) (hb:b≤d.size) (hsz:d.size<4611686018427387904) :
  Calls Tryz.prog 127 #[.slice (some ⟨blk,off,none⟩) d.size cap,.int .i64 (a:Int),.int .i64 (b:Int)] w fun e w'=>e = .returned (.tuple #[])∧∃ n,w'=putRow e64 (Sort.ahead w n) blk off (Sort.heapSort ltInt d a b):=by
 have hst:=half_start hab;obtain ⟨H,hHb⟩:∃ H,b - a=H:=⟨_,rfl⟩
 have eH:(b:Int) - (a:Int)=(H:Int):=by omega
 obtain ⟨K0,hK0⟩:∃ K,(b - a - 1) / 2+1=K:=⟨_,rfl⟩
 have hK1:K0≤H+1:=by omega
 rw [hK0,eH] at hst;have HT:Hid (Sort.heapSort ltInt d a b=heapPop ltInt a H (heapBuild ltInt H a K0 d)):=hid (by unfold Sort.heapSort;rw [hK0,hHb])
 go_enter Tryz.func127,Tryz.ntmps127
 go_wp2
 go_loopw [9] (fun i wr=>∃ (k n:Nat) (x:Array Int),i = .int .i64 ((k:Int) - 1)∧k≤K0∧x.size=d.size∧wr=putRow e64 (Sort.ahead w n) blk off x∧heapBuild ltInt H a k x=heapBuild ltInt H a K0 d) (fun i _=>(Go.Proofs.intOf i+1).toNat)
 case atStart=>exact ⟨K0,0,d,rfl,Nat.le_refl _,rfl,(putRow_self _ _ _ _ _ hH).symm,rfl⟩
 case round =>
  obtain ⟨k,m,x,rfl,hk,hx,hwr,hout⟩:=hrel;have HO:=hid hout;have HW:=hid hwr;clear hout
  cases k with
  | succ k =>
   have ek:((k+1:Nat):Int) - 1=(k:Int):=by omega
   rw [ek];have C:=sift64 blk off cap k H a x wr (by rw [hwr];exact holds_putRow _ _ _ _ d x (holds_ahead _ _ _ _ _ _ hH) hx) (by omega) (by omega) (by omega);rw [hx] at C;clear hwr;have q:decide ((k:Int) ≥ 0)=true:=decide_eq_true (by omega);go_wp2_with fail;refine C.mono ?_;rintro e w2 ⟨rfl,n2,hw2⟩;have HW2:Hid (w2=putRow e64 (Sort.ahead w (m+n2)) blk off (siftDown ltInt H a k x)):=hid (by rw [hw2,HW.out,putRow_ahead_putRow _ _ _ _ _ _ _ _ (siftSz64 _ _ _ _)]);clear C hw2;go_wp2_with fail;go_roundw
   case rel=>exact ⟨k,m+n2,siftDown ltInt H a k x,rfl,by omega,by rw [siftSz64,hx],HW2.out,HO.out⟩
   case measure=>simp [Go.Proofs.intOf]
  | zero =>
  have e0:((0:Nat):Int) - 1 = -1:=by decide
  rw [e0];have q:decide ((-1:Int) ≥ 0)=false:=by decide
  clear hwr;go_wp2_with fail;obtain ⟨D,hD⟩:∃ D,heapBuild ltInt H a K0 d=D:=⟨_,rfl⟩
  rw [hD] at HT;have HX:Hid (x=D):=hid (by rw [← hD,← HO.out];rfl)
  go_loopw [10] (fun i wr2=>∃ (k n:Nat) (y:Array Int),i = .int .i64 ((k:Int) - 1)∧k≤H∧y.size=d.size∧wr2=putRow e64 (Sort.ahead w n) blk off y∧heapPop ltInt a k y=heapPop ltInt a H D) (fun i _=>(Go.Proofs.intOf i+1).toNat)
  case atStart=>exact ⟨H,m,x,rfl,Nat.le_refl _,hx,HW.out,by rw [HX.out]⟩
  case round =>
   obtain ⟨k,m2,y,rfl,hk2,hy,hwr2,hout2⟩:=hrel;have HO2:=hid hout2;have HW2:=hid hwr2;clear hout2
   cases k with
   | zero =>
    have q:decide (((0:Nat):Int) - 1 ≥ 0)=false:=by decide
    clear hwr2;go_wp2_with fail
    go_end0
    exact ⟨rfl,m2,by rw [HT.out,← HO2.out];exact HW2.out⟩
   | succ k =>
   have ek:((k+1:Nat):Int) - 1=(k:Int):=by omega
   rw [ek];obtain ⟨G,hG,hcw,hfw⟩:=row64 hH hy hwr2;have HG:=hid hG;have q:decide ((k:Int) ≥ 0)=true:=decide_eq_true (by omega);have hwd:IntKind.i64.wrap ((a:Int)+(k:Int))=(a:Int)+(k:Int):=IntWalk.i64_in _ (by omega);have hc2:(wr.setCell ⟨blk,off+a,none⟩ (.int .u64 (G (a+k)))).cell? ⟨blk,off+(a+k),none⟩=some (.int .u64 (G (a+k))):=by
    rw [hwr2,hG,show Value.int .u64 y[a+k]! = e64 y[a+k]! from rfl,putRow_set _ _ _ _ _ _ _ (by omega),cell?_putRow _ _ _ _ d _ (holds_ahead _ _ _ _ _ _ hH) (by simpa using hy) _ (by simp;omega)]
    by_cases h0:k=0
    ·subst h0
     rw [Nat.add_zero,getElem!_set_same _ _ _ (by omega)]
    ·rw [getElem!_set_other _ _ _ _ (by omega)]
   clear hwr2 hG;go_wp2_with fail
   go_region
   all_goals go_wp2_with fail
   obtain ⟨w3,hw3⟩:∃ W,((wr.setCell ⟨blk,off+a,none⟩ (.int .u64 (G (a+k)))).setCell ⟨blk,off+(a+k),none⟩ (.int .u64 (G a))).drew=W:=⟨_,rfl⟩
   rw [hw3];have HW3:Hid (w3=putRow e64 (Sort.ahead w (m2+1)) blk off (swp y a (a+k))):=hid (by
    rw [← hw3,HG.out,HG.out];exact swap64 HW2.out 1 a (a+k) (by omega) (by omega))
   clear hw3 hc2 hcw hfw hwd;have hsw:(swp y a (a+k)).size=d.size:=by rw [size_swp];exact hy
   have C:=sift64 blk off cap 0 k a (swp y a (a+k)) w3 (by rw [HW3.out];exact holds_putRow _ _ _ _ d _ (holds_ahead _ _ _ _ _ _ hH) hsw) (by omega) (by omega) (by omega);rw [hsw] at C;refine C.mono ?_;rintro e w4 ⟨rfl,n4,hw4⟩;have HW4:Hid (w4=putRow e64 (Sort.ahead w (m2+1+n4)) blk off (siftDown ltInt k a 0 (swp y a (a+k)))):=hid (by rw [hw4,HW3.out,putRow_ahead_putRow _ _ _ _ _ _ _ _ (siftSz64 _ _ _ _)]);clear C hw4;go_wp2_with fail;go_round
   case rel=>exact ⟨k,m2+1+n4,_,rfl,by omega,by rw [siftSz64,hsw],HW4.out,HO2.out⟩
   case measure=>simp [Go.Proofs.intOf]
end Go.Proofs.YthkmihedkddnmaaGreat
