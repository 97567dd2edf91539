import Derived.Deep.RegionHeld3
import Derived.Test.YthkmihedkddnmaaGreatTG3
import Derived.Test.YthkmihedkddnmaaGreatTG1
import Derived.Laws.CopyOwn
import Derived.Test.YthkmihedkddnmaaGreatTG2
import Derived.Test.YthkmihedkddnmaaGreatTG4
import Derived.Test.YthkmihedkddnmaaGreatTG5
import Derived.Lib.SmallJoins
import Derived.Test.YthkmihedkddnmaaGreatTG0
import Derived.Deep.Slices
import Derived.OpenShut
import Derived.Maps.Own
import Derived.Maps.OwnSet
set_option linter.unusedVariables false
set_option linter.unusedSimpArgs false
set_option maxHeartbeats 3200000
set_option maxRecDepth 100000
namespace Go.Proofs.YthkmihedkddnmaaGreat
open Go.RowKit
open Wire
structure RP (B:Nat) (w:World) (vb:Nat) (x:V) (sl v':Value) (acc:List UInt8) (W:World):Prop where
 below:Below B w W
 rng:W.rangeAt vb 0 (rC x sl)
 lt:vb<W.heap.size
 rd:Rd W 1 sl x.b.length (bV x.b)
 own:W.ownsRow B 5 1 v' acc.length (bV acc)
 base:B≤W.heap.size
theorem RP.mono {B:Nat} {w:World} {vb:Nat} {x:V} {sl v':Value} {acc:List UInt8} {W W':World} (h:RP B w vb x sl v' acc W) (hb:Below W.heap.size W W'):RP B w vb x sl v' acc W' :=
 ⟨h.below.trans (hb.mono h.base),rangeAt_below h.rng h.lt hb,Nat.lt_of_lt_of_le h.lt hb.size,h.rd.below hb,ownsRow_below h.own hb,Nat.le_trans h.base hb.size⟩
end Go.Proofs.YthkmihedkddnmaaGreat
namespace Go.Proofs.YthkmihedkddnmaaGreat
open Go.RowKit
open Wire
def V0:V:=⟨0,0,false,[],List.replicate 256 0⟩
theorem foldl_sets (o:Nat):∀ (l:List Value) (k:Nat) (A:Array Value),o+k+l.length≤A.size→((l.zipIdx k).foldl (fun (cs:Array Value) (x:Value × Nat)=>cs.setIfInBounds (o+x.snd) x.fst) A).toList=A.toList.take (o+k) ++ l ++ A.toList.drop (o+k+l.length)
 | [],k,A,h=>by simp
 | v :: l,k,A,h=>by
  rw [List.length_cons] at h;rw [List.zipIdx_cons,List.foldl_cons,foldl_sets o l (k+1) _ (by rw [Array.size_setIfInBounds];omega)];have hk:o+k<A.toList.length:=by rw [Array.length_toList];omega
  rw [Array.toList_setIfInBounds,List.length_cons];rw [show o+(k+1)=o+k+1 by omega,show o+k+1+l.length=o+k+(l.length+1) by omega];rw [List.take_add_one,List.take_set_of_le (Nat.le_refl _),List.getElem?_set_self hk,List.drop_set_of_lt (by omega)]
  simp
end Go.Proofs.YthkmihedkddnmaaGreat
namespace Go.Proofs.YthkmihedkddnmaaGreat
open Go.RowKit
theorem fold_whole (A:Array Value) (L:List Value) (h:L.length=A.size):Array.foldl (fun (cs:Array Value) (x:Value × Nat)=>cs.setIfInBounds (0+x.snd) x.fst) A L.toArray.zipIdx 0 L.toArray.zipIdx.size=L.toArray:=by
 apply Array.toList_inj.1
 have hzi:L.toArray.zipIdx=(L.zipIdx 0).toArray:=by apply Array.toList_inj.1;simp
 rw [hzi,List.foldl_toArray' _ _ _ (by simp)];have h1:=foldl_sets 0 L 0 A (by omega);rw [h1]
 simp
 omega
theorem run_buildSlice_one {P:Program} (w:World) (t e:TypeId) (n:Nat) (z:Value) (L:List Value) (ht:P.underlying t=some (.slice e)) (hi:(P.info? e).map (fun i=>(i.zero,i.size))=some (some z,n)) (hz:z.cells.size=n) (hL:L.length=n) (hn:0<n) (hn2:n≤1000) :
  (Instr.buildSlice t 1 #[(0,.agg L.toArray)]).run P w = .ok (.slice (some ⟨w.heap.size,0,none⟩) 1 1) (w.alloc (.cells L.toArray e)):=by
 cases hq:P.info? e with
 | none=>rw [hq] at hi;cases hi
 | some i =>
  rw [hq] at hi;simp only [Option.map_some,Option.some.injEq,Prod.mk.injEq] at hi;obtain ⟨h1,h2⟩:=hi;have hs:∀ W,(sizeOf e).run P W = .ok n W:=fun W=>by simp [sizeOf,typeInfo,hq,h2]
  have hzv:∀ W,(zeroValue e).run P W = .ok z W:=fun W=>by simp [zeroValue,typeInfo,hq,h1]
  have hf:∀ A:Array Value,A.size=n→Instr.fill (fun i=>some (i * n,n)) A [(0,Value.agg L.toArray)]=some L.toArray:=by
   intro A hA;unfold Instr.fill;have e1:(Value.agg L.toArray).cells=L.toArray:=rfl;simp only [e1,Nat.zero_mul,List.size_toArray,hL,hA];rw [if_neg (by simp)];unfold Instr.fill
   congr 1
   exact fold_whole A L (by omega)
  unfold Instr.buildSlice;rw [Sem.run_bind,run_underlying ht w];simp only [Result.andThen_ok,Sem.run_bind,hs,Nat.one_mul];rw [if_neg (by omega)];have hn0 : ¬ n=0:=by omega
  simp only [hn0,if_false,Sem.run_bind,hzv,Result.andThen_ok,Sem.run_pure];rw [hf _ (by simp)]
  rfl
theorem wpList_build1 {P:Program} {ops:Array Oper} {rest:List Oper} {o:Oper} {a:Act} {Q:Exit→Act→World→Prop} {w:World} (hgd:o.guard=none) (x:Operand) (t e:TypeId) (n:Nat) (z:Value) (L:List Value)
  (ho:o.op = .buildSlice t 1 #[(0,x)]) (hx:a.eval x = .agg L.toArray) (ht:P.underlying t=some (.slice e)) (hi:(P.info? e).map (fun i=>(i.zero,i.size))=some (some z,n)) (hz:z.cells.size=n) (hL:L.length=n) (hn:0<n) (hn2:n≤1000)
  (h:wpList P ops Q rest (a.put o.dst (.slice (some ⟨w.heap.size,0,none⟩) 1 1)) (w.alloc (.cells L.toArray e))):wpList P ops Q (o :: rest) a w:=by
 refine wpList_plain hgd fun K hK => ?_;have hrun:=run_buildSlice_one (P:=P) w t e n z L ht hi hz hL hn hn2;unfold Oper.wp execOp;simp only [ho,List.map_toArray,List.map_cons,List.map_nil,hx,Sem.run_bind,hrun,Result.andThen_ok,Sem.run_pure];exact hK _ _ h
end Go.Proofs.YthkmihedkddnmaaGreat
namespace Go.Proofs.YthkmihedkddnmaaGreat
open Go.RowKit
open Wire
def RVrow (w0:World) (B:Nat) (w:World) (v:Value) (cs:List (V × Value)):Prop :=
 w.ownsRow B 128 260 v cs.length (cs.map fun p=>rC p.1 p.2).flatten∧∀ p∈cs,p.1.Ok∧Rd w0 1 p.2 p.1.b.length (bV p.1.b)
theorem RVrow.nil (w0:World) (B:Nat) (w:World):RVrow w0 B w (.slice none 0 0) []:=⟨World.ownsRow_nil _ _ _ _,fun p h=>by cases h⟩
theorem RVrow.below {w0 w w':World} {B:Nat} {v:Value} {cs:List (V × Value)} (h:RVrow w0 B w v cs) (hb:Below w.heap.size w w'):RVrow w0 B w' v cs:=⟨ownsRow_below h.1 hb,h.2⟩
theorem below_setC {B b:Nat} {a:World} (hb:B≤b):∀ (vs:List Value) (o:Nat) (w:World),Below B a w→Below B a (w.setCells b o vs)
 | [],_,_,h=>h
 | v :: r,o,w,h=>by
  rw [World.setCells];exact below_setC hb r (o+1) _ (h.setCell (p:=⟨b,o,none⟩) hb v)
theorem heap_setC (b:Nat):∀ (vs:List Value) (o:Nat) (w:World) (k:Nat),k≠b→(w.setCells b o vs).heap[k]? = w.heap[k]?
 | [],_,_,_,_=>rfl
 | v :: r,o,w,k,hk=>by
  rw [World.setCells,heap_setC b r (o+1) _ k hk];exact Below.heap_setCell w ⟨b,o,none⟩ v k hk
theorem size_setC (b:Nat):∀ (vs:List Value) (o:Nat) (w:World),(w.setCells b o vs).heap.size=w.heap.size
 | [],_,_=>rfl
 | v :: r,o,w=>by rw [World.setCells,size_setC b r (o+1) _];simp [World.setCell]
structure UP (w0:World) (B:Nat) (w:World) (vb:Nat) (v':Value) (cs:List (V × Value)) (W:World):Prop where
 below:Below B w W
 row:RVrow w0 B W v' cs
 th:W.there vb 0 260
 lt:vb<W.heap.size
 base:B≤vb
 ap:∀ j∈ob v',j≠vb
theorem UP.mono {w0:World} {B:Nat} {w:World} {vb:Nat} {v':Value} {cs:List (V × Value)} {W W':World} (h:UP w0 B w vb v' cs W) (hb:Below W.heap.size W W'):UP w0 B w vb v' cs W' :=
 ⟨h.below.trans (hb.mono (Nat.le_trans h.base (Nat.le_of_lt h.lt))),h.row.below hb,fun j hj=>by
  rw [hb.cell (p:=⟨vb,0+j,none⟩) h.lt,hb.frozen (p:=⟨vb,0+j,none⟩) h.lt];exact h.th j hj,Nat.lt_of_lt_of_le h.lt hb.size,h.base,h.ap⟩
theorem UP.store {w0:World} {B:Nat} {w:World} {vb:Nat} {v':Value} {cs:List (V × Value)} {W:World} (h:UP w0 B w vb v' cs W) (L:List Value) (hl:L.length=260):UP w0 B w vb v' cs (W.setCells vb 0 L)∧(W.setCells vb 0 L).rangeAt vb 0 L :=
 ⟨⟨below_setC h.base L 0 W h.below,⟨ownsRow_at h.row.1 (fun k hk=>heap_setC vb L 0 W k (h.ap k hk)),h.row.2⟩,World.there_setCells h.th _ _ _,by rw [size_setC];exact h.lt,h.base,h.ap⟩,
  World.rangeAt_setCells_same W vb 0 L (by rw [hl];exact h.th)⟩
theorem UP.start {w0:World} {B:Nat} {w wr:World} {v':Value} {cs:List (V × Value)} (hb:Below B w wr) (hr:RVrow w0 B wr v' cs) (hbs:B≤wr.heap.size) (C:Array Value) (hC:C.size=260) (T:TypeId):UP w0 B w wr.heap.size v' cs (wr.alloc (.cells C T)):=by
 have h3:Below wr.heap.size wr (wr.alloc (.cells C T)):=balloc (Below.refl _ wr) _;refine ⟨hb.trans (h3.mono hbs),hr.below h3,fun j hj => ?_,by simp,hbs,fun j hj=>by have:=ownsRow_lt hr.1 j hj;omega⟩;rw [Nat.zero_add];refine ⟨?_,frozenOf (heap_alloc_new wr _) j⟩;rw [cell_of_row _ wr.heap.size j C T (0,0) (heap_alloc_new wr _),Array.getElem?_eq_getElem (by omega)]
 rfl
def RUnpackP (w0 w:World) (y:Bool) (o:Option (List V × Nat)) (e:Ending) (w':World):Prop :=
 Below w.heap.size w w'∧if y then (match o with
  | some (l,k)=>∃ v' cs,e = .returned (.tuple #[v',.int .i64 (k:Int),.int .i64 0])∧RVrow w0 w.heap.size w' v' cs∧cs.map Prod.fst=l
  | none=>e = .returned (.tuple #[.slice none 0 0,.int .i64 0,.int .i64 4])) else e = .returned (.tuple #[.slice none 0 0,.int .i64 0,.int .i64 2])
theorem RUnpackP.no_of {w0 w w':World} {y:Bool} {o:Option (List V × Nat)} {e:Ending} (hy:y=false) (he:e = .returned (.tuple #[.slice none 0 0,.int .i64 0,.int .i64 2])) (hb:Below w.heap.size w w'):RUnpackP w0 w y o e w':=by
 subst hy;exact ⟨hb,by simpa using he⟩
theorem RUnpackP.none_of {w0 w w':World} {y:Bool} {o:Option (List V × Nat)} {e:Ending} (hy:y=true) (ho:o=none) (he:e = .returned (.tuple #[.slice none 0 0,.int .i64 0,.int .i64 4])) (hb:Below w.heap.size w w'):RUnpackP w0 w y o e w':=by
 subst hy;subst ho;exact ⟨hb,by simpa using he⟩
theorem RUnpackP.some_of {w0 w w':World} {y:Bool} {o:Option (List V × Nat)} {l:List V} {k:Nat} {v':Value} {cs:List (V × Value)} {e:Ending} (hy:y=true) (ho:o=some (l,k)) (he:e = .returned (.tuple #[v',.int .i64 (k:Int),.int .i64 0])) (hr:RVrow w0 w.heap.size w' v' cs) (hl:cs.map Prod.fst=l) (hb:Below w.heap.size w w'):RUnpackP w0 w y o e w':=by
 subst hy;subst ho;exact ⟨hb,by rw [if_pos rfl];exact ⟨v',cs,he,hr,hl⟩⟩
end Go.Proofs.YthkmihedkddnmaaGreat
namespace Go.Proofs.YthkmihedkddnmaaGreat
open Go.RowKit
open Wire Cmd
def RowA (B:Nat) (w W:World) (v:Value) (l:List V):Prop :=
 ∃ xs,W.ownsRow B 20 1 v l.length xs∧∀ (j:Nat) (x:V),l[j]? = some x→∃ u,xs[j]? = some u∧AnyV w u x
theorem RowA.below {B:Nat} {w W W':World} {v:Value} {l:List V} (h:RowA B w W v l) (hb:Below W.heap.size W W'):RowA B w W' v l:=by
 obtain ⟨xs,ho,hx⟩:=h;exact ⟨xs,ownsRow_below ho hb,hx⟩
theorem RowA.at {B:Nat} {w W W':World} {v:Value} {l:List V} (h:RowA B w W v l) (hs:∀ k∈ob v,W'.heap[k]? = W.heap[k]?):RowA B w W' v l:=by
 obtain ⟨xs,ho,hx⟩:=h;exact ⟨xs,ownsRow_at ho hs,hx⟩
theorem RowA.snoc {B:Nat} {w W':World} {v' u:Value} {l:List V} {x:V} {xs:List Value} (hx:∀ (j:Nat) (x:V),l[j]? = some x→∃ u,xs[j]? = some u∧AnyV w u x) (hn:xs.length=l.length)
  (ho:W'.ownsRow B 20 1 v' (l.length+1) (xs ++ [u])) (hu:AnyV w u x):RowA B w W' v' (l ++ [x]):=by
 refine ⟨xs ++ [u],by rw [List.length_append];exact ho,fun j y hj => ?_⟩
 rcases Nat.lt_trichotomy j l.length with h | h | h
 ·rw [List.getElem?_append_left h] at hj
  obtain ⟨z,h1,h2⟩:=hx j y hj;exact ⟨z,by rw [List.getElem?_append_left (by omega)];exact h1,h2⟩
 ·subst h
  have hy:x=y:=by simpa using hj
  subst hy;exact ⟨u,by rw [← hn];simp,hu⟩
 ·rw [List.getElem?_eq_none (by simp;omega)] at hj;cases hj
structure ShM (B K:Nat) (w:World) (o:Op0) (sl v:Value) (l:List V) (pos:Nat) (W:World):Prop where
 it:W.heap[K]? = some (.stringIter (strB (nm o.k)) pos)
 bx:W.heap[B]? = some (.cells (oC o sl) 40 (0,0))
 row:RowA (B+1) w W v l
 ap:∀ j∈ob v,j≠K
 below:Below B w W
 kb:B+1<K
theorem ShM.next {B K:Nat} {w:World} {o:Op0} {sl v:Value} {l:List V} {pos p':Nat} {W:World} (h:ShM B K w o sl v l pos W):ShM B K w o sl v l p' (W.iterAt K (strB (nm o.k)) p') :=
 ⟨Lib.iterAt_heap W K _ pos p' h.it,(Lib.iterAt_other _ _ _ _ _ (by have:=h.kb;omega)).trans h.bx,h.row.at (fun k hk=>Lib.iterAt_other _ _ _ _ _ (h.ap k hk)),h.ap,Lib.below_iterAt h.below (by have:=h.kb;omega) _ _,h.kb⟩
theorem ShM.grown {B K:Nat} {w:World} {o:Op0} {sl v v' u:Value} {l:List V} {x:V} {xs:List Value} {pos:Nat} {W W':World} (h:ShM B K w o sl v l pos W)
  (hx:∀ (j:Nat) (x:V),l[j]? = some x→∃ u,xs[j]? = some u∧AnyV w u x) (hn:xs.length=l.length) (ho1:W.ownsRow (B+1) 20 1 v l.length xs)
  (ho:W'.ownsRow (B+1) 20 1 v' (l.length+1) (xs ++ [u])) (hu:AnyV w u x) (hb:Below (B+1) W W') (hg:W.grownBy W' v.ownBlock) (hs:SameOrNew W v v'):ShM B K w o sl v' (l ++ [x]) pos W':=by
 have hk:=(hLT h.it)
 have hkb:=h.kb;refine ⟨(hg.block K hk (fun e=>h.ap K (by unfold ob;rw [Option.mem_toList];exact e.symm) rfl)).trans h.it,(hb.block B (by omega)).trans h.bx,RowA.snoc hx hn ho hu,fun j hj => ?_,h.below.trans (hb.mono (by omega)),hkb⟩
 rcases (Chg.of_grown hg hs).2 j hj with h1 | h1
 ·exact h.ap j h1
 ·omega
end Go.Proofs.YthkmihedkddnmaaGreat
namespace Go.Proofs.YthkmihedkddnmaaGreat
open Go.RowKit
open Wire Cmd
theorem AnyV.one {w:World} {u:Value} {x:V} (h:AnyV w u x):u.oneCell'=true:=by
 rcases h with ⟨_,rfl,_⟩ | ⟨_,rfl⟩ | ⟨_,sl,rfl,_⟩ | ⟨_,rfl,_⟩ | ⟨_,_,_,_,h⟩
 ·rfl
 ·rfl
 ·rfl
 ·rfl
 ·rcases h with ⟨n,rfl⟩ | rfl <;> rfl
end Go.Proofs.YthkmihedkddnmaaGreat
namespace Go.Proofs.YthkmihedkddnmaaGreat
open Go.RowKit
open Wire Cmd
end Go.Proofs.YthkmihedkddnmaaGreat
namespace Go.Proofs.YthkmihedkddnmaaGreat
open Go.RowKit
open Wire Cmd
end Go.Proofs.YthkmihedkddnmaaGreat
namespace Go.Proofs.YthkmihedkddnmaaGreat
open Go.RowKit
open Wire Cmd
end Go.Proofs.YthkmihedkddnmaaGreat
namespace Go.Proofs.YthkmihedkddnmaaGreat
open Go.RowKit
open Wire Cmd
end Go.Proofs.YthkmihedkddnmaaGreat
namespace Go.Proofs.YthkmihedkddnmaaGreat
open Go.RowKit
end Go.Proofs.YthkmihedkddnmaaGreat
namespace Go.Proofs.YthkmihedkddnmaaGreat
open Go.RowKit
open Wire Cmd
end Go.Proofs.YthkmihedkddnmaaGreat
namespace Go.Proofs.YthkmihedkddnmaaGreat
open Go.RowKit
open Wire Cmd
namespace Cmd
structure Ans0 where
 code:Int
 done:Int
 data:List UInt8
deriving DecidableEq
def ansEq (a b:Ans0):Bool:=decide (a=b)
structure Ans0.Ok (a:Ans0):Prop where
 code : -9223372036854775808≤a.code∧a.code≤9223372036854775807
 done : -9223372036854775808≤a.done∧a.done≤9223372036854775807
def MayA (a:Ans0):Prop:=0≤a.code∧a.code≤14∧0≤a.done∧a.done≤1024∧(a.done=0∨a.code=8)∧a.data.length % 64=0∧a.data.length≤65536∧(a.code=0∨a.data.length=0)
instance (a:Ans0):Decidable (MayA a):=by unfold MayA;infer_instance
def mayA (a:Ans0):Bool:=decide (MayA a)
def packA (a:Ans0):Option (List UInt8):=if mayA a then pack [49,52,42] [num (toU a.code),num (toU a.done),blob a.data] else none
end Cmd
end Go.Proofs.YthkmihedkddnmaaGreat
namespace Go.Proofs.YthkmihedkddnmaaGreat
open Go.RowKit
open Wire Cmd
def aC (a:Ans0) (sl:Value):Array Value:=#[.int .i64 a.code,.int .i64 a.done,sl]
end Go.Proofs.YthkmihedkddnmaaGreat
namespace Go.Proofs.YthkmihedkddnmaaGreat
open Go.RowKit
open Wire Cmd
end Go.Proofs.YthkmihedkddnmaaGreat
namespace Go.Proofs.YthkmihedkddnmaaGreat
open Go.RowKit
open Wire Cmd
end Go.Proofs.YthkmihedkddnmaaGreat
namespace Go.Proofs.YthkmihedkddnmaaGreat
open Go.RowKit
open Wire Cmd
end Go.Proofs.YthkmihedkddnmaaGreat
namespace Go.Proofs.YthkmihedkddnmaaGreat
open Wire Cmd
namespace Cmd
def getL (o:Op0) (c:UInt8) (v:V):Op0 :=
 if c=118 then { o with vol:=v.n } else if c=116 then ⟨o.k,o.vol,v.n,o.size,o.pl,o.count,o.data⟩ else if c=115 then { o with size:=(v.n:Int) }
 else if c=97 then { o with pl:=(v.n:Int) } else if c=99 then { o with count:=(v.n:Int) } else { o with data:=v.b }
def getAll:Op0→List UInt8→List V→Op0
 | o,c :: cs,v :: vs=>getAll (getL o c v) cs vs
 | o,_,_=>o
def kind0 (k:UInt8):Op0:=⟨(k.toNat:Int),0,0,0,0,0,[]⟩
def ofO:List UInt8→Option Op0
 | []=>none
 | k :: r=>(unpack (shS (nm (k.toNat:Int))) r).bind fun p =>
  if p.2=r.length then (if mayO (getAll (kind0 k) (nm (k.toNat:Int)) p.1) then some (getAll (kind0 k) (nm (k.toNat:Int)) p.1) else none) else none
def ansV:List V→Option Ans0
 | [x,y,z]=>if mayA ⟨(x.n:Int),(y.n:Int),z.b⟩ then some ⟨(x.n:Int),(y.n:Int),z.b⟩ else none
 | _=>none
def ofA (b:List UInt8):Option Ans0:=(unpack [49,52,42] b).bind fun p=>if p.2=b.length then ansV p.1 else none
end Cmd
def six (c:UInt8):Prop:=c=118∨c=116∨c=115∨c=97∨c=99∨c=100
def ValOf (c:UInt8) (v:V):Prop:=(shL (c.toNat:Int)=52∧v=num v.n∧v.n<4294967296)∨(shL (c.toNat:Int)=42∧v=blob v.b)
inductive VTs:List UInt8→List V→Prop
 | nil:VTs [] []
 | cons {c:UInt8} {cs:List UInt8} {v:V} {vs:List V}:ValOf c v→VTs cs vs→VTs (c :: cs) (v :: vs)
end Go.Proofs.YthkmihedkddnmaaGreat
namespace Go.Proofs.YthkmihedkddnmaaGreat
open Go.ChangeShapes Go.WideShapes Go.ChangeAt Go.RowKit
theorem wf_i64 {n:Int} (h:(Lit.int .i64 n).wf=true) : -9223372036854775808≤n∧n≤9223372036854775807:=by
 simpa [Lit.wf,IntKind.min,IntKind.max,IntKind.signed,IntKind.bits] using h
end Go.Proofs.YthkmihedkddnmaaGreat
namespace Go.Proofs.YthkmihedkddnmaaGreat
open Go.ChangeShapes Go.WideShapes Go.ChangeAt Go.RowKit Go.Deep
open Wire
def byteOf:Value→UInt8
 | .int _ n=>UInt8.ofNat n.toNat
 | _=>0
theorem wf_u8 {n:Int} (h:(Lit.int .u8 n).wf=true):0≤n∧n≤255:=by
 simpa [Lit.wf,IntKind.min,IntKind.max,IntKind.signed,IntKind.bits] using h
theorem wf_u64 {n:Int} (h:(Lit.int .u64 n).wf=true):0≤n∧n≤18446744073709551615:=by
 simpa [Lit.wf,IntKind.min,IntKind.max,IntKind.signed,IntKind.bits] using h
section
variable {H:Type} {enc:TypeId × Value→H} {w:World} {base:Nat} {held:Bool}
theorem bytes_of_trod {fuel:Nat} {v:Value} {x:DataW H × List MemPlace} (hf:DataW.trod enc Tryz.prog w base (fun _=>true) held fuel 33 [v]=some x):∃ n bs,Rd w 1 v n (bV bs):=by
 rcases open_ints Tryz.underlying33 Tryz.underlying5 (by kernel_rfl) hf with ⟨hcs,_⟩ | ⟨x,len,cap,zs,hcs,_,hl,hm,hz,_,hcell,hwz⟩
 ·obtain rfl:v = .slice none 0 0:=by simpa using hcs
  exact ⟨0,[],none,0,rfl,by simp [bV],by simp,⟨fun _=>rfl,by simp,by simp⟩,fun j u hj=>by simp [bV] at hj⟩
 ·obtain rfl:v = .slice (some x) len cap:=by simpa using hcs
  replace hz:zs.length=cap:=by simpa using hz
  refine ⟨len,(zs.take len).map fun z=>UInt8.ofNat z.toNat,some x,cap,rfl,?_,by omega,⟨(fun h=>by cases h),hl,hm⟩,fun j u hj => ?_⟩
  ·rw [bV_len,List.length_map,List.length_take];omega
  ·have hjl:j<len:=by
    have:=(List.getElem?_eq_some_iff.1 hj).1;rw [bV_len,List.length_map,List.length_take] at this;omega
   obtain ⟨b,off,spot⟩:=x;have hc:=hcell j (by omega);have hspot:spot=none:=by
    have h0:=hcell 0 (by omega)
    simpa [Addr.add] using World.cell?_spot h0
   subst hspot;rw [Addr.add_lit] at hc;refine ⟨b,off,rfl,World.block_lt_of_cell? w _ hc,?_⟩;rw [hc];have hzj:zs[j]? = some zs[j]:=List.getElem?_eq_getElem (by omega);have hr:=wf_u8 (hwz zs[j] (List.getElem_mem _));simp only [bV,List.getElem?_map,List.getElem?_take,hjl,if_true,hzj,Option.map_some] at hj;rw [← hj];simp only [List.getD_eq_getElem?_getD,hzj,Option.getD_some,Option.some.injEq,Value.int.injEq,true_and]
   simp
   omega
theorem cellsU64:Tryz.prog.cellsOf 38=1:=by kernel_rfl
theorem cellsBs:Tryz.prog.cellsOf 33=1:=by kernel_rfl
theorem take1 {cs:List Value} {i:Nat} {v:Value} (h:(cs.drop i).take 1=[v]):cs[i]? = some v:=by
 have:((cs.drop i).take 1)[0]? = some v:=by rw [h];rfl
 rw [List.getElem?_take] at this
 simpa using this
end
end Go.Proofs.YthkmihedkddnmaaGreat
namespace Go.Proofs.YthkmihedkddnmaaGreat
open Go.ChangeShapes Go.WideShapes Go.ChangeAt Go.RowKit Go.Deep
open Wire Cmd
section
variable {H:Type} {enc:TypeId × Value→H} {w:World} {base:Nat} {held:Bool}
theorem cellsOp:Tryz.prog.cellsOf 40=7:=by kernel_rfl
theorem cellsOK:Tryz.prog.cellsOf 37=1:=by kernel_rfl
theorem cellsI:Tryz.prog.cellsOf 3=1:=by kernel_rfl
theorem op_of_trod {fuel:Nat} {cs:List Value} {x:DataW H × List MemPlace} (hf:DataW.trod enc Tryz.prog w base (fun _=>true) held fuel 40 cs=some x) :
  ∃ (o:Op0) (sl:Value),o.Ok∧cs=(oC o sl).toList∧Rd w 1 sl o.data.length (bV o.data):=by
 obtain ⟨xs,n,_,_,hlen,hxl,hi⟩:=DataW.trod_struct Tryz.underlying40 hf;have hx5:xs.length=7:=hxl;rw [cellsOp] at hlen;have f0:DataW.trod enc Tryz.prog w base (fun _=>true) held n 37 ((cs.drop 0).take (Tryz.prog.cellsOf 37))=xs[0]?:=hi 0 _ rfl;rw [cellsOK] at f0;have f1:DataW.trod enc Tryz.prog w base (fun _=>true) held n 38 ((cs.drop 1).take (Tryz.prog.cellsOf 38))=xs[1]?:=hi 1 _ rfl;rw [cellsU64] at f1;have f2:DataW.trod enc Tryz.prog w base (fun _=>true) held n 38 ((cs.drop 2).take (Tryz.prog.cellsOf 38))=xs[2]?:=hi 2 _ rfl;rw [cellsU64] at f2
 have f3:DataW.trod enc Tryz.prog w base (fun _=>true) held n 3 ((cs.drop 3).take (Tryz.prog.cellsOf 3))=xs[3]?:=hi 3 _ rfl;rw [cellsI] at f3;have f4:DataW.trod enc Tryz.prog w base (fun _=>true) held n 3 ((cs.drop 4).take (Tryz.prog.cellsOf 3))=xs[4]?:=hi 4 _ rfl;rw [cellsI] at f4;have f5:DataW.trod enc Tryz.prog w base (fun _=>true) held n 3 ((cs.drop 5).take (Tryz.prog.cellsOf 3))=xs[5]?:=hi 5 _ rfl;rw [cellsI] at f5;have f6:DataW.trod enc Tryz.prog w base (fun _=>true) held n 33 ((cs.drop 6).take (Tryz.prog.cellsOf 33))=xs[6]?:=hi 6 _ rfl
 rw [cellsBs] at f6;rw [List.getElem?_eq_getElem (by omega)] at f0 f1 f2 f3 f4 f5 f6;obtain ⟨n0,e0,_,w0⟩:=DataW.trod_int Tryz.underlying37 f0;obtain ⟨n1,e1,_,w1⟩:=DataW.trod_int Tryz.underlying38 f1;obtain ⟨n2,e2,_,w2⟩:=DataW.trod_int Tryz.underlying38 f2;obtain ⟨n3,e3,_,w3⟩:=DataW.trod_int Tryz.underlying3 f3;obtain ⟨n4,e4,_,w4⟩:=DataW.trod_int Tryz.underlying3 f4;obtain ⟨n5,e5,_,w5⟩:=DataW.trod_int Tryz.underlying3 f5;have h0:=take1 e0;have h1:=take1 e1;have h2:=take1 e2;have h3:=take1 e3;have h4:=take1 e4;have h5:=take1 e5
 obtain ⟨sl,hs⟩:∃ sl,cs[6]? = some sl:=⟨_,List.getElem?_eq_getElem (by omega)⟩
 have e6:(cs.drop 6).take 1=[sl]:=by
  rw [List.drop_eq_getElem_cons (by omega)];have:cs[6]=sl:=by rw [List.getElem?_eq_getElem (by omega)] at hs;exact Option.some.inj hs
  rw [this];rfl
 rw [e6] at f6;obtain ⟨m,bs,hrd⟩:=bytes_of_trod f6;have hm:bs.length=m:=by obtain ⟨_,_,_,hl,_⟩:=hrd;simpa [bV] using hl
 have r0:=wf_i64 w0;have r1:=wf_u64 w1;have r2:=wf_u64 w2;have r3:=wf_i64 w3;have r4:=wf_i64 w4;have r5:=wf_i64 w5;refine ⟨⟨n0,n1.toNat,n2.toNat,n3,n4,n5,bs⟩,sl,⟨r0,by show n1.toNat<_;omega,by show n2.toNat<_;omega,r3,r4,r5⟩,?_,by rw [hm];exact hrd⟩;have q:∀ i (hi:i<cs.length) v,cs[i]? = some v→cs.drop i=v :: cs.drop (i+1):=fun i hi v h=>by
  rw [List.drop_eq_getElem_cons hi];rw [List.getElem?_eq_getElem hi] at h;rw [Option.some.inj h]
 have d0:=q 0 (by omega) _ h0;rw [List.drop_zero] at d0;rw [d0,q 1 (by omega) _ h1,q 2 (by omega) _ h2,q 3 (by omega) _ h3,q 4 (by omega) _ h4,q 5 (by omega) _ h5,q 6 (by omega) _ hs,List.drop_eq_nil_of_le (by omega)];have a1:((n1.toNat:Nat):Int)=n1:=by omega
 have a2:((n2.toNat:Nat):Int)=n2:=by omega
 unfold oC;rw [a1,a2]
end
end Go.Proofs.YthkmihedkddnmaaGreat
namespace Go.Proofs.YthkmihedkddnmaaGreat
open Go.ChangeShapes Go.WideShapes Go.ChangeAt Go.RowKit Go.Deep
open Wire Cmd
section
variable {H:Type} {enc:TypeId × Value→H} {w:World} {base:Nat} {held:Bool}
end
end Go.Proofs.YthkmihedkddnmaaGreat
namespace Go.Proofs.YthkmihedkddnmaaGreat
open Go.RowKit
theorem zeroRow (w:World):(zeroValue 136).run Tryz.prog w = .ok (.agg #[.int .i64 0,.int .i64 0]) w:=by kernel_rfl
theorem zeroSpace (w:World):(zeroValue 137).run Tryz.prog w = .ok (.agg #[.int .i64 0,.int .i64 0]) w:=by kernel_rfl
theorem zeroFork (w:World):(zeroValue 134).run Tryz.prog w = .ok (.agg #[.int .u64 0,.int .u64 0]) w:=by kernel_rfl
theorem as_row (z:Value) (T:TypeId) (w:World):(Instr.typeAssert (.iface 136 z) T 136 true).run Tryz.prog w = .ok (.tuple #[z,.bool true]) w:=run_assert_hit Tryz.underlying136 rfl z w
theorem as_space (z:Value) (T:TypeId) (w:World):(Instr.typeAssert (.iface 137 z) T 137 true).run Tryz.prog w = .ok (.tuple #[z,.bool true]) w:=run_assert_hit Tryz.underlying137 rfl z w
theorem as_fork (z:Value) (T:TypeId) (w:World):(Instr.typeAssert (.iface 134 z) T 134 true).run Tryz.prog w = .ok (.tuple #[z,.bool true]) w:=run_assert_hit Tryz.underlying134 rfl z w
theorem no_row {t:TypeId} (h:t≠136) (z:Value) (T:TypeId) (w:World):(Instr.typeAssert (.iface t z) T 136 true).run Tryz.prog w = .ok (.tuple #[.agg #[.int .i64 0,.int .i64 0],.bool false]) w:=run_assert_miss Tryz.underlying136 rfl h zeroRow z w
theorem no_space {t:TypeId} (h:t≠137) (z:Value) (T:TypeId) (w:World):(Instr.typeAssert (.iface t z) T 137 true).run Tryz.prog w = .ok (.tuple #[.agg #[.int .i64 0,.int .i64 0],.bool false]) w:=run_assert_miss Tryz.underlying137 rfl h zeroSpace z w
theorem no_fork {t:TypeId} (h:t≠134) (z:Value) (T:TypeId) (w:World):(Instr.typeAssert (.iface t z) T 134 true).run Tryz.prog w = .ok (.tuple #[.agg #[.int .u64 0,.int .u64 0],.bool false]) w:=run_assert_miss Tryz.underlying134 rfl h zeroFork z w
theorem nil_row (T:TypeId) (w:World):(Instr.typeAssert .nilIface T 136 true).run Tryz.prog w = .ok (.tuple #[.agg #[.int .i64 0,.int .i64 0],.bool false]) w:=run_assert_nil Tryz.underlying136 rfl zeroRow w
theorem nil_space (T:TypeId) (w:World):(Instr.typeAssert .nilIface T 137 true).run Tryz.prog w = .ok (.tuple #[.agg #[.int .i64 0,.int .i64 0],.bool false]) w:=run_assert_nil Tryz.underlying137 rfl zeroSpace w
theorem nil_fork (T:TypeId) (w:World):(Instr.typeAssert .nilIface T 134 true).run Tryz.prog w = .ok (.tuple #[.agg #[.int .u64 0,.int .u64 0],.bool false]) w:=run_assert_nil Tryz.underlying134 rfl zeroFork w
theorem run_assert_one {P:Program} {t xT:TypeId} {d:TypeDesc} (hu:P.underlying t=some d) (hd:isIfaceD d=false) (v:Value) (w:World):(Instr.typeAssert (.iface t v) xT t false).run P w = .ok v w:=by
 unfold Instr.typeAssert;rw [Sem.run_bind,run_underlying hu w]
 cases d <;> simp_all [isIfaceD]
theorem is_int (z:Value) (T:TypeId) (w:World):(Instr.typeAssert (.iface 3 z) T 3 false).run Tryz.prog w = .ok z w:=run_assert_one Tryz.underlying3 rfl z w
theorem is_row (z:Value) (T:TypeId) (w:World):(Instr.typeAssert (.iface 136 z) T 136 false).run Tryz.prog w = .ok z w:=run_assert_one Tryz.underlying136 rfl z w
theorem is_space (z:Value) (T:TypeId) (w:World):(Instr.typeAssert (.iface 137 z) T 137 false).run Tryz.prog w = .ok z w:=run_assert_one Tryz.underlying137 rfl z w
theorem is_fork (z:Value) (T:TypeId) (w:World):(Instr.typeAssert (.iface 134 z) T 134 false).run Tryz.prog w = .ok z w:=run_assert_one Tryz.underlying134 rfl z w
end Go.Proofs.YthkmihedkddnmaaGreat
namespace Go.Proofs.YthkmihedkddnmaaGreat
open Lib (hid)
open Go.RowKit
open Wire Cmd
def k8:Op0:=⟨8,0,0,0,0,0,[]⟩
def k2:Op0:=⟨2,1,0,0,0,0,[]⟩
def k5:Op0:=⟨5,1,0,0,0,0,List.replicate 64 0⟩
theorem PackP.yes {w w':World} {o:Option (List UInt8)} {bs:List UInt8} {e:Ending} (h:PackP w o e w') (ho:o=some bs):∃ ao cap,e = .returned (.tuple #[.slice ao bs.length cap,.int .i64 0])∧Below w.heap.size w w'∧w'.ownsRow w.heap.size 5 1 (.slice ao bs.length cap) bs.length (bV bs):=by
 obtain ⟨hb,hP⟩:=h;rw [ho] at hP;obtain ⟨v',rfl,ho'⟩:=hP;obtain ⟨ao,cap,rfl,_⟩:=Rd.of_own ho';exact ⟨ao,cap,rfl,hb,ho'⟩
theorem much13_any (o:Op0) (ao:Option Addr) (cap:Nat) (w:World) (hl:o.data.length≤9223372036854775807):Calls Tryz.prog 17 #[.agg (oC o (.slice ao o.data.length cap))] w fun e w'=>e = .returned (.bool (decide (9000<(o.data.length:Int))))∧Below w.heap.size w w':=by
 have hb:=balloc (Below.refl _ w) (.cells (oC o (.slice ao o.data.length cap)) 40);unfold oC at *;have HB:=hid hb;clear hb
 generalize o.data.length=n at *
 go_enter Tryz.func17,Tryz.ntmps17
 go_wp2_with fail;go_ret;exact ⟨rfl,HB.out⟩
end Go.Proofs.YthkmihedkddnmaaGreat
namespace Go.Proofs.YthkmihedkddnmaaGreat
open Lib (hid)
open Go.RowKit
open Wire Cmd
def partV (o:Op0):Value :=
 if o.k=1∨o.k=3 then .iface 3 (.int .i64 o.size)
 else if o.k=4 then .iface 134 (.agg #[.int .u64 (o.vol:Int),.int .u64 (o.to:Int)])
 else if o.k=5 then .iface 136 (.agg #[.int .i64 o.pl,.int .i64 ((o.data.length:Int) / 64)])
 else if o.k=6∨o.k=9 then .iface 136 (.agg #[.int .i64 o.pl,.int .i64 o.count])
 else if o.k=7 then .iface 137 (.agg #[.int .i64 o.pl,.int .i64 o.count])
 else .nilIface
theorem part13_any (o:Op0) (ao:Option Addr) (cap:Nat) (w:World) (hl:o.data.length≤9223372036854775807):Calls Tryz.prog 71 #[.agg (oC o (.slice ao o.data.length cap))] w fun e w'=>e = .returned (partV o)∧Below w.heap.size w w':=by
 have hb:=balloc (Below.refl _ w) (.cells (oC o (.slice ao o.data.length cap)) 40);obtain ⟨k,vol,dst,size,pl,count,data⟩:=o;unfold oC at *;dsimp only at hb hl ⊢;have HB:=hid hb;clear hb;have HL:=hid hl
 by_cases h1:k=1
 ·have HE:Hid (partV ⟨k,vol,dst,size,pl,count,data⟩ = .iface 3 (.int .i64 size)):=hid (by unfold partV;rw [if_pos (.inl h1)])
  subst h1
  go_enter Tryz.func71,Tryz.ntmps71
  go_wp2_with fail;go_ret;exact ⟨by rw [HE.out];rfl,HB.out⟩
 by_cases h3:k=3
 ·have HE:Hid (partV ⟨k,vol,dst,size,pl,count,data⟩ = .iface 3 (.int .i64 size)):=hid (by unfold partV;rw [if_pos (.inr h3)])
  subst h3
  go_enter Tryz.func71,Tryz.ntmps71
  go_wp2_with fail;go_ret;exact ⟨by rw [HE.out];rfl,HB.out⟩
 by_cases h4:k=4
 ·have HE:Hid (partV ⟨k,vol,dst,size,pl,count,data⟩ = .iface 134 (.agg #[.int .u64 (vol:Int),.int .u64 (dst:Int)])):=hid (by subst h4;rfl)
  subst h4;clear h1 h3
  go_enter Tryz.func71,Tryz.ntmps71
  go_wp2_with fail;go_ret;exact ⟨by rw [HE.out];rfl,HB.out⟩
 by_cases h5:k=5
 ·have HE:Hid (partV ⟨k,vol,dst,size,pl,count,data⟩ = .iface 136 (.agg #[.int .i64 pl,.int .i64 ((data.length:Int) / 64)])):=hid (by subst h5;rfl)
  subst h5;clear h1 h3 h4
  generalize data.length=n at *
  go_enter Tryz.func71,Tryz.ntmps71
  go_wp2_with fail;go_ret;exact ⟨by rw [HE.out];rfl,HB.out⟩
 by_cases h6:k=6
 ·have HE:Hid (partV ⟨k,vol,dst,size,pl,count,data⟩ = .iface 136 (.agg #[.int .i64 pl,.int .i64 count])):=hid (by subst h6;rfl)
  subst h6;clear h1 h3 h4 h5
  go_enter Tryz.func71,Tryz.ntmps71
  go_wp2_with fail;go_ret;exact ⟨by rw [HE.out];rfl,HB.out⟩
 by_cases h9:k=9
 ·have HE:Hid (partV ⟨k,vol,dst,size,pl,count,data⟩ = .iface 136 (.agg #[.int .i64 pl,.int .i64 count])):=hid (by subst h9;rfl)
  subst h9;clear h1 h3 h4 h5 h6
  go_enter Tryz.func71,Tryz.ntmps71
  go_wp2_with fail;go_ret;exact ⟨by rw [HE.out];rfl,HB.out⟩
 by_cases h7:k=7
 ·have HE:Hid (partV ⟨k,vol,dst,size,pl,count,data⟩ = .iface 137 (.agg #[.int .i64 pl,.int .i64 count])):=hid (by subst h7;rfl)
  subst h7;clear h1 h3 h4 h5 h6 h9
  go_enter Tryz.func71,Tryz.ntmps71
  go_wp2_with fail;go_ret;exact ⟨by rw [HE.out];rfl,HB.out⟩
 have HE:Hid (partV ⟨k,vol,dst,size,pl,count,data⟩ = .nilIface):=hid (by
  unfold partV;rw [if_neg (fun h=>by rcases h with h | h;exact h1 h;exact h3 h),if_neg h4,if_neg h5,if_neg (fun h=>by rcases h with h | h;exact h6 h;exact h9 h),if_neg h7])
 have g1:=bneI h1;have g3:=bneI h3;have g4:=bneI h4;have g5:=bneI h5;have g6:=bneI h6;have g9:=bneI h9;have g7:=bneI h7;clear h1 h3 h4 h5 h6 h9 h7
 go_enter Tryz.func71,Tryz.ntmps71
 go_wp2_with fail;go_ret;exact ⟨by rw [HE.out];rfl,HB.out⟩
end Go.Proofs.YthkmihedkddnmaaGreat
namespace Go.Proofs.YthkmihedkddnmaaGreat
open Go.RowKit
section
variable {α:Type} {H:Type}
def insA (x:Nat × α):List (Nat × α)→List (Nat × α)
 | []=>[x]
 | y :: r=>if x.1<y.1 then x :: y :: r else y :: insA x r
def delA (k:Nat) (l:List (Nat × α)):List (Nat × α):=l.filter fun p => !(p.1 == k)
def putA (k:Nat) (a:α) (l:List (Nat × α)):List (Nat × α):=insA (k,a) (delA k l)
def getA (k:Nat) (l:List (Nat × α)):Option α:=(l.find? fun p=>p.1 == k).map (·.2)
def Ris (l:List (Nat × α)):Prop:=l.Pairwise fun p q=>p.1<q.1
theorem mem_insA {x y:Nat × α}:∀ {l:List (Nat × α)},y∈insA x l ↔ y=x∨y∈l
 | []=>by simp [insA]
 | z :: r=>by
  unfold insA
  split
  ·simp
  ·rw [List.mem_cons,mem_insA,List.mem_cons]
   constructor
   ·rintro (h | h | h)
    ·exact .inr (.inl h)
    ·exact .inl h
    ·exact .inr (.inr h)
   ·rintro (h | h | h)
    ·exact .inr (.inl h)
    ·exact .inl h
    ·exact .inr (.inr h)
theorem ris_insA {x:Nat × α}:∀ {l:List (Nat × α)},Ris l→(∀ y∈l,y.1≠x.1)→Ris (insA x l)
 | [],_,_=>by simp [insA,Ris]
 | z :: r,h,hn=>by
  obtain ⟨h1,h2⟩:=List.pairwise_cons.1 h;unfold insA
  split
  ·rename_i hlt
   refine List.pairwise_cons.2 ⟨fun y hy => ?_,h⟩
   rcases List.mem_cons.1 hy with rfl | hy
   ·exact hlt
   ·exact Nat.lt_trans hlt (h1 y hy)
  ·rename_i hlt
   have:=hn z (List.mem_cons_self ..);refine List.pairwise_cons.2 ⟨fun y hy => ?_,ris_insA h2 (fun y hy=>hn y (List.mem_cons_of_mem _ hy))⟩
   rcases mem_insA.1 hy with rfl | hy
   ·omega
   ·exact h1 y hy
theorem ris_filter {l:List (Nat × α)} (h:Ris l) (f:Nat × α→Bool):Ris (l.filter f):=List.Pairwise.filter f h
theorem ris_delA {l:List (Nat × α)} (h:Ris l) (k:Nat):Ris (delA k l):=ris_filter h _
theorem delA_ne {l:List (Nat × α)} {k:Nat}:∀ y∈delA k l,y.1≠k:=by
 intro y hy;have:=(List.mem_filter.1 hy).2
 simpa using this
theorem ris_putA {l:List (Nat × α)} (h:Ris l) (k:Nat) (a:α):Ris (putA k a l):=ris_insA (ris_delA h k) delA_ne
theorem insA_len (x:Nat × α):∀ l:List (Nat × α),(insA x l).length=l.length+1
 | []=>rfl
 | y :: r=>by
  unfold insA
  split
  ·rfl
  ·simp only [List.length_cons,insA_len x r]
theorem mem_putA {y:Nat × α} {k:Nat} {a:α} {l:List (Nat × α)} (h:y∈putA k a l):y=(k,a)∨y∈l:=by
 rcases mem_insA.1 h with h | h
 ·exact .inl h
 ·exact .inr (List.mem_filter.1 h).1
theorem getA_none {k:Nat} {l:List (Nat × α)} (h:getA k l=none):∀ y∈l,y.1≠k:=by
 intro y hy he;unfold getA at h;rw [Option.map_eq_none_iff,List.find?_eq_none] at h;exact h y hy (by simpa using he)
theorem getA_some {k:Nat} {l:List (Nat × α)} {a:α} (h:getA k l=some a):(k,a)∈l:=by
 unfold getA at h;obtain ⟨p,hp,rfl⟩:=Option.map_eq_some_iff.1 h;have h1:=List.mem_of_find?_eq_some hp;have h2:=List.find?_some hp;have:p.1=k:=by simpa using h2
 subst this;exact h1
theorem delA_none {k:Nat} {l:List (Nat × α)} (h:getA k l=none):delA k l=l:=by
 unfold delA;rw [List.filter_eq_self];intro y hy;have:=getA_none h y hy
 simpa using this
theorem getA_at {l:List (Nat × α)} (h:Ris l) {i:Nat} {p:Nat × α} (hp:l[i]? = some p):getA p.1 l=some p.2:=by
 induction l generalizing i with
 | nil=>simp at hp
 | cons y r ih =>
  obtain ⟨h1,h2⟩:=List.pairwise_cons.1 h
  cases i with
  | zero =>
   obtain rfl:y=p:=by simpa using hp
   simp [getA]
  | succ i =>
   have hp':r[i]? = some p:=by simpa using hp
   have:=h1 p (List.mem_of_getElem? hp');have e:(y.1 == p.1)=false:=by rw [beq_eq_false_iff_ne];omega
   have:=ih h2 hp';unfold getA at this ⊢;rw [List.find?_cons,e];exact this
def encA (q:IntKind) (f:α→DataW H) (l:List (Nat × α)):List (Lit × DataW H):=l.map fun p=>(.int q (p.1:Int),f p.2)
def encM (q:IntKind) (f:α→DataW H) (l:List (Nat × α)):DataW H:=.map (encA q f l)
theorem same_enc (q:IntKind) (a b:Nat):(Lit.int q (a:Int)).sameKey (.int q (b:Int))=(a == b):=by
 simp only [Lit.sameKey,true_and];rw [Bool.eq_iff_iff,decide_eq_true_eq,beq_iff_eq];omega
theorem encA_filter (q:IntKind) (f:α→DataW H) (k:Nat) (l:List (Nat × α)):(encA q f l).filter (fun p => !p.1.sameKey (.int q (k:Int)))=encA q f (delA k l):=by
 unfold encA delA;rw [List.filter_map]
 congr 1
 refine List.filter_congr fun p _ => ?_;simp only [Function.comp,same_enc]
theorem encA_insert (q:IntKind) (f:α→DataW H) (k:Nat) (a:α):∀ l:List (Nat × α),DataW.insert (.int q (k:Int),f a) (encA q f l)=encA q f (insA (k,a) l)
 | []=>rfl
 | y :: r=>by
  have ih:=encA_insert q f k a r;unfold encA at ih ⊢;simp only [List.map_cons,DataW.insert,insA,Lit.before,decide_eq_true_eq]
  by_cases h:k<y.1
  ·rw [if_pos (by omega),if_pos h]
   rfl
  ·rw [if_neg (by omega),if_neg h]
   simp only [List.map_cons,ih]
theorem put_enc (q:IntKind) (f:α→DataW H) (k:Nat) (a:α) (l:List (Nat × α)):(encM q f l).put (.int q (k:Int)) (f a)=encM q f (putA k a l):=by
 show DataW.map (DataW.insert _ (List.filter _ _))=_
 rw [encA_filter,encA_insert]
 rfl
theorem del_enc (q:IntKind) (f:α→DataW H) (k:Nat) (l:List (Nat × α)):(encM q f l).del (.int q (k:Int))=encM q f (delA k l):=by
 show DataW.map (List.filter _ _)=_
 rw [encA_filter]
 rfl
theorem find_enc (q:IntKind) (f:α→DataW H) (k:Nat):∀ l:List (Nat × α),(encA q f l).find? (fun p=>p.1.sameKey (.int q (k:Int)))=(l.find? fun p=>p.1 == k).map fun p=>(.int q (p.1:Int),f p.2)
 | []=>rfl
 | y :: r=>by
  have ih:=find_enc q f k r;unfold encA at ih ⊢;rw [List.map_cons,List.find?_cons,List.find?_cons,same_enc,ih]
  cases (y.1 == k) <;> rfl
theorem at_enc (q:IntKind) (f:α→DataW H) (k:Nat) (l:List (Nat × α)) (z:DataW H):(encM q f l).atKey (.int q (k:Int)) z=match getA k l with | some a=>f a | none=>z:=by
 show (match (encA q f l).find? _ with | some p=>p.2 | none=>z)=_
 rw [find_enc];unfold getA
 cases l.find? (fun p=>p.1 == k) <;> rfl
theorem has_enc (q:IntKind) (f:α→DataW H) (k:Nat) (l:List (Nat × α)):Maps.has (encM q f l) (.int q (k:Int))=(getA k l).isSome:=by
 show (encA q f l).any _=_
 unfold getA;rw [Option.isSome_map]
 induction l with
 | nil=>rfl
 | cons y r ih =>
  unfold encA at ih ⊢;rw [List.map_cons,List.any_cons,List.find?_cons,same_enc,ih]
  cases (y.1 == k) <;> simp
theorem size_enc (q:IntKind) (f:α→DataW H) (l:List (Nat × α)):Maps.size (encM q f l)=l.length:=by
 show (encA q f l).length=_
 simp [encA]
end
end Go.Proofs.YthkmihedkddnmaaGreat
