import Derived.Deep.RegionHeld3
import Derived.Test.YthkmihedkddnmaaGreatUG3
import Derived.Test.YthkmihedkddnmaaGreatUG1
import Derived.Laws.CopyOwn
set_option linter.unusedVariables false
set_option linter.unusedSimpArgs false
set_option maxHeartbeats 12800000
set_option maxRecDepth 100000
namespace Go.Proofs.YthkmihedkddnmaaGreat
open Lib (hid)
open Go.RowKit
open Wire
theorem zsz2:Tryz.zeroCells128.size=260:=by kernel_rfl
structure RP (B:Nat) (w:World) (vb:Nat) (x:V) (sl v':Value) (acc:List UInt8) (W:World):Prop where
 below:Below B w W
 rng:W.rangeAt vb 0 (rC x sl)
 lt:vb<W.heap.size
 rd:Rd W 1 sl x.b.length (bV x.b)
 own:W.ownsRow B 5 1 v' acc.length (bV acc)
 base:B≤W.heap.size
theorem RP.mono {B:Nat} {w:World} {vb:Nat} {x:V} {sl v':Value} {acc:List UInt8} {W W':World} (h:RP B w vb x sl v' acc W) (hb:Below W.heap.size W W'):RP B w vb x sl v' acc W' :=
 ⟨h.below.trans (hb.mono h.base),rangeAt_below h.rng h.lt hb,Nat.lt_of_lt_of_le h.lt hb.size,h.rd.below hb,ownsRow_below h.own hb,Nat.le_trans h.base hb.size⟩
end Go.Proofs.YthkmihedkddnmaaGreat
namespace Go.Proofs.YthkmihedkddnmaaGreat
open Lib (hid)
open Go.RowKit
open Wire
def V0:V:=⟨0,0,false,[],List.replicate 256 0⟩
theorem zero_rC:Tryz.zeroCells128=(rC V0 (.slice none 0 0)).toArray:=by kernel_rfl
theorem zero_list:Tryz.zeroCells128.toList=rC V0 (.slice none 0 0):=by rw [zero_rC]
theorem set_rC {l:List Value} {v:V} {sl:Value} (h:l=rC v sl) (hx:v.x.length=256) (h1:∀ u∈l,u.oneCell'=true) (w:World) :
  (storeCells ⟨w.heap.size,0,none⟩ l).run Tryz.prog (w.alloc (.cells Tryz.zeroCells128 128)) = .ok () (w.alloc (.cells (rC v sl).toArray 128)):=by
 subst h;exact run_storeNew (P:=Tryz.prog) w 128 Tryz.zeroCells128 (rC v sl).toArray (by rw [zsz2,List.size_toArray,rC_len hx]) (by simpa using h1)
theorem rC_one' {v:V} {sl:Value} (hs:sl.oneCell'=true):∀ u∈rC v sl,u.oneCell'=true:=by
 intro u hu;simp only [rC,List.mem_cons] at hu
 rcases hu with rfl | rfl | rfl | rfl | hu
 ·rfl
 ·rfl
 ·rfl
 ·exact hs
 ·exact bV_one _ u hu
theorem rep256:(List.replicate 256 (0:UInt8)).length=256:=List.length_replicate
theorem res_rC {fn:Func} {p:Tmp} (h:fn.results=#[.cell p 128]) (tmps:Array Value) (w:World) (v:V) (sl:Value) (hx:v.x.length=256) (hp:tmps.getD p undef = .pointer (some ⟨w.heap.size,0,none⟩)) :
  (results fn tmps).run Tryz.prog (w.alloc (.cells (rC v sl).toArray 128)) = .ok (rA v sl) (w.alloc (.cells (rC v sl).toArray 128)) :=
 results_cell_row h tmps _ w.heap.size 128 _ (0,0) _ hp (heap_alloc_new w _) Tryz.underlying128 rfl (by rw [infoRV,List.size_toArray,rC_len hx])
theorem mk_num (n:Nat) (w:World):Calls Tryz.prog 93 #[.int .u64 (n:Int)] w fun e w'=>e = .returned (rA (num n) (.slice none 0 0))∧Below w.heap.size w w':=by
 have hst:=set_rC (l:=(Tryz.zeroCells128.toList.set 0 (.int .u8 56)).set 1 (.int .u64 (n:Int))) (v:=num n) (sl:=.slice none 0 0) (by rw [zero_list];rfl) rep256 (by rw [zero_list];exact rC_one' (v:=num n) (sl:=.slice none 0 0) (by rfl)) w;have hzz:=zsz2
 go_enter Tryz.func93,Tryz.ntmps93
 go_wp2_with fail;exact bodyPost_ret (v:=rA (num n) (.slice none 0 0)) (res_rC rfl _ w (num n) (.slice none 0 0) rep256 rfl) rfl ⟨rfl,balloc (Below.refl _ _) _⟩
theorem mk_flag (y:Bool) (w:World):Calls Tryz.prog 89 #[.bool y] w fun e w'=>e = .returned (rA (flag y) (.slice none 0 0))∧Below w.heap.size w w':=by
 have hst:=set_rC (l:=(Tryz.zeroCells128.toList.set 0 (.int .u8 63)).set 2 (.bool y)) (v:=flag y) (sl:=.slice none 0 0) (by rw [zero_list];rfl) rep256 (by rw [zero_list];exact rC_one' (v:=flag y) (sl:=.slice none 0 0) (by rfl)) w;have hzz:=zsz2
 go_enter Tryz.func89,Tryz.ntmps89
 go_wp2_with fail;exact bodyPost_ret (v:=rA (flag y) (.slice none 0 0)) (res_rC rfl _ w (flag y) (.slice none 0 0) rep256 rfl) rfl ⟨rfl,balloc (Below.refl _ _) _⟩
theorem mk_blob (ao:Option Addr) (n cap:Nat) (bs:List UInt8) (w:World):Calls Tryz.prog 91 #[.slice ao n cap] w fun e w'=>e = .returned (rA (blob bs) (.slice ao n cap))∧Below w.heap.size w w':=by
 have hst:=set_rC (l:=(Tryz.zeroCells128.toList.set 0 (.int .u8 42)).set 3 (.slice ao n cap)) (v:=blob bs) (sl:=.slice ao n cap) (by rw [zero_list];rfl) rep256 (by rw [zero_list];exact rC_one' (v:=blob bs) (sl:=.slice ao n cap) (by rfl)) w;have hzz:=zsz2
 go_enter Tryz.func91,Tryz.ntmps91
 go_wp2_with fail;exact bodyPost_ret (v:=rA (blob bs) (.slice ao n cap)) (res_rC rfl _ w (blob bs) (.slice ao n cap) rep256 rfl) rfl ⟨rfl,balloc (Below.refl _ _) _⟩
theorem foldl_sets (o:Nat):∀ (l:List Value) (k:Nat) (A:Array Value),o+k+l.length≤A.size→((l.zipIdx k).foldl (fun (cs:Array Value) (x:Value × Nat)=>cs.setIfInBounds (o+x.snd) x.fst) A).toList=A.toList.take (o+k) ++ l ++ A.toList.drop (o+k+l.length)
 | [],k,A,h=>by simp
 | v :: l,k,A,h=>by
  rw [List.length_cons] at h;rw [List.zipIdx_cons,List.foldl_cons,foldl_sets o l (k+1) _ (by rw [Array.size_setIfInBounds];omega)];have hk:o+k<A.toList.length:=by rw [Array.length_toList];omega
  rw [Array.toList_setIfInBounds,List.length_cons];rw [show o+(k+1)=o+k+1 by omega,show o+k+1+l.length=o+k+(l.length+1) by omega];rw [List.take_add_one,List.take_set_of_le (Nat.le_refl _),List.getElem?_set_self hk,List.drop_set_of_lt (by omega)]
  simp
theorem mk_blk (l:List UInt8) (hl:l.length=256) (w:World):Calls Tryz.prog 92 #[bA l] w fun e w'=>e = .returned (rA (blk l) (.slice none 0 0))∧Below w.heap.size w w':=by
 unfold bA;have hzz:=zsz2;have hra:((w.alloc (.cells (bV l).toArray 50)).alloc (.cells Tryz.zeroCells128 128)).rangeAt w.heap.size 0 (bV l):=World.rangeAt_alloc (fun j u hj=>by
  rw [Nat.zero_add];exact cellOf' (heap_alloc_new w _) j (by simpa using hj)) _
 have hi:(Tryz.prog.info? 50).map (·.size)=some (bV l).length:=by rw [bV_len,hl];kernel_rfl
 have HR:=hid (And.intro hra hi);have hxs:(bV l).toArray.size=256:=by simp [bV_len,hl]
 have hF:Array.foldl (fun (cs:Array Value) (x:Value × Nat)=>cs.setIfInBounds (4+x.snd) x.fst) (Tryz.zeroCells128.setIfInBounds 0 (Value.int .u8 35)) (bV l).toArray.zipIdx 0 256=(rC (blk l) (.slice none 0 0)).toArray:=by
  apply Array.toList_inj.1
  have hzi:(bV l).toArray.zipIdx=((bV l).zipIdx 0).toArray:=by apply Array.toList_inj.1;simp
  rw [hzi,List.foldl_toArray' _ _ _ (by simp [bV_len,hl])];have h1:=foldl_sets 4 (bV l) 0 (Tryz.zeroCells128.setIfInBounds 0 (Value.int .u8 35)) (by rw [Array.size_setIfInBounds,zsz2,bV_len,hl];omega);simp only [Nat.add_zero] at h1;rw [h1,Array.toList_setIfInBounds,zero_list,bV_len,hl];have h2:(rC V0 (.slice none 0 0)).set 0 (.int .u8 35) = .int .u8 35 :: .int .u64 0 :: .bool false :: .slice none 0 0 :: bV (List.replicate 256 0):=rfl;rw [h2]
  have h3:(bV (List.replicate 256 0)).drop 256=[]:=List.drop_eq_nil_of_le (by rw [bV_len,List.length_replicate];exact Nat.le_refl _);simp only [List.take_succ_cons,List.take_zero,List.drop_succ_cons,h3,List.append_nil,Nat.reduceAdd]
  rfl
 have hst:=set_rC (l:=rC (blk l) (.slice none 0 0)) (v:=blk l) (sl:=.slice none 0 0) rfl hl (rC_one' rfl) (w.alloc (.cells (bV l).toArray 50));rw [World.size_alloc] at hst;have hsz:(rC (blk l) (.slice none 0 0)).toArray.size=260:=by rw [List.size_toArray,rC_len hl]
 have HRES:=hid (fun (fn:Func) (p:Tmp) (h:fn.results=#[.cell p 128]) (tmps:Array Value)=>res_rC h tmps (w.alloc (.cells (bV l).toArray 50)) (blk l) (.slice none 0 0) hl);have hb2:Below w.heap.size w ((w.alloc (.cells (bV l).toArray 50)).alloc (.cells (rC (blk l) (.slice none 0 0)).toArray 128)):=balloc (balloc (Below.refl _ w) _) _;have HB2:=hid hb2;have htl:(rC (blk l) (.slice none 0 0)).toArray.toList=rC (blk l) (.slice none 0 0):=rfl;rw [← htl] at hst;clear hb2 htl
 generalize hC:(rC (blk l) (.slice none 0 0)).toArray=C at *
 generalize hX:bV l=X at *
 generalize hXA:X.toArray=XA at *
 clear hra hi
 go_enter Tryz.func92,Tryz.ntmps92
 go_wp2_with fail;refine wp_load_mid 50 _ rfl w.heap.size 0 rfl X _ HR.out.1 Tryz.underlying50 rfl HR.out.2 ?_;rw [hXA];go_wp2_with fail;exact bodyPost_ret (v:=rA (blk l) (.slice none 0 0)) (HRES.out _ _ rfl _ (by rw [World.size_alloc];rfl)) rfl ⟨rfl,HB2.out⟩
end Go.Proofs.YthkmihedkddnmaaGreat
namespace Go.Proofs.YthkmihedkddnmaaGreat
open Lib (hid)
open Go.RowKit
theorem fold_whole (A:Array Value) (L:List Value) (h:L.length=A.size):Array.foldl (fun (cs:Array Value) (x:Value × Nat)=>cs.setIfInBounds (0+x.snd) x.fst) A L.toArray.zipIdx 0 L.toArray.zipIdx.size=L.toArray:=by
 apply Array.toList_inj.1
 have hzi:L.toArray.zipIdx=(L.zipIdx 0).toArray:=by apply Array.toList_inj.1;simp
 rw [hzi,List.foldl_toArray' _ _ _ (by simp)];have h1:=foldl_sets 0 L 0 A (by omega);rw [h1]
 simp
 omega
theorem run_buildSlice_one {P:Program} (w:World) (t e:TypeId) (n:Nat) (z:Value) (L:List Value) (ht:P.underlying t=some (.slice e)) (hi:(P.info? e).map (fun i=>(i.zero,i.size))=some (some z,n)) (hz:z.cells.size=n) (hL:L.length=n) (hn:0<n) (hn2:n≤1000) :
  (Instr.buildSlice t 1 #[(0,.agg L.toArray)]).run P w = .ok (.slice (some ⟨w.heap.size,0,none⟩) 1 1) (w.alloc (.cells L.toArray e)):=by
 cases hq:P.info? e with
 | none=>rw [hq] at hi;cases hi
 | some i =>
  rw [hq] at hi;simp only [Option.map_some,Option.some.injEq,Prod.mk.injEq] at hi;obtain ⟨h1,h2⟩:=hi;have hs:∀ W,(sizeOf e).run P W = .ok n W:=fun W=>by simp [sizeOf,typeInfo,hq,h2]
  have hzv:∀ W,(zeroValue e).run P W = .ok z W:=fun W=>by simp [zeroValue,typeInfo,hq,h1]
  have hf:∀ A:Array Value,A.size=n→Instr.fill (fun i=>some (i * n,n)) A [(0,Value.agg L.toArray)]=some L.toArray:=by
   intro A hA;unfold Instr.fill;have e1:(Value.agg L.toArray).cells=L.toArray:=rfl;simp only [e1,Nat.zero_mul,List.size_toArray,hL,hA];rw [if_neg (by simp)];unfold Instr.fill
   congr 1
   exact fold_whole A L (by omega)
  unfold Instr.buildSlice;rw [Sem.run_bind,run_underlying ht w];simp only [Result.andThen_ok,Sem.run_bind,hs,Nat.one_mul];rw [if_neg (by omega)];have hn0 : ¬ n=0:=by omega
  simp only [hn0,if_false,Sem.run_bind,hzv,Result.andThen_ok,Sem.run_pure];rw [hf _ (by simp)]
  rfl
theorem wpList_build1 {P:Program} {ops:Array Oper} {rest:List Oper} {o:Oper} {a:Act} {Q:Exit→Act→World→Prop} {w:World} (hgd:o.guard=none) (x:Operand) (t e:TypeId) (n:Nat) (z:Value) (L:List Value)
  (ho:o.op = .buildSlice t 1 #[(0,x)]) (hx:a.eval x = .agg L.toArray) (ht:P.underlying t=some (.slice e)) (hi:(P.info? e).map (fun i=>(i.zero,i.size))=some (some z,n)) (hz:z.cells.size=n) (hL:L.length=n) (hn:0<n) (hn2:n≤1000)
  (h:wpList P ops Q rest (a.put o.dst (.slice (some ⟨w.heap.size,0,none⟩) 1 1)) (w.alloc (.cells L.toArray e))):wpList P ops Q (o :: rest) a w:=by
 refine wpList_plain hgd fun K hK => ?_;have hrun:=run_buildSlice_one (P:=P) w t e n z L ht hi hz hL hn hn2;unfold Oper.wp execOp;simp only [ho,List.map_toArray,List.map_cons,List.map_nil,hx,Sem.run_bind,hrun,Result.andThen_ok,Sem.run_pure];exact hK _ _ h
end Go.Proofs.YthkmihedkddnmaaGreat
namespace Go.Proofs.YthkmihedkddnmaaGreat
open Lib (hid)
open Go.RowKit
open Wire
def RVrow (w0:World) (B:Nat) (w:World) (v:Value) (cs:List (V × Value)):Prop :=
 w.ownsRow B 128 260 v cs.length (cs.map fun p=>rC p.1 p.2).flatten∧∀ p∈cs,p.1.Ok∧Rd w0 1 p.2 p.1.b.length (bV p.1.b)
theorem RVrow.nil (w0:World) (B:Nat) (w:World):RVrow w0 B w (.slice none 0 0) []:=⟨World.ownsRow_nil _ _ _ _,fun p h=>by cases h⟩
theorem RVrow.below {w0 w w':World} {B:Nat} {v:Value} {cs:List (V × Value)} (h:RVrow w0 B w v cs) (hb:Below w.heap.size w w'):RVrow w0 B w' v cs:=⟨ownsRow_below h.1 hb,h.2⟩
theorem infoRV3:(Tryz.prog.info? 128).map (fun i=>(i.zero,i.size))=some (some (.agg Tryz.zeroCells128),260):=by kernel_rfl
theorem flat_get {ls:List (List Value)} (h:∀ l∈ls,l.length=260):∀ {j:Nat} {l:List Value},ls[j]? = some l→∀ {i:Nat} {u:Value},l[i]? = some u→ls.flatten[j * 260+i]? = some u:=by
 induction ls with
 | nil=>intro j l hj;simp at hj
 | cons a ls ih =>
  intro j l hj i u hi;have ha:=h a (by simp)
  cases j with
  | zero =>
   obtain rfl:a=l:=by simpa using hj
   have:i<a.length:=(List.getElem?_eq_some_iff.1 hi).1;rw [List.flatten_cons,Nat.zero_mul,Nat.zero_add,List.getElem?_append_left this];exact hi
  | succ j =>
   have:=ih (fun l hl=>h l (by simp [hl])) (j:=j) (l:=l) (by simpa using hj) hi;rw [List.flatten_cons,List.getElem?_append_right (by rw [ha,Nat.add_mul];omega),ha,show (j+1) * 260+i - 260=j * 260+i by omega];exact this
theorem chs_one {s:ByteArray} {k:Nat} (h:k<s.size):chs (s.extract k (k+1))=[s[k]'h]:=by
 have:chs (s.extract k (k+1))=((chs s).drop k).take 1:=by
  simp [chs,ByteArray.data_extract]
 rw [this,chs_drop h]
 rfl
theorem below_setC {B b:Nat} {a:World} (hb:B≤b):∀ (vs:List Value) (o:Nat) (w:World),Below B a w→Below B a (w.setCells b o vs)
 | [],_,_,h=>h
 | v :: r,o,w,h=>by
  rw [World.setCells];exact below_setC hb r (o+1) _ (h.setCell (p:=⟨b,o,none⟩) hb v)
theorem heap_setC (b:Nat):∀ (vs:List Value) (o:Nat) (w:World) (k:Nat),k≠b→(w.setCells b o vs).heap[k]? = w.heap[k]?
 | [],_,_,_,_=>rfl
 | v :: r,o,w,k,hk=>by
  rw [World.setCells,heap_setC b r (o+1) _ k hk];exact Below.heap_setCell w ⟨b,o,none⟩ v k hk
theorem size_setC (b:Nat):∀ (vs:List Value) (o:Nat) (w:World),(w.setCells b o vs).heap.size=w.heap.size
 | [],_,_=>rfl
 | v :: r,o,w=>by rw [World.setCells,size_setC b r (o+1) _];simp [World.setCell]
structure UP (w0:World) (B:Nat) (w:World) (vb:Nat) (v':Value) (cs:List (V × Value)) (W:World):Prop where
 below:Below B w W
 row:RVrow w0 B W v' cs
 th:W.there vb 0 260
 lt:vb<W.heap.size
 base:B≤vb
 ap:∀ j∈ob v',j≠vb
theorem UP.mono {w0:World} {B:Nat} {w:World} {vb:Nat} {v':Value} {cs:List (V × Value)} {W W':World} (h:UP w0 B w vb v' cs W) (hb:Below W.heap.size W W'):UP w0 B w vb v' cs W' :=
 ⟨h.below.trans (hb.mono (Nat.le_trans h.base (Nat.le_of_lt h.lt))),h.row.below hb,fun j hj=>by
  rw [hb.cell (p:=⟨vb,0+j,none⟩) h.lt,hb.frozen (p:=⟨vb,0+j,none⟩) h.lt];exact h.th j hj,Nat.lt_of_lt_of_le h.lt hb.size,h.base,h.ap⟩
theorem UP.store {w0:World} {B:Nat} {w:World} {vb:Nat} {v':Value} {cs:List (V × Value)} {W:World} (h:UP w0 B w vb v' cs W) (L:List Value) (hl:L.length=260):UP w0 B w vb v' cs (W.setCells vb 0 L)∧(W.setCells vb 0 L).rangeAt vb 0 L :=
 ⟨⟨below_setC h.base L 0 W h.below,⟨ownsRow_at h.row.1 (fun k hk=>heap_setC vb L 0 W k (h.ap k hk)),h.row.2⟩,World.there_setCells h.th _ _ _,by rw [size_setC];exact h.lt,h.base,h.ap⟩,
  World.rangeAt_setCells_same W vb 0 L (by rw [hl];exact h.th)⟩
theorem UP.start {w0:World} {B:Nat} {w wr:World} {v':Value} {cs:List (V × Value)} (hb:Below B w wr) (hr:RVrow w0 B wr v' cs) (hbs:B≤wr.heap.size) (C:Array Value) (hC:C.size=260) (T:TypeId):UP w0 B w wr.heap.size v' cs (wr.alloc (.cells C T)):=by
 have h3:Below wr.heap.size wr (wr.alloc (.cells C T)):=balloc (Below.refl _ wr) _;refine ⟨hb.trans (h3.mono hbs),hr.below h3,fun j hj => ?_,by simp,hbs,fun j hj=>by have:=ownsRow_lt hr.1 j hj;omega⟩;rw [Nat.zero_add];refine ⟨?_,frozenOf (heap_alloc_new wr _) j⟩;rw [cell_of_row _ wr.heap.size j C T (0,0) (heap_alloc_new wr _),Array.getElem?_eq_getElem (by omega)]
 rfl
def RUnpackP (w0 w:World) (y:Bool) (o:Option (List V × Nat)) (e:Ending) (w':World):Prop :=
 Below w.heap.size w w'∧if y then (match o with
  | some (l,k)=>∃ v' cs,e = .returned (.tuple #[v',.int .i64 (k:Int),.int .i64 0])∧RVrow w0 w.heap.size w' v' cs∧cs.map Prod.fst=l
  | none=>e = .returned (.tuple #[.slice none 0 0,.int .i64 0,.int .i64 4])) else e = .returned (.tuple #[.slice none 0 0,.int .i64 0,.int .i64 2])
theorem RUnpackP.no_of {w0 w w':World} {y:Bool} {o:Option (List V × Nat)} {e:Ending} (hy:y=false) (he:e = .returned (.tuple #[.slice none 0 0,.int .i64 0,.int .i64 2])) (hb:Below w.heap.size w w'):RUnpackP w0 w y o e w':=by
 subst hy;exact ⟨hb,by simpa using he⟩
theorem RUnpackP.none_of {w0 w w':World} {y:Bool} {o:Option (List V × Nat)} {e:Ending} (hy:y=true) (ho:o=none) (he:e = .returned (.tuple #[.slice none 0 0,.int .i64 0,.int .i64 4])) (hb:Below w.heap.size w w'):RUnpackP w0 w y o e w':=by
 subst hy;subst ho;exact ⟨hb,by simpa using he⟩
theorem RUnpackP.some_of {w0 w w':World} {y:Bool} {o:Option (List V × Nat)} {l:List V} {k:Nat} {v':Value} {cs:List (V × Value)} {e:Ending} (hy:y=true) (ho:o=some (l,k)) (he:e = .returned (.tuple #[v',.int .i64 (k:Int),.int .i64 0])) (hr:RVrow w0 w.heap.size w' v' cs) (hl:cs.map Prod.fst=l) (hb:Below w.heap.size w w'):RUnpackP w0 w y o e w':=by
 subst hy;subst ho;exact ⟨hb,by rw [if_pos rfl];exact ⟨v',cs,he,hr,hl⟩⟩
theorem zone2:∀ u∈Tryz.zeroCells128.toList,u.oneCell'=true:=by rw [zero_list];exact rC_one' rfl
theorem infoRV4:(Tryz.prog.info? 128).map (fun i=>(i.zero,i.size,i.bytes))=some (some (.agg Tryz.zeroCells128),260,304):=by kernel_rfl
theorem zagg:(Value.agg Tryz.zeroCells128).cells.size=260:=zsz2
theorem zszB:Tryz.zeroCells50.size=256:=by kernel_rfl
theorem zoneB:∀ u∈Tryz.zeroCells50.toList,u.oneCell'=true:=by
 have:Tryz.zeroCells50.toList.all (fun u=>u.oneCell')=true:=by kernel_rfl
 intro u hu;exact List.all_eq_true.1 this u hu
theorem runpack_any (s:ByteArray) {w0 w:World} {v:Value} {m:Nat} {bs:List UInt8} (hrd0:Rd w0 1 v m (bV bs)) (hbw0:Below w0.heap.size w0 w) (hm:m≤20000) (hs:s.size≤40) :
  Calls Tryz.prog 65 #[.string s,v] w (RUnpackP w0 w (may (chs s)) (unpack (chs s) bs)):=by
 have hrd:=hrd0.below hbw0;have HRD0:=hid hrd0;clear hrd0 hbw0;have hlen:bs.length=m:=by obtain ⟨_,_,_,hl,_⟩:=hrd;simpa [bV] using hl
 have HLN:=hid hlen;have HRD:=hid hrd;have CY:=rmay_any s w (by omega);obtain ⟨ao,cap,rfl,_,_,⟨_,hc1,hc2⟩,hcell⟩:=hrd;unfold maxLen at hc2;have HCELL:=hid hcell;obtain ⟨B,hB⟩:∃ B,w.heap.size=B:=⟨_,rfl⟩
 have HB:=hid hB;clear hlen hB hcell
 cases hy:may (chs s) with
 | false =>
  rw [hy] at CY;clear hy
  go_enter Tryz.func65,Tryz.ntmps65
  go_wp2_with fail;refine CY.mono ?_;rintro e w1 ⟨rfl,rfl⟩;clear CY;go_wp2_with fail
  go_ret3
  exact RUnpackP.no_of rfl rfl (Below.refl _ _)
 | true =>
 rw [hy] at CY;have HY:=hid hy;clear hy
 go_enter Tryz.func65,Tryz.ntmps65
 go_wp2_with fail;refine CY.mono ?_;rintro e w1 ⟨rfl,rfl⟩;clear CY;go_wp2_with fail
 go_loopw [7,8,9] (fun o a i wr=>∃ (k q:Nat) (v':Value) (cs:List (V × Value)),k≤s.size∧i = .int .i64 (k:Int)∧a = .int .i64 (q:Int)∧q≤m∧v'=o∧RVrow w0 B wr v' cs∧cs.length=k∧Below B w wr ∧
  unpack (chs s) bs=(unpack ((chs s).drop k) (bs.drop q)).map (fun z=>(cs.map Prod.fst ++ z.1,q+z.2))) (fun _ _ i _=>s.size - (intOf i).toNat)
 case atStart =>
  refine ⟨0,0,_,[],by omega,rfl,rfl,by omega,rfl,RVrow.nil _ _ _,rfl,Below.refl _ _,?_⟩
  simp
 case round =>
  obtain ⟨k,q,v',cs,hk,rfl,rfl,hq,rfl,ho,hcl,hb,hun⟩:=hrel;have HO:=hid ho;have HCL:=hid hcl;have HBW:=hid hb;have HUN:=hid hun;clear ho hcl hb hun
  by_cases hlt:k<s.size
  ·have hw:wid (s[k]'hlt)≠0:=by
    have h1:=HY.out;unfold may at h1;have h2:=List.all_eq_true.1 h1 (s[k]'hlt) (by
     have:(s[k]'hlt)∈(chs s).drop k:=by rw [chs_drop hlt];simp
     exact List.mem_of_mem_drop this)
    simpa using h2
   have CLE:∀ W,Calls Tryz.prog 88 #[.string (s.extract k (k+1))] W fun e w'=>e = .returned (.int .i64 (wid (s[k]'hlt):Int))∧W=w':=fun W=>by
    have h:=rleast_any (s.extract k (k+1)) W (by rw [ByteArray.size_extract];omega);rw [chs_one hlt] at h;have e:least [s[k]'hlt]=wid (s[k]'hlt):=by
     unfold least;rw [if_pos (by rw [may_cons];simp [hw,may])];rw [sumW_cons];rfl
    rw [e] at h;exact h
   have HN:Hid (lift (s[k]'hlt) (bs.drop q)=none→unpack (chs s) bs=none):=hid (fun h=>by rw [HUN.out,chs_drop hlt,unpack,h];rfl);have HSM:Hid (∀ x j,lift (s[k]'hlt) (bs.drop q)=some (x,j)→unpack (chs s) bs=(unpack ((chs s).drop (k+1)) (bs.drop (q+j))).map (fun z=>((cs.map Prod.fst ++ [x]) ++ z.1,(q+j)+z.2))):=hid (fun x j h=>by
    rw [HUN.out,chs_drop hlt,unpack,h];simp only [Option.bind_some,Option.map_map,List.drop_drop]
    congr 1
    funext z
    simp [Function.comp,Nat.add_assoc])
   have hdl:(bs.drop q).length=m - q:=by rw [List.length_drop,HLN.out]
   have hwl:=widI_le ((s[k]'hlt).toNat:Int);have hwl2:wid (s[k]'hlt)≤256:=hwl;have hbs:B≤wr.heap.size:=by have:=HBW.out;rw [← HB.out] at this ⊢;exact this.size
   have hup:=UP.start HBW.out HO.out hbs Tryz.zeroCells128 zsz2 128;have HUP:=hid hup;have hz0:=zone2;have hst0:=run_storeNew (P:=Tryz.prog) wr 128 Tryz.zeroCells128 Tryz.zeroCells128 rfl hz0;have hzz:=zsz2;have HDL:=hid hdl;have HCUT:=hid (fun (z:Nat) (hz:q+z≤m)=>(HRD.out.mid (l:=q) (k:=q+z) (by omega) hz));clear hup hwl hbs hz0 hdl
   generalize hcc:(s[k]'hlt)=c at *
   by_cases hsh:m - q<wid c
   ·have HE:Hid (unpack (chs s) bs=none):=hid (HN.out (by unfold lift;rw [if_pos (by rw [HDL.out];exact hsh)]))
    have hsh2:(m:Int) - (q:Int)<(wid c:Int):=by omega
    clear hsh
    generalize wid c=z at *
    go_wp2_with fail;refine (CLE wr).mono ?_;rintro e w2 ⟨rfl,rfl⟩;go_wp2_with fail
    go_ret3
    exact RUnpackP.none_of rfl HE.out rfl (by rw [HB.out];exact HBW.out)
   rcases letter_cases c with ⟨_,hsz,hnum,n63,n42,n35⟩ | hc | hc | hc | ⟨hw1,_⟩
   ·have hz1:=wid_num hnum
    have c63:((c.toNat:Int) == 63)=false:=letter_ne n63;have c42:((c.toNat:Int) == 42)=false:=letter_ne n42;have c35:((c.toNat:Int) == 35)=false:=letter_ne n35;have HLI:Hid (lift c (bs.drop q)=some (num (sum ((bs.drop q).take (wid c))),wid c)):=hid (by
     unfold lift;rw [if_neg (by rw [HDL.out];exact hsh),if_neg n63,if_neg n42,if_neg n35])
    generalize hci:(c.toNat:Int)=ci at *
    clear hsz hnum n63 n42 n35 hw
    generalize wid c=z at *
    have hqz:q+z≤m:=by omega
    have hrd1:=HCUT.out z hqz;rw [show q+z - q=z by omega] at hrd1;have hsl:=sum_take_lt (bs.drop q) z (by omega);have HXO:Hid ((num (sum ((bs.drop q).take z))).Ok):=hid ⟨hsl,rep256⟩;have HXR:Hid (Rd w0 1 (.slice none 0 0) (num (sum ((bs.drop q).take z))).b.length (bV (num (sum ((bs.drop q).take z))).b)):=hid (Rd.of_own (World.ownsRow_nil w0 0 5 1))
    have CSM:Hid (∀ W,Below w.heap.size w W→Calls Tryz.prog 90 #[.slice (cutA ao cap q 1) z (cap - q)] W fun e w'=>e = .returned (.int .u64 (sum ((bs.drop q).take z):Int))∧W=w'):=hid (fun W hW=>rsum_any _ z _ W (hrd1.below hW) (by omega))
    generalize sum ((bs.drop q).take z)=S at *
    have hcut:=fun W=>run_cut (P:=Tryz.prog) W 33 ao m cap 1 undBytes szBytes (q:Int) ((q:Int)+(z:Int)) (by omega) (by omega) (by omega);rw [show ((q:Int)+(z:Int)).toNat - ((q:Int)).toNat=z by omega] at hcut;simp only [Int.toNat_natCast] at hcut;have hsh2 : ¬ ((m:Int) - (q:Int)<(z:Int)):=by omega
    clear hsh hrd1 hsl HN;go_wp2_with fail;refine (CLE wr).mono ?_;rintro e w2 ⟨rfl,rfl⟩;go_wp2_with fail;refine (CSM.out _ (by rw [HB.out];exact HUP.out.below)).mono ?_;rintro e w2 ⟨rfl,rfl⟩;go_wp2_with fail;refine (mk_num S _).mono ?_;rintro e w2 ⟨rfl,hb2⟩;have HU2:=hid (HUP.out.mono hb2);clear hb2 hcut;have hth:=HU2.out.th;have hone:=rC_one' (v:=num S) (sl:=.slice none 0 0) (by rfl);have hlen0:(rC (num S) (.slice none 0 0)).length=260:=rC_len (HXO.out).x;have hu3:=HU2.out.store (rC (num S) (.slice none 0 0)) hlen0
    have hi:(Tryz.prog.info? 128).map (·.size)=some (rC (num S) (.slice none 0 0)).length:=by rw [hlen0];exact infoRV
    have hi2:(Tryz.prog.info? 128).map (·.size)=some (rC (num S) (.slice none 0 0)).toArray.size:=by rw [List.size_toArray,hlen0];exact infoRV
    have hsz2:(rC (num S) (.slice none 0 0)).toArray.size=260:=by rw [List.size_toArray,hlen0]
    have HU3:=hid (And.intro hu3.1 (And.intro hu3.2 hi));have HTH:Hid (w2.there wr.heap.size 0 (rC (num S) (.slice none 0 0)).toArray.size):=hid (by rw [hsz2];exact hth);have HI2:=hid (And.intro hi2 (all_oneCell_toArray hone));have HNE:Hid (unpack (chs s) bs=(unpack ((chs s).drop (k+1)) (bs.drop (q+z))).map (fun (zz:List V × Nat)=>((cs ++ [((num S,Value.slice none 0 0):V × Value)]).map Prod.fst ++ zz.1,(q+z)+zz.2))):=hid (by rw [HSM.out _ _ HLI.out];simp)
    have HCL2:Hid ((cs ++ [((num S,Value.slice none 0 0):V × Value)]).length=k+1):=hid (by rw [List.length_append,HCL.out];rfl);have HXS:Hid (∀ p∈cs ++ [((num S,Value.slice none 0 0):V × Value)],p.1.Ok∧Rd w0 1 p.2 p.1.b.length (bV p.1.b)):=hid (fun p hp=>by
     rcases List.mem_append.1 hp with h | h
     ·exact hu3.1.row.2 p h
     ·obtain rfl:p=(num S,Value.slice none 0 0):=by simpa using h
      exact ⟨HXO.out,HXR.out⟩)
    have HFL:Hid (((cs ++ [((num S,Value.slice none 0 0):V × Value)]).map fun p=>rC p.1 p.2).flatten=(cs.map fun p=>rC p.1 p.2).flatten ++ rC (num S) (.slice none 0 0)):=hid (by simp);have HONE:Hid (∀ u∈(rC (num S) (.slice none 0 0)).toArray.toList,u.oneCell'=true):=hid (by simpa using hone);have hrown:=hu3.1.row.1;have hBs:B≤(w2.setCells wr.heap.size 0 (rC (num S) (.slice none 0 0)).toArray.toList).heap.size:=Nat.le_trans hu3.1.base (Nat.le_of_lt hu3.1.lt);have hkl:(cs.length+1) * 304≤140737488355328:=by rw [HCL.out];omega
    clear hth hone hlen0 hu3 hi hi2;unfold rA
    generalize hRC:rC (num S) (.slice none 0 0)=RC at *
    clear hRC
    go_upto_region 29 with ((refine wpList_store_mid rfl 128 _ _ rfl wr.heap.size 0 (RC).toArray rfl rfl HTH.out HI2.out.1 HI2.out.2 ?_))
    have hra3:(w2.setCells wr.heap.size 0 RC.toArray.toList).rangeAt wr.heap.size 0 RC:=HU3.out.2.1;have HRA3:=hid hra3;clear hra3;have hrl:RC.length=260:=by simpa using hsz2
    go_wp2_with (first
     | ((refine wpList_load_mid rfl 128 _ rfl wr.heap.size 0 rfl (RC) _ HRA3.out Tryz.underlying128 rfl HU3.out.2.2 ?_))
     | ((refine wpList_load_mid rfl 128 _ rfl wr.heap.size 0 rfl (RC) _ HU3.out.2.1 Tryz.underlying128 rfl HU3.out.2.2 ?_))
     | (refine wpList_build1 rfl _ 124 128 260 _ RC rfl rfl Tryz.underlying124 infoRV3 zsz2 hrl (by omega) (by omega) ?_)
     | (at_builtin;go_must (refine wpList_app rfl _ _ 124 rfl B 128 _ 260 304 Tryz.underlying124 infoRV4 zagg (by decide) (by decide) _ cs.length _ rfl hrown rfl hsz2 HONE.out hkl hBs ?_);intro v5 w5 ho5 hb5 hg5 hs5 hn5))
    have HO5:Hid (RVrow w0 B w5 v5 (cs ++ [((num S,Value.slice none 0 0):V × Value)])):=hid ⟨by rw [HFL.out,List.length_append];exact ho5,HXS.out⟩;have HB5:=hid (HU3.out.1.below.trans hb5);clear ho5 hb5 hg5 hs5 hn5 hrown;go_wp2_with fail;go_roundw
    case rel=>exact ⟨k+1,q+(z),v5,cs ++ [((num S,Value.slice none 0 0):V × Value)],by omega,by go_num,by go_num,by omega,rfl,HO5.out,HCL2.out,HB5.out,HNE.out⟩
    case measure=>simp [intOf];omega
   ·have hz1:wid c=1:=by rw [hc];rfl
    have hqm:q<m:=by omega
    obtain ⟨b0,hb0⟩:∃ b0,bs[q]? = some b0:=⟨_,List.getElem?_eq_getElem (by rw [HLN.out];exact hqm)⟩
    obtain ⟨b,off,rfl,hbl,hce⟩:=HCELL.out q _ (bV_get hb0);have hce1:(wr.alloc (.cells Tryz.zeroCells128 128)).cell? ⟨b,off+q,none⟩=some (.int .u8 (b0.toNat:Int)):=(Below.cell (p:=⟨b,off+q,none⟩) (show Below w.heap.size w (wr.alloc (.cells Tryz.zeroCells128 128)) by rw [HB.out];exact HUP.out.below) hbl).trans hce;have hdr:bs.drop q=b0 :: bs.drop (q+1):=by
     rw [List.drop_eq_getElem_cons (by rw [HLN.out];exact hqm)];rw [List.getElem?_eq_getElem (by rw [HLN.out];exact hqm)] at hb0;rw [Option.some.inj hb0]
    have HSP:Hid (lift c (bs.drop q)=if 1<b0.toNat then none else some (flag (b0 == 1),1)):=hid (by
     rw [hdr,hc];unfold lift;rw [if_neg (by rw [show wid 63=1 from rfl];simp),if_pos rfl]
     rfl)
    have HQ:Hid ((b0 == 1)=((b0.toNat:Int) == 1)):=hid (by
     rw [Bool.eq_iff_iff,beq_iff_eq,beq_iff_eq]
     constructor
     ·rintro rfl;rfl
     ·intro h;exact UInt8.toNat_inj.1 (by simp only [UInt8.reduceToNat];omega))
    have c63:((c.toNat:Int) == 63)=true:=by rw [hc];rfl
    simp only [hz1] at CLE hsh
    generalize hci:(c.toNat:Int)=ci at *
    have hsh2 : ¬ ((m:Int) - (q:Int)<1):=by omega
    clear hce hdr hb0 hc hw hwl2 hz1 hbl
    generalize b0.toNat=qb at *
    by_cases hq1:1<qb
    ·have HE:Hid (unpack (chs s) bs=none):=hid (HN.out (by rw [HSP.out,if_pos hq1]))
     clear hsh;go_wp2_with fail;refine (CLE wr).mono ?_;rintro e w2 ⟨rfl,rfl⟩;go_wp2_with fail
     go_ret3
     exact RUnpackP.none_of rfl HE.out rfl (by rw [HB.out];exact HUP.out.below)
    ·obtain ⟨y,hy⟩:∃ y,((qb:Int) == 1)=y:=⟨_,rfl⟩
     have HLI:Hid (lift c (bs.drop q)=some (flag y,1)):=hid (by rw [HSP.out,if_neg hq1,HQ.out,hy]);have HXO:Hid ((flag y).Ok):=hid ⟨(by show 0<2 ^ 64;omega),rep256⟩;have HXR:Hid (Rd w0 1 (.slice none 0 0) (flag y).b.length (bV (flag y).b)):=hid (Rd.of_own (World.ownsRow_nil w0 0 5 1));clear hsh HN HSP HQ;go_wp2_with fail;refine (CLE wr).mono ?_;rintro e w2 ⟨rfl,rfl⟩;go_wp2_with fail;refine (mk_flag y _).mono ?_;rintro e w2 ⟨rfl,hb2⟩;have HU2:=hid (HUP.out.mono hb2);clear hb2 hce1 hy;have hth:=HU2.out.th
     have hone:=rC_one' (v:=flag y) (sl:=.slice none 0 0) (by rfl);have hlen0:(rC (flag y) (.slice none 0 0)).length=260:=rC_len (HXO.out).x;have hu3:=HU2.out.store (rC (flag y) (.slice none 0 0)) hlen0;have hi:(Tryz.prog.info? 128).map (·.size)=some (rC (flag y) (.slice none 0 0)).length:=by rw [hlen0];exact infoRV
     have hi2:(Tryz.prog.info? 128).map (·.size)=some (rC (flag y) (.slice none 0 0)).toArray.size:=by rw [List.size_toArray,hlen0];exact infoRV
     have hsz2:(rC (flag y) (.slice none 0 0)).toArray.size=260:=by rw [List.size_toArray,hlen0]
     have HU3:=hid (And.intro hu3.1 (And.intro hu3.2 hi));have HTH:Hid (w2.there wr.heap.size 0 (rC (flag y) (.slice none 0 0)).toArray.size):=hid (by rw [hsz2];exact hth);have HI2:=hid (And.intro hi2 (all_oneCell_toArray hone));have HNE:Hid (unpack (chs s) bs=(unpack ((chs s).drop (k+1)) (bs.drop (q+1))).map (fun (zz:List V × Nat)=>((cs ++ [((flag y,Value.slice none 0 0):V × Value)]).map Prod.fst ++ zz.1,(q+1)+zz.2))):=hid (by rw [HSM.out _ _ HLI.out];simp)
     have HCL2:Hid ((cs ++ [((flag y,Value.slice none 0 0):V × Value)]).length=k+1):=hid (by rw [List.length_append,HCL.out];rfl);have HXS:Hid (∀ p∈cs ++ [((flag y,Value.slice none 0 0):V × Value)],p.1.Ok∧Rd w0 1 p.2 p.1.b.length (bV p.1.b)):=hid (fun p hp=>by
      rcases List.mem_append.1 hp with h | h
      ·exact hu3.1.row.2 p h
      ·obtain rfl:p=(flag y,Value.slice none 0 0):=by simpa using h
       exact ⟨HXO.out,HXR.out⟩)
     have HFL:Hid (((cs ++ [((flag y,Value.slice none 0 0):V × Value)]).map fun p=>rC p.1 p.2).flatten=(cs.map fun p=>rC p.1 p.2).flatten ++ rC (flag y) (.slice none 0 0)):=hid (by simp);have HONE:Hid (∀ u∈(rC (flag y) (.slice none 0 0)).toArray.toList,u.oneCell'=true):=hid (by simpa using hone);have hrown:=hu3.1.row.1;have hBs:B≤(w2.setCells wr.heap.size 0 (rC (flag y) (.slice none 0 0)).toArray.toList).heap.size:=Nat.le_trans hu3.1.base (Nat.le_of_lt hu3.1.lt);have hkl:(cs.length+1) * 304≤140737488355328:=by rw [HCL.out];omega
     clear hth hone hlen0 hu3 hi hi2;unfold rA
     generalize hRC:rC (flag y) (.slice none 0 0)=RC at *
     clear hRC
     go_upto_region 29 with ((refine wpList_store_mid rfl 128 _ _ rfl wr.heap.size 0 (RC).toArray rfl rfl HTH.out HI2.out.1 HI2.out.2 ?_))
     have hra3:(w2.setCells wr.heap.size 0 RC.toArray.toList).rangeAt wr.heap.size 0 RC:=HU3.out.2.1;have HRA3:=hid hra3;clear hra3;have hrl:RC.length=260:=by simpa using hsz2
     go_wp2_with (first
      | ((refine wpList_load_mid rfl 128 _ rfl wr.heap.size 0 rfl (RC) _ HRA3.out Tryz.underlying128 rfl HU3.out.2.2 ?_))
      | ((refine wpList_load_mid rfl 128 _ rfl wr.heap.size 0 rfl (RC) _ HU3.out.2.1 Tryz.underlying128 rfl HU3.out.2.2 ?_))
      | (refine wpList_build1 rfl _ 124 128 260 _ RC rfl rfl Tryz.underlying124 infoRV3 zsz2 hrl (by omega) (by omega) ?_)
      | (at_builtin;go_must (refine wpList_app rfl _ _ 124 rfl B 128 _ 260 304 Tryz.underlying124 infoRV4 zagg (by decide) (by decide) _ cs.length _ rfl hrown rfl hsz2 HONE.out hkl hBs ?_);intro v5 w5 ho5 hb5 hg5 hs5 hn5))
     have HO5:Hid (RVrow w0 B w5 v5 (cs ++ [((flag y,Value.slice none 0 0):V × Value)])):=hid ⟨by rw [HFL.out,List.length_append];exact ho5,HXS.out⟩;have HB5:=hid (HU3.out.1.below.trans hb5);clear ho5 hb5 hg5 hs5 hn5 hrown;go_wp2_with fail;go_roundw
     case rel=>exact ⟨k+1,q+(1),v5,cs ++ [((flag y,Value.slice none 0 0):V × Value)],by omega,by go_num,by go_num,by omega,rfl,HO5.out,HCL2.out,HB5.out,HNE.out⟩
     case measure=>simp [intOf];omega
   ·have hz1:wid c=4:=by rw [hc];rfl
    have hq4:q+4≤m:=by omega
    have hrd1:=HCUT.out 4 hq4;rw [show q+4 - q=4 by omega] at hrd1;have HSP:Hid (lift c (bs.drop q)=if 16777216<sum ((bs.drop q).take 4)∨(m - q) - 4<sum ((bs.drop q).take 4) then none else some (blob (((bs.drop q).drop 4).take (sum ((bs.drop q).take 4))),4+sum ((bs.drop q).take 4))):=hid (by
     rw [hc];unfold lift;rw [if_neg (by rw [HDL.out,show wid 42=4 from rfl];omega),if_neg (by decide),if_pos rfl,HDL.out])
    have hsl:=sum_take_lt (bs.drop q) 4 (by omega);have CSM:Hid (∀ W,Below w.heap.size w W→Calls Tryz.prog 90 #[.slice (cutA ao cap q 1) 4 (cap - q)] W fun e w'=>e = .returned (.int .u64 (sum ((bs.drop q).take 4):Int))∧W=w'):=hid (fun W hW=>rsum_any _ 4 _ W (hrd1.below hW) (by omega));have c63:((c.toNat:Int) == 63)=false:=by rw [hc];rfl
    have c42:((c.toNat:Int) == 42)=true:=by rw [hc];rfl
    have hcut:=fun W=>run_cut (P:=Tryz.prog) W 33 ao m cap 1 undBytes szBytes (q:Int) ((q:Int)+4) (by omega) (by omega) (by omega);rw [show ((q:Int)+4).toNat - ((q:Int)).toNat=4 by omega] at hcut;simp only [Int.toNat_natCast] at hcut;simp only [hz1] at CLE hsh
    generalize hS:sum ((bs.drop q).take 4)=S at *
    generalize hci:(c.toNat:Int)=ci at *
    have hsh2 : ¬ ((m:Int) - (q:Int)<4):=by omega
    clear hrd1 hc hw hwl2 hz1 hS hsh
    by_cases hbig:16777216<S
    ·have HE:Hid (unpack (chs s) bs=none):=hid (HN.out (by rw [HSP.out,if_pos (.inl hbig)]))
     go_wp2_with fail;refine (CLE wr).mono ?_;rintro e w2 ⟨rfl,rfl⟩;go_wp2_with fail;refine (CSM.out _ (by rw [HB.out];exact HUP.out.below)).mono ?_;rintro e w2 ⟨rfl,rfl⟩;go_wp2_with fail
     go_ret3
     exact RUnpackP.none_of rfl HE.out rfl (by rw [HB.out];exact HUP.out.below)
    ·by_cases hfar:(m - q) - 4<S
     ·have HE:Hid (unpack (chs s) bs=none):=hid (HN.out (by rw [HSP.out,if_pos (.inr hfar)]))
      have hfar2:(m:Int) - (q:Int) - 4<(S:Int):=by omega
      go_wp2_with fail;refine (CLE wr).mono ?_;rintro e w2 ⟨rfl,rfl⟩;go_wp2_with fail;refine (CSM.out _ (by rw [HB.out];exact HUP.out.below)).mono ?_;rintro e w2 ⟨rfl,rfl⟩;go_wp2_with fail
      go_ret3
      exact RUnpackP.none_of rfl HE.out rfl (by rw [HB.out];exact HUP.out.below)
     ·have hLl:(((bs.drop q).drop 4).take S).length=S:=by rw [List.length_take,List.length_drop,HDL.out];omega
      have HLI:Hid (lift c (bs.drop q)=some (blob (((bs.drop q).drop 4).take S),4+S)):=hid (by rw [HSP.out,if_neg (by omega)]);have hrd2:=HRD0.out.mid (l:=q+4) (k:=q+4+S) (by omega) (by omega);rw [show q+4+S - (q+4)=S by omega,← List.drop_drop] at hrd2;have hcut2:=fun W=>run_cut (P:=Tryz.prog) W 33 ao m cap 1 undBytes szBytes ((q:Int)+4) ((q:Int)+(4+(S:Int))) (by omega) (by omega) (by omega);rw [show ((q:Int)+(4+(S:Int))).toNat - ((q:Int)+4).toNat=S by omega,show ((q:Int)+4).toNat=q+4 by omega] at hcut2
      generalize ((bs.drop q).drop 4).take S=L at *
      have HXO:Hid ((blob L).Ok):=hid ⟨(by show 0<2 ^ 64;omega),rep256⟩;have HXR:Hid (Rd w0 1 (Value.slice (cutA ao cap (q+4) 1) S (cap - (q+4))) (blob L).b.length (bV (blob L).b)):=hid (by show Rd w0 1 _ L.length (bV L);rw [hLl];exact hrd2);have hfar2 : ¬ ((m:Int) - (q:Int) - 4<(S:Int)):=by omega
      clear hrd2 HSP HN hLl;go_wp2_with fail;refine (CLE wr).mono ?_;rintro e w2 ⟨rfl,rfl⟩;go_wp2_with fail;refine (CSM.out _ (by rw [HB.out];exact HUP.out.below)).mono ?_;rintro e w2 ⟨rfl,rfl⟩;go_wp2_with fail;refine (mk_blob _ _ _ L _).mono ?_;rintro e w2 ⟨rfl,hb2⟩;have HU2:=hid (HUP.out.mono hb2);clear hb2 hcut hcut2;have hth:=HU2.out.th;have hone:=rC_one' (v:=blob L) (sl:=Value.slice (cutA ao cap (q+4) 1) S (cap - (q+4))) (by rfl);have hlen0:(rC (blob L) (Value.slice (cutA ao cap (q+4) 1) S (cap - (q+4)))).length=260:=rC_len (HXO.out).x
      have hu3:=HU2.out.store (rC (blob L) (Value.slice (cutA ao cap (q+4) 1) S (cap - (q+4)))) hlen0;have hi:(Tryz.prog.info? 128).map (·.size)=some (rC (blob L) (Value.slice (cutA ao cap (q+4) 1) S (cap - (q+4)))).length:=by rw [hlen0];exact infoRV
      have hi2:(Tryz.prog.info? 128).map (·.size)=some (rC (blob L) (Value.slice (cutA ao cap (q+4) 1) S (cap - (q+4)))).toArray.size:=by rw [List.size_toArray,hlen0];exact infoRV
      have hsz2:(rC (blob L) (Value.slice (cutA ao cap (q+4) 1) S (cap - (q+4)))).toArray.size=260:=by rw [List.size_toArray,hlen0]
      have HU3:=hid (And.intro hu3.1 (And.intro hu3.2 hi));have HTH:Hid (w2.there wr.heap.size 0 (rC (blob L) (Value.slice (cutA ao cap (q+4) 1) S (cap - (q+4)))).toArray.size):=hid (by rw [hsz2];exact hth);have HI2:=hid (And.intro hi2 (all_oneCell_toArray hone));have HNE:Hid (unpack (chs s) bs=(unpack ((chs s).drop (k+1)) (bs.drop (q+(4+S)))).map (fun (zz:List V × Nat)=>((cs ++ [((blob L,(Value.slice (cutA ao cap (q+4) 1) S (cap - (q+4)))):V × Value)]).map Prod.fst ++ zz.1,(q+(4+S))+zz.2))):=hid (by rw [HSM.out _ _ HLI.out];simp)
      have HCL2:Hid ((cs ++ [((blob L,(Value.slice (cutA ao cap (q+4) 1) S (cap - (q+4)))):V × Value)]).length=k+1):=hid (by rw [List.length_append,HCL.out];rfl);have HXS:Hid (∀ p∈cs ++ [((blob L,(Value.slice (cutA ao cap (q+4) 1) S (cap - (q+4)))):V × Value)],p.1.Ok∧Rd w0 1 p.2 p.1.b.length (bV p.1.b)):=hid (fun p hp=>by
       rcases List.mem_append.1 hp with h | h
       ·exact hu3.1.row.2 p h
       ·obtain rfl:p=(blob L,(Value.slice (cutA ao cap (q+4) 1) S (cap - (q+4)))):=by simpa using h
        exact ⟨HXO.out,HXR.out⟩)
      have HFL:Hid (((cs ++ [((blob L,(Value.slice (cutA ao cap (q+4) 1) S (cap - (q+4)))):V × Value)]).map fun p=>rC p.1 p.2).flatten=(cs.map fun p=>rC p.1 p.2).flatten ++ rC (blob L) (Value.slice (cutA ao cap (q+4) 1) S (cap - (q+4)))):=hid (by simp);have HONE:Hid (∀ u∈(rC (blob L) (Value.slice (cutA ao cap (q+4) 1) S (cap - (q+4)))).toArray.toList,u.oneCell'=true):=hid (by simpa using hone);have hrown:=hu3.1.row.1
      have hBs:B≤(w2.setCells wr.heap.size 0 (rC (blob L) (Value.slice (cutA ao cap (q+4) 1) S (cap - (q+4)))).toArray.toList).heap.size:=Nat.le_trans hu3.1.base (Nat.le_of_lt hu3.1.lt);have hkl:(cs.length+1) * 304≤140737488355328:=by rw [HCL.out];omega
      clear hth hone hlen0 hu3 hi hi2;unfold rA
      generalize hRC:rC (blob L) (Value.slice (cutA ao cap (q+4) 1) S (cap - (q+4)))=RC at *
      clear hRC
      go_upto_region 29 with ((refine wpList_store_mid rfl 128 _ _ rfl wr.heap.size 0 (RC).toArray rfl rfl HTH.out HI2.out.1 HI2.out.2 ?_))
      have hra3:(w2.setCells wr.heap.size 0 RC.toArray.toList).rangeAt wr.heap.size 0 RC:=HU3.out.2.1;have HRA3:=hid hra3;clear hra3;have hrl:RC.length=260:=by simpa using hsz2
      go_wp2_with (first
       | ((refine wpList_load_mid rfl 128 _ rfl wr.heap.size 0 rfl (RC) _ HRA3.out Tryz.underlying128 rfl HU3.out.2.2 ?_))
       | ((refine wpList_load_mid rfl 128 _ rfl wr.heap.size 0 rfl (RC) _ HU3.out.2.1 Tryz.underlying128 rfl HU3.out.2.2 ?_))
       | (refine wpList_build1 rfl _ 124 128 260 _ RC rfl rfl Tryz.underlying124 infoRV3 zsz2 hrl (by omega) (by omega) ?_)
       | (at_builtin;go_must (refine wpList_app rfl _ _ 124 rfl B 128 _ 260 304 Tryz.underlying124 infoRV4 zagg (by decide) (by decide) _ cs.length _ rfl hrown rfl hsz2 HONE.out hkl hBs ?_);intro v5 w5 ho5 hb5 hg5 hs5 hn5))
      have HO5:Hid (RVrow w0 B w5 v5 (cs ++ [((blob L,(Value.slice (cutA ao cap (q+4) 1) S (cap - (q+4)))):V × Value)])):=hid ⟨by rw [HFL.out,List.length_append];exact ho5,HXS.out⟩;have HB5:=hid (HU3.out.1.below.trans hb5);clear ho5 hb5 hg5 hs5 hn5 hrown;go_wp2_with fail;go_roundw
      case rel=>exact ⟨k+1,q+(4+S),v5,cs ++ [((blob L,(Value.slice (cutA ao cap (q+4) 1) S (cap - (q+4)))):V × Value)],by omega,by go_num,by go_num,by omega,rfl,HO5.out,HCL2.out,HB5.out,HNE.out⟩
      case measure=>simp [intOf];omega
   ·have hz1:wid c=256:=by rw [hc];rfl
    have hq4:q+256≤m:=by omega
    have hrd1:=HCUT.out 256 hq4;rw [show q+256 - q=256 by omega] at hrd1;have HLI:Hid (lift c (bs.drop q)=some (blk ((bs.drop q).take 256),256)):=hid (by
     rw [hc];unfold lift;rw [if_neg (by rw [HDL.out,show wid 35=256 from rfl];omega),if_neg (by decide),if_neg (by decide),if_pos rfl])
    have c63:((c.toNat:Int) == 63)=false:=by rw [hc];rfl
    have c42:((c.toNat:Int) == 42)=false:=by rw [hc];rfl
    have c35:((c.toNat:Int) == 35)=true:=by rw [hc];rfl
    have hcut:=fun W=>run_cut (P:=Tryz.prog) W 33 ao m cap 1 undBytes szBytes (q:Int) ((q:Int)+256) (by omega) (by omega) (by omega);rw [show ((q:Int)+256).toNat - ((q:Int)).toNat=256 by omega] at hcut;simp only [Int.toNat_natCast] at hcut;simp only [hz1] at CLE hsh;have hll:((bs.drop q).take 256).length=256:=by rw [List.length_take,HDL.out];omega
    generalize (bs.drop q).take 256=L at *
    generalize hci:(c.toNat:Int)=ci at *
    have hsh2 : ¬ ((m:Int) - (q:Int)<256):=by omega
    have HXO:Hid ((blk L).Ok):=hid ⟨(by show 0<2 ^ 64;omega),hll⟩;have HXR:Hid (Rd w0 1 (Value.slice none 0 0) (blk L).b.length (bV (blk L).b)):=hid (Rd.of_own (World.ownsRow_nil w0 0 5 1));have HMK:=hid (mk_blk L hll);have HR1:=hid hrd1;have hst1:=run_storeNew (P:=Tryz.prog) (wr.alloc (.cells Tryz.zeroCells128 128)) 50 Tryz.zeroCells50 Tryz.zeroCells50 rfl zoneB;rw [World.size_alloc] at hst1;have hzb:=zszB;have HLL:=hid hll;have hwrap:IntKind.i64.wrap ((q:Int)+256)=(q:Int)+256:=IntWalk.i64_in _ (by omega);clear hrd1 hc hw hwl2 hz1 hsh HN hll
    go_wp2_with fail;refine (CLE wr).mono ?_;rintro e w2 ⟨rfl,rfl⟩;go_wp2_with fail;refine wp_region_still_tail 6 (by kernel_rfl) (by kernel_rfl) ?_;obtain ⟨WW,hWW⟩:∃ WW,WW=((wr.alloc (.cells Tryz.zeroCells128 128)).alloc (.cells Tryz.zeroCells50 50)).drew:=⟨_,rfl⟩
    change wpStill _ _ ((wr.alloc (.cells Tryz.zeroCells128 128)).alloc (.cells Tryz.zeroCells50 50)).drew (fun a'=>wpList _ _ _ _ a' ((wr.alloc (.cells Tryz.zeroCells128 128)).alloc (.cells Tryz.zeroCells50 50)).drew) _ _;rw [← hWW];simp only [List.take_succ_cons,List.take_zero,List.drop_succ_cons,List.drop_zero]
    iterate 6 still_step
    refine wpStill_nil ?_;have HWB:Hid (WW.heap[wr.heap.size+1]? = some (.cells Tryz.zeroCells50.toList.toArray 50 (0,0))):=hid (by
     rw [hWW];have:=heap_alloc_new ((wr.alloc (.cells Tryz.zeroCells128 128))) (.cells Tryz.zeroCells50 50);rw [World.size_alloc] at this;rw [Array.toArray_toList];exact this)
    have HUW:Hid (UP w0 B w wr.heap.size v' cs WW):=hid (HUP.out.mono (by rw [hWW];exact (balloc (Below.refl _ _) _).drew));have HBS:Hid ((wr.alloc (.cells Tryz.zeroCells128 128)).heap.size≤wr.heap.size+1):=hid (by rw [World.size_alloc];exact Nat.le_refl _);have HB0:Hid (Below (wr.alloc (.cells Tryz.zeroCells128 128)).heap.size (wr.alloc (.cells Tryz.zeroCells128 128)) WW):=hid (by rw [hWW];exact (balloc (Below.refl _ _) _).drew);have HHC:=hid hWW;clear hWW;have HSPL:Hid (splice Tryz.zeroCells50.toList 0 (bV L)=bV L):=hid (by
     unfold splice;rw [List.take_zero,List.nil_append,List.drop_eq_nil_of_le (by rw [Array.length_toList,zszB,bV_len,HLL.out];omega),List.append_nil])
    have HSRC:Hid (0<(bV L).length→some (⟨wr.heap.size+1,0,none⟩:Addr)=some ⟨wr.heap.size+1,0,none⟩∧∃ ad,cutA ao cap q 1=some ad∧∀ j v,(bV L)[j]? = some v→WW.cell? (ad.add j)=some v):=hid (fun h0=>by
     refine ⟨rfl,?_⟩;obtain ⟨ao',cap',he,hl',_,_,hc'⟩:=HR1.out.below (w':=WW) (by rw [HB.out];exact HUW.out.below);obtain ⟨rfl,_⟩:cutA ao cap q 1=ao'∧_:=by simpa using he
     obtain ⟨b1,off1,ha,_,_⟩:=hc' 0 _ (List.getElem?_eq_getElem h0);refine ⟨⟨b1,off1,none⟩,ha,fun j v hj => ?_⟩;obtain ⟨b2,off2,ha2,_,hcell⟩:=hc' j v hj;rw [ha] at ha2;obtain ⟨rfl,rfl⟩:b1=b2∧off1=off2:=by simpa using ha2
     rw [Addr.add_lit];exact hcell)
    have hbl:(bV L).length=256:=by rw [bV_len,HLL.out]
    refine wpList_copy_splice rfl (.tmp 96) (.tmp 101) 33 33 rfl 5 Tryz.underlying33 (by kernel_rfl) (some ⟨wr.heap.size+1,0,none⟩) (cutA ao cap q 1) 256 256 256 (cap - q) rfl rfl (wr.heap.size+1) 0 Tryz.zeroCells50.toList 50 HWB.out (bV L) (by rw [hbl];rfl) HSRC.out (by rw [hbl,Array.length_toList,zszB];omega) (bV_one L) (wr.alloc (.cells Tryz.zeroCells128 128)).heap.size (wr.alloc (.cells Tryz.zeroCells128 128)) HB0.out HBS.out ?_;intro w3 hg3 hb3;rw [HSPL.out] at hg3;have HU1:Hid (UP w0 B w wr.heap.size v' cs w3):=hid (HUP.out.mono hb3)
    have hra:w3.rangeAt (wr.heap.size+1) 0 (bV L):=fun j u hj=>by
     rw [Nat.zero_add];exact cellOf' hg3.out j (by simpa using hj)
    have hib:(Tryz.prog.info? 50).map (·.size)=some (bV L).length:=by rw [hbl];kernel_rfl
    have HRAB:=hid (And.intro hra hib);clear hra hib hg3 hb3 hcut;go_wp2_with fail;refine wp_load_mid 50 _ rfl (wr.heap.size+1) 0 rfl (bV L) _ HRAB.out.1 Tryz.underlying50 rfl HRAB.out.2 ?_;go_wp2_with fail;refine (HMK.out _).mono ?_;rintro e w2 ⟨rfl,hb2⟩;have HU2:=hid (HU1.out.mono hb2);clear hb2 hbl;have hth:=HU2.out.th;have hone:=rC_one' (v:=blk L) (sl:=Value.slice none 0 0) (by rfl);have hlen0:(rC (blk L) (Value.slice none 0 0)).length=260:=rC_len (HXO.out).x;have hu3:=HU2.out.store (rC (blk L) (Value.slice none 0 0)) hlen0
    have hi:(Tryz.prog.info? 128).map (·.size)=some (rC (blk L) (Value.slice none 0 0)).length:=by rw [hlen0];exact infoRV
    have hi2:(Tryz.prog.info? 128).map (·.size)=some (rC (blk L) (Value.slice none 0 0)).toArray.size:=by rw [List.size_toArray,hlen0];exact infoRV
    have hsz2:(rC (blk L) (Value.slice none 0 0)).toArray.size=260:=by rw [List.size_toArray,hlen0]
    have HU3:=hid (And.intro hu3.1 (And.intro hu3.2 hi));have HTH:Hid (w2.there wr.heap.size 0 (rC (blk L) (Value.slice none 0 0)).toArray.size):=hid (by rw [hsz2];exact hth);have HI2:=hid (And.intro hi2 (all_oneCell_toArray hone));have HNE:Hid (unpack (chs s) bs=(unpack ((chs s).drop (k+1)) (bs.drop (q+256))).map (fun (zz:List V × Nat)=>((cs ++ [((blk L,(Value.slice none 0 0)):V × Value)]).map Prod.fst ++ zz.1,(q+256)+zz.2))):=hid (by rw [HSM.out _ _ HLI.out];simp)
    have HCL2:Hid ((cs ++ [((blk L,(Value.slice none 0 0)):V × Value)]).length=k+1):=hid (by rw [List.length_append,HCL.out];rfl);have HXS:Hid (∀ p∈cs ++ [((blk L,(Value.slice none 0 0)):V × Value)],p.1.Ok∧Rd w0 1 p.2 p.1.b.length (bV p.1.b)):=hid (fun p hp=>by
     rcases List.mem_append.1 hp with h | h
     ·exact hu3.1.row.2 p h
     ·obtain rfl:p=(blk L,(Value.slice none 0 0)):=by simpa using h
      exact ⟨HXO.out,HXR.out⟩)
    have HFL:Hid (((cs ++ [((blk L,(Value.slice none 0 0)):V × Value)]).map fun p=>rC p.1 p.2).flatten=(cs.map fun p=>rC p.1 p.2).flatten ++ rC (blk L) (Value.slice none 0 0)):=hid (by simp);have HONE:Hid (∀ u∈(rC (blk L) (Value.slice none 0 0)).toArray.toList,u.oneCell'=true):=hid (by simpa using hone);have hrown:=hu3.1.row.1;have hBs:B≤(w2.setCells wr.heap.size 0 (rC (blk L) (Value.slice none 0 0)).toArray.toList).heap.size:=Nat.le_trans hu3.1.base (Nat.le_of_lt hu3.1.lt);have hkl:(cs.length+1) * 304≤140737488355328:=by rw [HCL.out];omega
    clear hth hone hlen0 hu3 hi hi2;unfold rA
    generalize hRC:rC (blk L) (Value.slice none 0 0)=RC at *
    clear hRC
    go_upto_region 29 with ((refine wpList_store_mid rfl 128 _ _ rfl wr.heap.size 0 (RC).toArray rfl rfl HTH.out HI2.out.1 HI2.out.2 ?_))
    have hra3:(w2.setCells wr.heap.size 0 RC.toArray.toList).rangeAt wr.heap.size 0 RC:=HU3.out.2.1;have HRA3:=hid hra3;clear hra3;have hrl:RC.length=260:=by simpa using hsz2
    go_wp2_with (first
     | ((refine wpList_load_mid rfl 128 _ rfl wr.heap.size 0 rfl (RC) _ HRA3.out Tryz.underlying128 rfl HU3.out.2.2 ?_))
     | ((refine wpList_load_mid rfl 128 _ rfl wr.heap.size 0 rfl (RC) _ HU3.out.2.1 Tryz.underlying128 rfl HU3.out.2.2 ?_))
     | (refine wpList_build1 rfl _ 124 128 260 _ RC rfl rfl Tryz.underlying124 infoRV3 zsz2 hrl (by omega) (by omega) ?_)
     | (at_builtin;go_must (refine wpList_app rfl _ _ 124 rfl B 128 _ 260 304 Tryz.underlying124 infoRV4 zagg (by decide) (by decide) _ cs.length _ rfl hrown rfl hsz2 HONE.out hkl hBs ?_);intro v5 w5 ho5 hb5 hg5 hs5 hn5))
    have HO5:Hid (RVrow w0 B w5 v5 (cs ++ [((blk L,(Value.slice none 0 0)):V × Value)])):=hid ⟨by rw [HFL.out,List.length_append];exact ho5,HXS.out⟩;have HB5:=hid (HU3.out.1.below.trans hb5);clear ho5 hb5 hg5 hs5 hn5 hrown;go_wp2_with fail;go_roundw
    case rel=>exact ⟨k+1,q+256,v5,cs ++ [((blk L,(Value.slice none 0 0)):V × Value)],by omega,by go_num,by go_num,by omega,rfl,HO5.out,HCL2.out,HB5.out,HNE.out⟩
    case measure=>simp [intOf];omega
   ·exact absurd hw1 hw
  ·obtain rfl:k=s.size:=by omega
   have HE:Hid (unpack (chs s) bs=some (cs.map Prod.fst,q)):=hid (by
    rw [HUN.out,List.drop_eq_nil_of_le (by rw [chs_len];exact Nat.le_refl _)]
    simp [unpack])
   go_wp2_with fail
   go_ret3
   exact RUnpackP.some_of rfl HE.out rfl (by rw [HB.out];exact HO.out) rfl (by rw [HB.out];exact HBW.out)
end Go.Proofs.YthkmihedkddnmaaGreat
