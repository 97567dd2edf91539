import Derived.Test.YthkmihedkddnmaaGreatUG2
import Derived.Test.YthkmihedkddnmaaGreatUG12
import Derived.WideKeyEntry
set_option linter.unusedVariables false
set_option linter.unusedSimpArgs false
namespace Go.Proofs.YthkmihedkddnmaaGreat
open Go.RowKit Go.Maps Go.WideElems Go.ChangeMaps Go.ChangeShapes Go.WideShapes
section
variable {P:Program} {w:World} {t k e:TypeId} {b:Nat} {es:Array MapEntry} {clock:Nat}
theorem entry_new (K:Keyed P k) (ht:P.underlying t=some (.map k e)) {z:Value} (hz:∀ u:World,(zeroValue e).run P u = .ok z u) (hb:w.heap[b]? = some (.map es clock)) {key:Value} {kl:Lit} (hkey:keyOf P k key=some kl)
  (hf:(Instr.findKey k key es.toList).run P w = .ok none w) (hs:∀ x∈es.toList,x.born<clock) (hn:(es.toList.map (·.born)).Nodup) :
  (Instr.mapEntry t (.map (some b)) key).run P w = .ok (.tuple #[z,goInt clock]) (setBlock w b (.map (es.push ⟨key,z,clock⟩) (clock+1))) ∧
  ∀ (w2:World) (val:Value),w2.heap[b]? = some (.map (es.push ⟨key,z,clock⟩) (clock+1))→(Instr.entryStore t (.map (some b)) (goInt clock) val).run P w2 = .ok () (setBlock w2 b (.map (es.push ⟨key,val,clock⟩) (clock+1))) ∧
   (Instr.mapUpdate t (.map (some b)) key val).run P w = .ok () (setBlock w b (.map (es.push ⟨key,val,clock⟩) (clock+1))):=by
 have hidx:(es.push ⟨key,z,clock⟩).findIdx? (fun e=>((e.born:Nat):Int) == ((clock:Nat):Int))=some es.size:=by
  rw [findIdx_arr];refine findIdx_born (j:=es.size) (e0:=⟨key,z,clock⟩) ?_ (by simp);rw [Array.toList_push,List.map_append,List.nodup_append];refine ⟨hn,by simp,fun a ha c hc => ?_⟩;obtain ⟨x,hx,rfl⟩:=List.mem_map.1 ha;have h1:=hs x hx;have h2:c=clock:=by simpa using hc
  omega
 have hmod:∀ val,(es.push ⟨key,z,clock⟩).modify es.size (fun e=>{ e with val:=val })=es.push ⟨key,val,clock⟩:=fun val=>by
  apply Array.ext'
  rw [Array.toList_modify,Array.toList_push,Array.toList_push,← Array.length_toList,modify_last]
 refine ⟨?_,fun w2 val hw2=>⟨?_,?_⟩⟩
 ·simp [Instr.mapEntry,run_underlying ht,MapKept.run_getObj_map hb,K.check w false hkey,hf,hz,MapKept.run_setObj_map _ hb,Result.andThen,setBlock]
 ·simp [Instr.entryStore,MapKept.run_getObj_map hw2,asInt,asIntOf,goInt,hidx,hmod,MapKept.run_setObj_map _ hw2,Result.andThen,setBlock]
 ·simp [Instr.mapUpdate,run_underlying ht,MapKept.run_getObj_map hb,K.check w false hkey,hf,MapKept.run_setObj_map _ hb,Result.andThen,setBlock]
theorem entry_old (K:Keyed P k) (ht:P.underlying t=some (.map k e)) (hb:w.heap[b]? = some (.map es clock)) {key:Value} {kl:Lit} (hkey:keyOf P k key=some kl) {j:Nat} {x:MapEntry}
  (hf:(Instr.findKey k key es.toList).run P w = .ok (some (j,x.val)) w) (hj:es.toList[j]? = some x) (hx:x.key=key) (hn:(es.toList.map (·.born)).Nodup) :
  (Instr.mapEntry t (.map (some b)) key).run P w = .ok (.tuple #[x.val,goInt x.born]) (setBlock w b (.map es clock)) ∧
  ∀ (w2:World) (val:Value),w2.heap[b]? = some (.map es clock)→(Instr.entryStore t (.map (some b)) (goInt x.born) val).run P w2 = .ok () (setBlock w2 b (.map (es.modify j (fun e'=>{ e' with key:=key,val:=val })) clock)) ∧
   (Instr.mapUpdate t (.map (some b)) key val).run P w = .ok () (setBlock w b (.map (es.modify j (fun e'=>{ e' with key:=key,val:=val })) clock)):=by
 have hj2:es[j]? = some x:=by simpa using hj
 have hself:es.modify j (fun e=>{ e with key:=key })=es:=by
  apply Array.ext'
  rw [Array.toList_modify,modify_eq_set _ _ _ _ hj];have:({ x with key:=key }:MapEntry)=x:=by rw [← hx]
  rw [this,Go.WideElems.set_self _ _ _ hj]
 have hidx:es.findIdx? (fun e=>((e.born:Nat):Int) == ((x.born:Nat):Int))=some j:=by
  rw [findIdx_arr];exact findIdx_born hn hj
 have hmod:∀ val,es.modify j (fun e=>{ e with val:=val })=es.modify j (fun e'=>{ e' with key:=key,val:=val }):=fun val=>by
  apply Array.ext'
  rw [Array.toList_modify,Array.toList_modify,modify_eq_set _ _ _ _ hj,modify_eq_set _ _ _ _ hj,← hx]
 refine ⟨?_,fun w2 val hw2=>⟨?_,?_⟩⟩
 ·simp [Instr.mapEntry,run_underlying ht,MapKept.run_getObj_map hb,K.check w false hkey,hf,hj2,hx,K.stays w hkey,hself,MapKept.run_setObj_map _ hb,Result.andThen,setBlock]
 ·simp [Instr.entryStore,MapKept.run_getObj_map hw2,asInt,asIntOf,goInt,hidx,hmod,MapKept.run_setObj_map _ hw2,Result.andThen,setBlock]
 ·simp [Instr.mapUpdate,run_underlying ht,MapKept.run_getObj_map hb,K.check w false hkey,hf,hj2,hx,K.stays w hkey,MapKept.run_setObj_map _ hb,Result.andThen,setBlock]
end
theorem mods_setBlock {w:World} {b:Nat} {es:Array MapEntry} {clock:Nat} (hb:w.heap[b]? = some (.map es clock)) (o:Obj):Mods [b] w (setBlock w b o) :=
 ⟨rfl,rfl,rfl,by simp [setBlock],fun i hi hne=>heap_setBlock_other hb _ (fun e=>hne (by simp [e]))⟩
theorem setBlock_at {w w2:World} {b:Nat} {o o1:Obj} (h:w.heap[b]? = some o) (h2:w2.heap[b]? = some o1) (x:Obj):(setBlock w2 b x).heap[b]? = (setBlock w b x).heap[b]?:=by
 have h3:=(hLT h)
 have h4:=(hLT h2)
 simp [setBlock,h3,h4]
theorem MapL.entry {α:Type} {P:Program} {k:TypeId} {R:Value→Option (DataW Unit × List MemPlace)} {q:IntKind} {f:α→DataW Unit} {w:World} {b:Nat} {l:List (Nat × α)} (h:MapL w P k R q f b l) (hk:P.underlying k=some (.int q)) {t e:TypeId} (ht:P.underlying t=some (.map k e))
  {z:Value} (hz:∀ u:World,(zeroValue e).run P u = .ok z u) (hn:l.length<maxLen) {n:Nat} (hw:(Lit.int q (n:Int)).wf=true) :
  ∃ (v0:Value) (st:Nat) (w1:World) (o1:Obj),(Instr.mapEntry t (.map (some b)) (.int q (n:Int))).run P w = .ok (.tuple #[v0,.int .i64 (st:Int)]) w1∧Mods [b] w w1∧w1.heap[b]? = some o1 ∧
   ∀ (w2:World) (v:Value) (a:α) (ps:List MemPlace),w2.heap[b]? = some o1→R v=some (f a,ps) →
    ∃ w',(Instr.entryStore t (.map (some b)) (.int .i64 (st:Int)) v).run P w2 = .ok () w'∧MapL w' P k R q f b (putA n a l)∧Mods [b] w2 w':=by
 have hm:=h;obtain ⟨es,clock,hb,F,hs,hD⟩:=h;obtain ⟨s1,s2,_⟩:=F.stamped;have hkey:=keyL hk hw;have fin:∀ (w2:World) (o1 o':Obj) (v:Value) (a:α) (ps:List MemPlace),w2.heap[b]? = some o1→(∃ es' c',o1 = .map es' c')→R v=some (f a,ps)→(Instr.mapUpdate t (.map (some b)) (.int q (n:Int)) v).run P w = .ok () (setBlock w b o')→MapL (setBlock w2 b o') P k R q f b (putA n a l):=by
  intro w2 o1 o' v a ps h2 _ hv hu;obtain ⟨w',h3,h4,_⟩:=hm.put hk ht hn hw hv;rw [hu] at h3
  injection h3 with _ h5
  subst h5;exact h4.at_ (setBlock_at hb h2 o')
 rcases (int_keyed hk).find w hkey es.toList F.keys with ⟨h1,h2⟩ | ⟨j,x,h1,h2,h3⟩
 ·obtain ⟨e1,e2⟩:=entry_new (int_keyed hk) ht hz hb hkey h1 s1 s2
  refine ⟨z,clock,_,_,e1,mods_setBlock hb _,heap_setBlock_same hb _,fun w2 v a ps hw2 hv => ?_⟩;obtain ⟨e3,e4⟩:=e2 w2 v hw2;exact ⟨_,e3,fin w2 _ _ v a ps hw2 ⟨_,_,rfl⟩ hv e4,mods_setBlock hw2 _⟩
 ·obtain ⟨e1,e2⟩:=entry_old (int_keyed hk) ht hb hkey h1 h2 h3 s2
  refine ⟨x.val,x.born,_,_,e1,mods_setBlock hb _,heap_setBlock_same hb _,fun w2 v a ps hw2 hv => ?_⟩;obtain ⟨e3,e4⟩:=e2 w2 v hw2;exact ⟨_,e3,fin w2 _ _ v a ps hw2 ⟨_,_,rfl⟩ hv e4,mods_setBlock hw2 _⟩
end Go.Proofs.YthkmihedkddnmaaGreat
