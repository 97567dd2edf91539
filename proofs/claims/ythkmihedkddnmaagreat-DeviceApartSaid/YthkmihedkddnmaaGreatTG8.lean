import Derived.Test.YthkmihedkddnmaaGreatTG7
import Derived.Test.YthkmihedkddnmaaGreatTG2
import Derived.Test.YthkmihedkddnmaaGreatTG1
import Derived.Laws.CopyOwn
import Derived.Laws.ResultCell
import Derived.StillTailTactics
set_option linter.unusedVariables false
set_option linter.unusedSimpArgs false
set_option maxHeartbeats 3200000
set_option maxRecDepth 100000
namespace Go.Proofs.YthkmihedkddnmaaGreat
open Lib (hid)
open Go.RowKit
theorem pSpans_len (a c:Nat):(pSpans a c).length=pM a c:=by simp [pSpans]
theorem pSpans_get {a c i:Nat} (h:i<pM a c):(pSpans a c)[i]? = some (pSpan a c i):=by simp [pSpans,h]
theorem pM_eq {a c:Nat} (h:c≠0):pM a c=(a+c+3) / 4 - a / 4:=if_neg h
theorem pM_zero (a:Nat):pM a 0=0:=rfl
theorem pSpans_new {a c:Nat} (h:c=0∨(a+c) % 4=0):pSpans a (c+1)=pSpans a c ++ [⟨(a+c) / 4,(a+c) % 4,(a+c) % 4+1⟩]:=by
 have hm:pM a (c+1)=pM a c+1:=by
  rw [pM_eq (by omega)]
  by_cases h0:c=0
  ·subst h0;rw [pM_zero];omega
  ·rw [pM_eq h0];omega
 unfold pSpans;rw [hm,List.range_succ,List.map_append,List.map_cons,List.map_nil]
 congr 1
 ·apply List.map_congr_left
  intro i hi;simp only [List.mem_range] at hi;simp only [pSpan,PSpan.mk.injEq,true_and];unfold pTo;unfold pM at hi
  split at hi <;> omega
 ·simp only [pSpan,List.cons.injEq,PSpan.mk.injEq,and_true]
  unfold pBlk pFrom pTo pM
  rcases h with h | h <;> split <;> omega
theorem pSpans_ext {a c:Nat} (h0:c≠0) (h:(a+c) % 4≠0):pM a (c+1)=pM a c∧1≤pM a c∧(pSpan a c (pM a c - 1)).blk=(a+c) / 4 ∧
  pSpans a (c+1)=(pSpans a c).set (pM a c - 1) ⟨(a+c) / 4,(pSpan a c (pM a c - 1)).lo,(a+c) % 4+1⟩:=by
 have hm:pM a (c+1)=pM a c:=by rw [pM_eq (by omega),pM_eq h0];omega
 have hp:1≤pM a c:=pM_pos (by omega);refine ⟨hm,hp,?_,?_⟩
 ·simp only [pSpan,pBlk];unfold pM at *;split <;> omega
 ·apply List.ext_getElem?
  intro i;rw [List.getElem?_set,pSpans_len]
  by_cases hi:i<pM a c
  ·rw [pSpans_get (by omega),pSpans_get hi]
   by_cases he:pM a c - 1=i
   ·rw [if_pos he,if_pos (by omega)]
    simp only [pSpan,Option.some.injEq,PSpan.mk.injEq];rw [he];unfold pBlk pFrom pTo pM at *
    split at he <;> omega
   ·rw [if_neg he]
    simp only [pSpan,Option.some.injEq,PSpan.mk.injEq,true_and];unfold pTo pM at *
    split at he <;> omega
  ·rw [List.getElem?_eq_none (by rw [pSpans_len];omega),List.getElem?_eq_none (by rw [pSpans_len];omega)]
   split
   ·rw [if_neg (by omega)]
   ·rfl
theorem spansCells_set {l:List PSpan} {k:Nat} {s t:PSpan} (h:l[k]? = some s) (hb:t.blk=s.blk) (hl:t.lo=s.lo):(spansCells l).set (k * 3+2) (.int .i64 t.hi)=spansCells (l.set k t):=by
 induction l generalizing k with
 | nil=>simp at h
 | cons x l ih =>
  cases k with
  | zero =>
   simp at h;subst h
   simp [spansCells,spanCells,hb,hl]
  | succ k =>
   simp at h
   have:=ih h;have e:(k+1) * 3+2=k * 3+2+3:=by omega
   rw [e];simp only [spansCells,List.flatMap_cons,List.set_cons_succ] at *;rw [← this]
   simp [spanCells]
theorem refPart_any (a c:Nat) (w:World) (h1:1≤c) (h2:c≤5000) (h3:a+c≤1073741824) :
  Calls Tryz.prog 51 #[.int .i64 a,.int .i64 c] w fun e w'=>∃ v,e = .returned v ∧
   w'.ownsRow w.heap.size 100 3 v (pM a c) (spansCells (pSpans a c))∧Below w.heap.size w w':=by
 go_enter Tryz.func51,Tryz.ntmps51
 go_wp2
 go_loopw [5,6,7] (fun v s _ wr=>∃ k:Nat,k≤c∧s = .int .i64 (a+k:Nat)∧wr.ownsRow w.heap.size 100 3 v (pM a k) (spansCells (pSpans a k))∧Below w.heap.size w wr)
  (fun _ s _ _=>a+c - (intOf s).toNat)
 case atStart=>exact ⟨0,by omega,rfl,World.ownsRow_nil _ _ _ _,Below.refl _ _⟩
 case round =>
  obtain ⟨k,hk,rfl,hown,hbel⟩:=hrel;have hpm := @pM_le a k;have hws:=hbel.size
  by_cases hlt:k<c
  ·by_cases hnew:k=0∨(a+k) % 4=0
   ·have HN:=hid (pSpans_new hnew)
    have hm1:pM a (k+1)=pM a k+1:=by
     have:=congrArg List.length (pSpans_new hnew)
     simpa [pSpans_len] using this
    have HM:=hid hm1;clear hm1;obtain ⟨ao,cap,rfl,_,_,_,_⟩:=Rd.of_own hown;have hq:(((a+k:Nat):Int) / 4)=(((a+k) / 4:Nat):Int):=by omega
    have hr:(((a+k:Nat):Int) % 4)=(((a+k) % 4:Nat):Int):=by omega
    by_cases hk0:k=0
    ·subst hk0
     have hv0:pM a 0=0:=rfl;rw [hv0] at hown;have h0:((0:Int) == 0)=true:=rfl
     go_wp2_with (at_builtin;go_must (refine wpList_app rfl _ _ 97 rfl w.heap.size 100 _ 3 24 Tryz.underlying97 infoSpan rfl (by decide) (by decide) _ _ _ rfl hown rfl rfl (by simp [Value.oneCell']) (by omega) hws ?_);intro v' w1 ho1 hb1 _ _ _)
     go_roundw
     case rel =>
      refine ⟨1,by omega,by go_num,?_,hbel.trans hb1⟩;rw [HN.out,HM.out,spansCells_snoc]
      simpa [spanCells,pM_zero] using ho1
     case measure=>simp [intOf];omega
    ·have hpp:=pM_pos (a:=a) (show 1≤k by omega)
     have hg:=pSpans_get (a:=a) (c:=k) (i:=pM a k - 1) (by omega);obtain ⟨c0,_,_⟩:=spansCells_get hg;obtain ⟨g,rfl⟩:∃ g,ao=some ⟨g,0,none⟩:=by
      rcases hown.2 with ⟨hv,hn⟩ | ⟨g,cap',cur,hv,_⟩
      ·omega
      ·simp at hv;exact ⟨g,hv.1⟩
     rw [← hown.cellAt _ (by omega)] at c0;have hne:(((pSpan a k (pM a k - 1)).blk:Int) == (((a+k) / 4:Nat):Int))=false:=by
      have:(pSpan a k (pM a k - 1)).blk≠(a+k) / 4:=by
       simp only [pSpan,pBlk];rw [pM_eq hk0];omega
      simp;omega
     have hpm0:(0:Int)<(pM a k:Int):=by omega
     clear hg
     go_wp2_with (at_builtin;go_must (refine wpList_app rfl _ _ 97 rfl w.heap.size 100 _ 3 24 Tryz.underlying97 infoSpan rfl (by decide) (by decide) _ _ _ rfl hown rfl rfl (by simp [Value.oneCell']) (by omega) hws ?_);intro v' w1 ho1 hb1 _ _ _)
     go_roundw
     case rel =>
      refine ⟨k+1,by omega,by go_num,?_,hbel.trans hb1⟩;rw [HN.out,HM.out,spansCells_snoc]
      simpa [spanCells,hq,hr] using ho1
     case measure=>simp [intOf];omega
   ·have hk0:k≠0:=by omega
    have hk4:(a+k) % 4≠0:=by omega
    obtain ⟨hm1,hpp,hblk,hext⟩:=pSpans_ext hk0 hk4;have HB:=hid hblk;have HM:=hid hm1;have HX:=hid hext;have hg:=pSpans_get (a:=a) (c:=k) (i:=pM a k - 1) (by omega);have HG:=hid hg;have hq:(((a+k:Nat):Int) / 4)=(((a+k) / 4:Nat):Int):=by omega
    have hr:(((a+k:Nat):Int) % 4)=(((a+k) % 4:Nat):Int):=by omega
    obtain ⟨c0,_,c2⟩:=spansCells_get hg;obtain ⟨g,cap,rfl⟩:∃ g cap,u5 = .slice (some ⟨g,0,none⟩) (pM a k) cap:=by
     rcases hown.2 with ⟨hv,hn⟩ | ⟨g,cap',cur,hv,_⟩
     ·omega
     ·exact ⟨g,cap',hv⟩
    rw [← hown.cellAt _ (by omega)] at c0 c2;have hf:=hown.frozenAt ((pM a k - 1) * 3+2);have heq:(((pSpan a k (pM a k - 1)).blk:Int) == (((a+k) / 4:Nat):Int))=true:=by simp;omega
    have hpm0:(0:Int)<(pM a k:Int):=by omega
    have HST:=hid (hown.stored ((pM a k - 1) * 3+2) (.int .i64 (((a+k) % 4:Nat)+1:Int)));clear hg hm1 hext hblk;go_wp2;go_roundw
    case rel =>
     obtain ⟨hs1,hs2⟩:=HST.out;refine ⟨k+1,by omega,by go_num,?_,?_⟩
     ·rw [HX.out,HM.out,← spansCells_set (t:=⟨(a+k) / 4,(pSpan a k (pM a k - 1)).lo,(a+k) % 4+1⟩) HG.out (by simp [HB.out]) rfl]
      simpa using hs1
     ·exact hbel.grown hs2 hws (fun j hj=>by have:=(hown.lt j (by simpa [Value.ownBlock] using hj)).1;exact this)
    case measure=>simp [intOf];omega
  ·obtain rfl:k=c:=by omega
   go_wp2;go_ret;exact ⟨_,rfl,hown,hbel⟩
end Go.Proofs.YthkmihedkddnmaaGreat
namespace Go.Proofs.YthkmihedkddnmaaGreat
open Lib (hid)
open Go.RowKit
theorem run_copy_mid {P:Program} (w:World) (dT sT rT:TypeId) (elem:TypeId) (hu:P.underlying dT=some (.slice elem)) (hsz:(P.info? elem).map (·.size)=some 1)
  (dp sp:Option Addr) (dLen dCap sLen sCap:Nat) (g off:Nat) (cur:List Value) (t:TypeId) (hg:w.heap[g]? = some (.cells cur.toArray t (0,0))) (cs:List Value) (hn:cs.length=Nat.min sLen dLen)
  (hpos:0<cs.length→dp=some ⟨g,off,none⟩∧∃ ad,sp=some ad∧∀ j v,cs[j]? = some v→w.cell? (ad.add j)=some v)
  (hfit:off+cs.length≤cur.length) (h1:∀ v∈cs,v.oneCell'=true) :
  ∃ w',(Builtin.copy_ #[dT,sT] rT #[.slice dp dLen dCap,.slice sp sLen sCap]).run P w = .ok (.int .i64 (cs.length:Int)) w'∧w'.heap[g]? = some (.cells (splice cur off cs).toArray t (0,0))∧Mods [g] w w':=by
 by_cases h0:cs.length=0
 ·obtain rfl:cs=[]:=List.eq_nil_of_length_eq_zero h0
  exact ⟨w,run_copy_none (P:=P) w dT sT rT elem dp sp dLen dCap sLen sCap hu hsz (by simpa using hn.symm),(by simpa [splice] using hg),Mods.refl _ _⟩
 ·obtain ⟨rfl,ad,rfl,hsrc⟩:=hpos (by omega)
  exact ⟨_,run_copy_row (P:=P) w dT sT rT elem g off dLen dCap ad sLen sCap cur.toArray t cs hu hsz hg hn hsrc (by simpa using hfit) h1,(by simpa [splice] using setRow_heap w g _ _ t _ hg),rfl,rfl,rfl,by simp [World.setRow],fun k hk hn=>setRow_other w g k _ (by simpa using hn)⟩
def mergeB (b:List UInt8) (f:Nat) (d:List UInt8):List UInt8:=splice b (f * 64) d
def cutB (b:List UInt8) (f t:Nat):List UInt8:=(b.drop (f * 64)).take ((t - f) * 64)
theorem bV_splice (b d:List UInt8) (o:Nat):splice (bV b) o (bV d)=bV (splice b o d):=by
 unfold splice;simp only [bV,List.map_append,List.map_take,List.map_drop,List.length_map]
theorem mergeB_len {b d:List UInt8} {f:Nat} (h:f * 64+d.length≤b.length):(mergeB b f d).length=b.length:=length_splice _ _ _ h
theorem zszM:Tryz.zeroCells50.size=256:=by kernel_rfl
theorem infoBlk:(Tryz.prog.info? 50).map (·.size)=some 256:=by kernel_rfl
theorem run_sliceL (w:World) (g f:Nat) (hf:f≤4):∃ dp,(f<4→dp=some ⟨g,f * 64,none⟩)∧∀ W,(Instr.sliceAt 50 (.pointer (some ⟨g,0,none⟩)) (some (.int .i64 ((f:Int) * 64))) none none).run Tryz.prog W = .ok (.slice dp (256 - f * 64) (256 - f * 64)) W:=by
 have hl:Tryz.prog.arrayLen 50=256:=by kernel_rfl
 have hs:∀ W,(sizeOf (Tryz.prog.elem 50)).run Tryz.prog W = .ok 1 W:=fun W=>by kernel_rfl
 refine ⟨if 256=f * 64 then some ⟨g,0,none⟩ else some ⟨g,f * 64,none⟩,fun h=>by rw [if_neg (by omega)],fun W => ?_⟩;rw [run_sliceAt_array_l (P:=Tryz.prog) W 50 ⟨g,0,none⟩ (by kernel_rfl) .i64 ((f:Int) * 64) (by omega) (by rw [hl];omega),hs,hl];simp only [Result.andThen_ok,slicedAt,show ((f:Int) * 64).toNat=f * 64 by omega]
 by_cases h:256=f * 64
 ·rw [if_pos h,if_pos h]
 ·rw [if_neg h,if_neg h,Nat.mul_one,Addr.add_lit,Nat.zero_add]
theorem res_blk {fn:Func} {p u:Tmp} (h:fn.results=#[.cell p 50,.tmp u]) (tmps:Array Value) (w:World) (g:Nat) (L:List UInt8) (x:Value) (hp:tmps.getD p undef = .pointer (some ⟨g,0,none⟩)) (hx:tmps.getD u undef=x) (hr:w.rangeAt g 0 (bV L)) (hl:L.length=256) :
  (results fn tmps).run Tryz.prog w = .ok (.tuple #[bA L,x]) w:=by
 rw [results_cell_tmp h,hp,hx];have:=run_loadVar_mid (P:=Tryz.prog) w g 0 50 (bV L) _ hr Tryz.underlying50 rfl (by rw [bV_len,hl];exact infoBlk);simp only [asAddr,Sem.run_pure,Result.andThen_ok,this]
 rfl
theorem run_sliceLH (g f t:Nat) (hf:f<t) (ht:t≤4):∀ W,(Instr.sliceAt 50 (.pointer (some ⟨g,0,none⟩)) (some (.int .i64 ((f:Int) * 64))) (some (.int .i64 ((t:Int) * 64))) none).run Tryz.prog W = .ok (.slice (some ⟨g,f * 64,none⟩) ((t - f) * 64) (256 - f * 64)) W:=fun W=>by
 have hl:Tryz.prog.arrayLen 50=256:=by kernel_rfl
 have hs:∀ W,(sizeOf (Tryz.prog.elem 50)).run Tryz.prog W = .ok 1 W:=fun W=>by kernel_rfl
 rw [run_sliceAt_array_lh (P:=Tryz.prog) W 50 ⟨g,0,none⟩ (by kernel_rfl) .i64 .i64 ((f:Int) * 64) ((t:Int) * 64) (by omega) (by omega) (by rw [hl];omega),hs,hl];simp only [Result.andThen_ok,slicedAt,show ((f:Int) * 64).toNat=f * 64 by omega,show ((t:Int) * 64).toNat=t * 64 by omega];rw [if_neg (by omega),Nat.mul_one,Addr.add_lit,Nat.zero_add,Nat.sub_mul]
theorem belowSet {B b:Nat} {a:World} (hb:B≤b):∀ (vs:List Value) (o:Nat) (w:World),Below B a w→Below B a (w.setCells b o vs)
 | [],_,_,h=>h
 | v :: r,o,w,h=>by
  rw [World.setCells];exact belowSet hb r (o+1) _ (h.setCell (p:=⟨b,o,none⟩) hb v)
theorem merge_ok (b:List UInt8) (hb:b.length=256) (f:Nat) (hf:f≤4) (v:Value) (n:Nat) (d:List UInt8) (w:World) (hrd:Rd w 1 v n (bV d)) (hn:n % 64=0) (hn2:n≤(4 - f) * 64) :
  Calls Tryz.prog 75 #[bA b,.int .i64 (f:Int),v] w fun e w'=>e = .returned (.tuple #[bA (mergeB b f d),.int .i64 0])∧Below w.heap.size w w':=by
 have hdl:d.length=n:=by obtain ⟨_,_,_,hl,_⟩:=hrd;simpa [bV] using hl
 have HDL:=hid hdl;have HRD:=hid hrd;obtain ⟨ao,cap,rfl,_,_,⟨_,hc1,hc2⟩,hcell⟩:=hrd;unfold maxLen at hc2;have HCELL:=hid hcell;obtain ⟨dp,hdp,hsl⟩:=run_sliceL w w.heap.size f hf;have HDP:=hid hdp;have hzz:=zszM;have hbl:(bV b).length=256:=by rw [bV_len,hb]
 have HBL:=hid hbl;have HB:=hid hb;have hra:((w.alloc (.cells (bV b).toArray 50)).alloc (.cells Tryz.zeroCells50 50)).rangeAt w.heap.size 0 (bV b):=World.rangeAt_alloc (fun j u hj=>by
  rw [Nat.zero_add];exact cellOf' (heap_alloc_new w _) j (by simpa using hj)) _
 have hi:(Tryz.prog.info? 50).map (·.size)=some (bV b).length:=by rw [hbl];exact infoBlk
 have HR:=hid (And.intro hra hi);have hst:=run_storeNew (P:=Tryz.prog) ((w.alloc (.cells (bV b).toArray 50)).alloc (.cells Tryz.zeroCells50 50)) 50 Tryz.zeroCells50 (bV b).toArray (by rw [hzz];simp [hbl]) (by simpa using bV_one b);rw [World.size_alloc,World.size_alloc] at hst;have hxs:(bV b).toArray.size=256:=by simp [hbl]
 have HSPL:Hid (splice (bV b) (f * 64) (bV d)=bV (mergeB b f d)):=hid (bV_splice b d _);have HD1:=hid (bV_one d);have HML:Hid ((mergeB b f d).length=256):=hid (by rw [mergeB_len (by omega),hb]);have hn3 : ¬ ((4 - (f:Int)) * 64<(n:Int)):=by omega
 have hn4:(n:Int) % 64=0:=by omega
 unfold bA
 generalize mergeB b f d=M at *
 generalize hBV:bV b=X at *
 generalize hXA:X.toArray=XA at *
 have HXA:=hid hXA;clear hdl hcell hdp hbl hra hi hb hXA;have HW:Hid (((((w.alloc (.cells XA 50)).alloc (.cells Tryz.zeroCells50 50)).alloc (.cells XA 50)).heap[w.heap.size]? = some (.cells X.toArray 50 (0,0)) ∧
   (((w.alloc (.cells XA 50)).alloc (.cells Tryz.zeroCells50 50)).alloc (.cells XA 50)).heap[w.heap.size+1]? = some (.cells Tryz.zeroCells50 50 (0,0)) ∧
   (((w.alloc (.cells XA 50)).alloc (.cells Tryz.zeroCells50 50)).alloc (.cells XA 50)).heap[w.heap.size+1+1]? = some (.cells X.toArray 50 (0,0))) ∧
   Below w.heap.size w (((w.alloc (.cells XA 50)).alloc (.cells Tryz.zeroCells50 50)).alloc (.cells XA 50))):=hid (by
  rw [HXA.out];refine ⟨⟨?_,?_,?_⟩,balloc (balloc (balloc (Below.refl _ _) _) _) _⟩
  ·rw [Below.heap_alloc _ _ _ (by simp;omega),Below.heap_alloc _ _ _ (by simp),heap_alloc_new]
  ·rw [Below.heap_alloc _ _ _ (by simp)]
   have:=heap_alloc_new (w.alloc (.cells XA 50)) (.cells Tryz.zeroCells50 50)
   rwa [World.size_alloc] at this
  ·have:=heap_alloc_new ((w.alloc (.cells XA 50)).alloc (.cells Tryz.zeroCells50 50)) (.cells XA 50)
   rwa [World.size_alloc,World.size_alloc] at this)
 have HSRC:Hid (0<(bV d).length→dp=some ⟨w.heap.size,f * 64,none⟩∧∃ ad,ao=some ad∧∀ j v,(bV d)[j]? = some v→(((w.alloc (.cells XA 50)).alloc (.cells Tryz.zeroCells50 50)).alloc (.cells XA 50)).cell? (ad.add j)=some v):=hid (fun h0=>by
  have h1:0<d.length:=by simpa [bV_len] using h0
  refine ⟨HDP.out (by rw [HDL.out] at h1;omega),?_⟩;obtain ⟨b1,off1,ha,_,_⟩:=HCELL.out 0 _ (List.getElem?_eq_getElem h0);refine ⟨⟨b1,off1,none⟩,ha,fun j v hj => ?_⟩;obtain ⟨b2,off2,ha2,hlt,hcell⟩:=HCELL.out j v hj;rw [ha] at ha2;obtain ⟨rfl,rfl⟩:b1=b2∧off1=off2:=by simpa using ha2
  rw [Addr.add_lit];exact (HW.out.2.cell (p:=⟨b1,off1+j,none⟩) hlt).trans hcell)
 have hbd:(bV d).length=n:=by rw [bV_len,HDL.out]
 have HBD:=hid hbd;have hmn:n=Nat.min n (256 - f * 64):=(Nat.min_eq_left (by omega)).symm;have HMN:=hid hmn;clear hbd hmn;obtain ⟨w2,hcp,hg2,hm2⟩:=run_copy_mid (P:=Tryz.prog) (((w.alloc (.cells XA 50)).alloc (.cells Tryz.zeroCells50 50)).alloc (.cells XA 50)) 33 33 3 5 Tryz.underlying33 (by kernel_rfl) dp ao (256 - f * 64) (256 - f * 64) n cap w.heap.size (f * 64) X 50 HW.out.1.1 (bV d) (by rw [HBD.out];exact HMN.out) HSRC.out (by rw [HBD.out,HBL.out];omega) HD1.out;rw [HBD.out] at hcp;rw [HSPL.out] at hg2;have hra2:w2.rangeAt w.heap.size 0 (bV M):=fun j u hj=>by
  rw [Nat.zero_add];exact cellOf' hg2 j (by simpa using hj)
 have h21:w2.heap[w.heap.size+1]? = some (.cells Tryz.zeroCells50 50 (0,0)):=(hm2.block _ (hLT HW.out.1.2.1) (by simp)).trans HW.out.1.2.1;have h22:w2.heap[w.heap.size+1+1]? = some (.cells X.toArray 50 (0,0)):=(hm2.block _ (hLT HW.out.1.2.2) (by simp;omega)).trans HW.out.1.2.2;have hrx2:w2.rangeAt (w.heap.size+1+1) 0 X:=fun j u hj=>by
  rw [Nat.zero_add];exact cellOf' h22 j (by simpa using hj)
 have hth:w2.there (w.heap.size+1) 0 (bV M).toArray.size:=fun j hj=>by
  have hj:j<256:=by simpa [bV_len,HML.out] using hj
  rw [Nat.zero_add];exact ⟨by rw [cell_of_row w2 _ j _ _ _ h21,Array.getElem?_eq_getElem (by rw [hzz];exact hj)];rfl,frozenOf h21 j⟩
 have hbw2:Below w.heap.size w w2:=HW.out.2.trans (hm2.below (by simp) HW.out.2.size);have hbm:(bV M).length=256:=by rw [bV_len,HML.out]
 have him:(Tryz.prog.info? 50).map (·.size)=some (bV M).length:=by rw [hbm];exact infoBlk
 have hix:(Tryz.prog.info? 50).map (·.size)=some X.length:=by rw [HBL.out];exact infoBlk
 have him2:(Tryz.prog.info? 50).map (·.size)=some (bV M).toArray.size:=by rw [List.size_toArray];exact him
 have hone:∀ u∈bV M,u.oneCell'=true:=bV_one M;have HF:=hid (And.intro hra2 (And.intro hrx2 (And.intro hth (And.intro hbw2 (And.intro him (And.intro hix (And.intro him2 hone)))))));have heq:∀ W,(binOp .eql 50 (.agg (bV M).toArray) (.agg XA)).run Tryz.prog W = .ok (.bool (M == b)) W:=fun W=>by
  have:=run_eql_bytes (P:=Tryz.prog) W (t:=50) (e:=5) (n:=256) Tryz.underlying50 Tryz.underlying5 rfl rfl M b HML.out HB.out;unfold bA at this;rw [hBV,HXA.out] at this;exact this
 have HMB:Hid (M=b→XA=(bV M).toArray):=hid (fun e=>by rw [e,hBV,HXA.out]);clear hra2 hrx2 hth hbw2 him hix him2 hone hbm h21 h22 hm2 hg2
 go_enter Tryz.func75,Tryz.ntmps75
 go_wp2_with fail;refine wp_load_mid 50 _ rfl w.heap.size 0 rfl X _ HR.out.1 Tryz.underlying50 rfl HR.out.2 ?_;rw [HXA.out];go_wp2_with fail;refine wp_load_mid 50 _ rfl w.heap.size 0 rfl (bV M) _ HF.out.1 Tryz.underlying50 rfl HF.out.2.2.2.2.1 ?_;go_wp2_with fail;refine wp_load_mid 50 _ rfl (w.heap.size+1+1) 0 rfl X _ HF.out.2.1 Tryz.underlying50 rfl HF.out.2.2.2.2.2.1 ?_;rw [HXA.out];have hend:∀ {fn:Func} {p u:Tmp} (tmps:Array Value),fn.results=#[.cell p 50,.tmp u]→tmps.getD p undef = .pointer (some ⟨w.heap.size+1,0,none⟩)→tmps.getD u undef = .int .i64 0 →
   (results fn tmps).run Tryz.prog (w2.setCells (w.heap.size+1) 0 (bV M)) = .ok (.tuple #[.agg (bV M).toArray,.int .i64 0]) (w2.setCells (w.heap.size+1) 0 (bV M)):=fun tmps h hp hx =>
  res_blk h tmps _ _ M _ hp hx (World.rangeAt_setCells_same w2 _ _ _ (by have:=HF.out.2.2.1;rwa [List.size_toArray] at this)) HML.out
 have HE:Hid (∀ {fn:Func} {p u:Tmp} (tmps:Array Value),fn.results=#[.cell p 50,.tmp u]→tmps.getD p undef = .pointer (some ⟨w.heap.size+1,0,none⟩)→tmps.getD u undef = .int .i64 0 →
   (results fn tmps).run Tryz.prog (w2.setCells (w.heap.size+1) 0 (bV M)) = .ok (.tuple #[.agg (bV M).toArray,.int .i64 0]) (w2.setCells (w.heap.size+1) 0 (bV M))):=hid hend
 have hbe:Below w.heap.size w (w2.setCells (w.heap.size+1) 0 (bV M)):=belowSet (by omega) _ _ _ HF.out.2.2.2.1;have HBE:=hid hbe;clear hend hbe hcp hst
 cases hq:(M == b) with
 | true =>
  rw [hq] at heq;have HXM:=hid (HMB.out (eq_of_beq hq));clear hq;go_wp2_with fail;refine wp_load_mid 50 _ rfl (w.heap.size+1+1) 0 rfl X _ HF.out.2.1 Tryz.underlying50 rfl HF.out.2.2.2.2.2.1 ?_;rw [HXA.out,HXM.out];clear heq
  go_wp2_with (refine wpList_store_mid rfl 50 _ _ rfl (w.heap.size+1) 0 (bV M).toArray rfl rfl HF.out.2.2.1 HF.out.2.2.2.2.2.2.1 (all_oneCell_toArray HF.out.2.2.2.2.2.2.2) ?_)
  exact bodyPost_ret (v:=.tuple #[.agg (bV M).toArray,.int .i64 0]) (HE.out _ rfl rfl rfl) rfl ⟨rfl,HBE.out⟩
 | false =>
  rw [hq] at heq;clear hq;go_wp2_with fail;refine wp_load_mid 50 _ rfl w.heap.size 0 rfl (bV M) _ HF.out.1 Tryz.underlying50 rfl HF.out.2.2.2.2.1 ?_;clear heq
  go_wp2_with (refine wpList_store_mid rfl 50 _ _ rfl (w.heap.size+1) 0 (bV M).toArray rfl rfl HF.out.2.2.1 HF.out.2.2.2.2.2.2.1 (all_oneCell_toArray HF.out.2.2.2.2.2.2.2) ?_)
  exact bodyPost_ret (v:=.tuple #[.agg (bV M).toArray,.int .i64 0]) (HE.out _ rfl rfl rfl) rfl ⟨rfl,HBE.out⟩
theorem cut_ok (b:List UInt8) (hb:b.length=256) (blk:Int) (f t:Nat) (hf:f<t) (ht:t≤4) (w:World) :
  Calls Tryz.prog 78 #[bA b,.agg #[.int .i64 blk,.int .i64 (f:Int),.int .i64 (t:Int)]] w fun e w'=>∃ v',e = .returned v'∧w'.ownsRow w.heap.size 5 1 v' ((t - f) * 64) (bV (cutB b f t))∧Below w.heap.size w w':=by
 have hs1:=run_sliceLH w.heap.size f t (by omega) ht;have hb2:Below w.heap.size w ((w.alloc (.cells (bV b).toArray 50)).alloc (.cells #[.int .i64 blk,.int .i64 (f:Int),.int .i64 (t:Int)] 100)):=balloc (balloc (Below.refl _ _) _) _;have hn:=Rd.new w 50 b 256 hb (by omega);have hn2:=(hn.below (balloc (Below.refl _ _) (.cells #[.int .i64 blk,.int .i64 (f:Int),.int .i64 (t:Int)] 100))).cut (l:=f * 64) (k:=t * 64) (by omega) (by omega)
 rw [Nat.mul_one,Nat.mul_one,← Nat.sub_mul,show ((bV b).drop (f * 64)).take ((t - f) * 64)=bV (cutB b f t) from by unfold cutB;simp [bV,List.map_take,List.map_drop]] at hn2;have hcu:cutA (some ⟨w.heap.size,0,none⟩) 256 (f * 64) 1=some ⟨w.heap.size,f * 64,none⟩:=by
  unfold cutA;rw [if_neg (by omega),Nat.mul_one,Option.map_some,Addr.add_lit,Nat.zero_add]
 rw [hcu] at hn2;have HN2:=hid hn2;have HB2:=hid hb2;clear hn hn2 hcu hb2;unfold bA
 generalize (bV b).toArray=XA at *
 go_enter Tryz.func78,Tryz.ntmps78
 go_wp2_with fail;refine (clone8 _ _ (cutB b f t) _ HN2.out (by omega)).mono ?_;rintro e w1 ⟨v1,rfl,ho,hb1⟩;have HO:=hid (ownsRow_base (base':=w.heap.size) ho (by simp;omega));have HB1:=hid (bthen HB2.out hb1);clear ho hb1;go_wp2_with fail;go_ret;exact ⟨_,rfl,HO.out,HB1.out⟩
end Go.Proofs.YthkmihedkddnmaaGreat
namespace Go.Proofs.YthkmihedkddnmaaGreat
open Lib (hid)
open Go.RowKit
def pClamp (blk at_ nd k:Int):Int:=min (max (blk * 4+k - at_) 0) nd
def dataP (bs:List UInt8) (blk at_ f t:Int):List UInt8 :=
 (bs.drop (pClamp blk at_ ((bs.length:Int) / 64) f * 64).toNat).take ((pClamp blk at_ ((bs.length:Int) / 64) t * 64).toNat - (pClamp blk at_ ((bs.length:Int) / 64) f * 64).toNat)
theorem place_any (k blk f t at_:Int) (ao:Option Addr) (n cap:Nat) (B:Nat) (w:World) (hk:0≤k∧k≤4) (hb:0≤blk∧blk≤268435456) (ha:0≤at_∧at_≤1073741824) (hn:n≤140737488355328)
  (c0:w.cell? ⟨B,0,none⟩=some (.int .i64 blk)) (c1:w.cell? ⟨B+1,0,none⟩=some (.int .i64 at_)) (c2:w.cell? ⟨B+1+1,0,none⟩=some (.slice ao n cap)) :
  Calls Tryz.prog 100 #[.int .i64 k,.pointer (some ⟨B,0,none⟩),.pointer (some ⟨B+1,0,none⟩),.pointer (some ⟨B+1+1,0,none⟩)] w fun e w'=>e = .returned (.int .i64 (pClamp blk at_ ((n:Int) / 64) k * 64))∧w'=w:=by
 obtain ⟨hk1,hk2⟩:=hk;obtain ⟨hb1,hb2⟩:=hb;obtain ⟨ha1,ha2⟩:=ha
 by_cases h1:0≤blk * 4+k - at_
 ·by_cases h2:blk * 4+k - at_≤(n:Int) / 64
  ·have e2:pClamp blk at_ ((n:Int) / 64) k=blk * 4+k - at_:=by unfold pClamp;omega
   have m1:max (blk * 4+k - at_) 0=blk * 4+k - at_:=by omega
   have m2:min (blk * 4+k - at_) ((n:Int) / 64)=blk * 4+k - at_:=by omega
   rw [e2];clear e2
   go_enter Tryz.func100,Tryz.ntmps100
   go_wp2;go_ret;exact ⟨rfl,rfl⟩
  ·have e2:pClamp blk at_ ((n:Int) / 64) k=(n:Int) / 64:=by unfold pClamp;omega
   have m1:max (blk * 4+k - at_) 0=blk * 4+k - at_:=by omega
   have m2:min (blk * 4+k - at_) ((n:Int) / 64)=(n:Int) / 64:=by omega
   rw [e2];clear e2
   go_enter Tryz.func100,Tryz.ntmps100
   go_wp2;go_ret;exact ⟨rfl,rfl⟩
 ·have e2:pClamp blk at_ ((n:Int) / 64) k=0:=by unfold pClamp;omega
  have m1:max (blk * 4+k - at_) 0=0:=by omega
  have m2:min (0:Int) ((n:Int) / 64)=0:=by omega
  rw [e2];clear e2
  go_enter Tryz.func100,Tryz.ntmps100
  go_wp2;go_ret;exact ⟨rfl,rfl⟩
def dOk (blk at_ f t:Int):Bool:=decide (0≤blk) && decide (blk≤268435456) && decide (0≤at_) && decide (at_≤1073741824) && decide (0≤f) && decide (t≤4) && decide (f<t)
theorem pClamp_le (blk at_ nd k:Int) (h:0≤nd):0≤pClamp blk at_ nd k∧pClamp blk at_ nd k≤nd:=by unfold pClamp;omega
theorem pClamp_mono (blk at_ nd:Int) {k l:Int} (h:k≤l):pClamp blk at_ nd k≤pClamp blk at_ nd l:=by unfold pClamp;omega
theorem partData_ok (blk f t at_:Int) (v:Value) (n:Nat) (bs:List UInt8) (w:World) (hok:dOk blk at_ f t=true) (h:Rd w 1 v n (bV bs)) (hn:n≤140737488355328) :
  Calls Tryz.prog 76 #[.agg #[.int .i64 blk,.int .i64 f,.int .i64 t],.int .i64 at_,v] w fun e w'=>∃ v',e = .returned v'∧w'.ownsRow w.heap.size 5 1 v' (dataP bs blk at_ f t).length (bV (dataP bs blk at_ f t))∧Below w.heap.size w w':=by
 simp only [dOk,Bool.and_eq_true,decide_eq_true_eq] at hok;obtain ⟨⟨⟨⟨⟨⟨hb1,hb2⟩,ha1⟩,ha2⟩,hf⟩,ht⟩,hft⟩:=hok;have hrd:=h;obtain ⟨ao,cap,rfl,hl,hm,hcap,hc⟩:=h;rw [bV_len,Nat.mul_one] at hl
 go_enter Tryz.func76,Tryz.ntmps76
 go_wp2;obtain ⟨X,hX⟩:∃ X,X=pClamp blk at_ ((n:Int) / 64) f * 64:=⟨_,rfl⟩
 obtain ⟨Y,hY⟩:∃ Y,Y=pClamp blk at_ ((n:Int) / 64) t * 64:=⟨_,rfl⟩
 have p1:=pClamp_le blk at_ ((n:Int) / 64) f (by omega);have p2:=pClamp_le blk at_ ((n:Int) / 64) t (by omega);have p3:=pClamp_mono blk at_ ((n:Int) / 64) (Int.le_of_lt hft);have hX0:0≤X:=by omega
 have hXY:X≤Y:=by omega
 have hYn:Y≤n:=by omega
 have P1:=fun (W:World) h0 h1 h2=>place_any f blk f t at_ ao n cap w.heap.size W ⟨hf,by omega⟩ ⟨hb1,hb2⟩ ⟨ha1,ha2⟩ hn h0 h1 h2;have P2:=fun (W:World) h0 h1 h2=>place_any t blk f t at_ ao n cap w.heap.size W ⟨by omega,ht⟩ ⟨hb1,hb2⟩ ⟨ha1,ha2⟩ hn h0 h1 h2;rw [← hX] at P1;rw [← hY] at P2;have HX:=hid hX;have HY:=hid hY;have HP1:=hid P1;have HP2:=hid P2;clear hX hY p1 p2 p3 P1 P2;obtain ⟨hcn,hnc,hcm⟩:=hcap;have hYc:Y≤(cap:Int):=by omega
 have hcut:=fun W=>run_cut (P:=Tryz.prog) W 33 ao n cap 1 (by kernel_rfl) (fun _=>by kernel_rfl) X Y hX0 hXY hYc;have hrc:=hrd.cut (l:=X.toNat) (k:=Y.toNat) (by omega) (by omega);simp only [Nat.mul_one] at hrc;have hdat:(List.drop X.toNat (bV bs)).take (Y.toNat - X.toNat)=bV (dataP bs blk at_ f t):=by
  unfold dataP bV;rw [hl,← HX.out,← HY.out,← List.map_drop,← List.map_take]
 have hdl:(dataP bs blk at_ f t).length=Y.toNat - X.toNat:=by
  rw [← bV_len,← hdat,List.length_take,List.length_drop,bV_len];omega
 rw [hdat,← hdl] at hrc;have HD:=hid hdl;have hlen:(dataP bs blk at_ f t).length≤140737488355328:=by omega
 clear hdat hdl;refine wp_region_still_tail 10 (by kernel_rfl) (by kernel_rfl) ?_;simp only [List.take_succ_cons,List.take_zero,List.drop_succ_cons,List.drop_zero];change wpStill _ _ (World.drew _) (fun a'=>wpList _ _ _ _ a' (World.drew _)) _ _
 repeat still_step
 still_call (HP1.out _ (by go_simp) (by go_simp) (by go_simp))
 repeat still_step
 still_call (HP2.out _ (by go_simp) (by go_simp) (by go_simp))
 repeat still_step
 refine wpStill_nil ?_;go_wp2_with fail;rw [← HD.out];have hrc2:=(((hrc.below (balloc (Below.refl _ w) (.cells #[.int .i64 blk,.int .i64 f,.int .i64 t] 100))).below (balloc (Below.refl _ _) (.cells #[.int .i64 at_] 3))).below (balloc (Below.refl _ _) (.cells #[.slice ao n cap] 33))).below ((Below.refl _ _).drew);refine (clone8 _ _ _ _ hrc2 hlen).mono ?_;rintro e w1 ⟨v1,rfl,ho1,hb1⟩;go_wp2_with fail;go_ret;exact ⟨_,rfl,ownsRow_base ho1 (by simp;omega),bthen (Below.drew (balloc (balloc (balloc (Below.refl _ w) _) _) _)) hb1⟩
def dataI (bs:List UInt8) (blk at_ f t:Int):List UInt8:=if dOk blk at_ f t=true then dataP bs blk at_ f t else []
theorem partData_no (blk f t at_:Int) (ao:Option Addr) (n cap:Nat) (w:World) (hok:dOk blk at_ f t=false) :
  Calls Tryz.prog 76 #[.agg #[.int .i64 blk,.int .i64 f,.int .i64 t],.int .i64 at_,.slice ao n cap] w fun e w'=>e = .returned (.slice none 0 0)∧Below w.heap.size w w':=by
 simp only [dOk,Bool.and_eq_false_iff,decide_eq_false_iff_not] at hok
 by_cases h1:blk<0
 ·clear hok
  go_enter Tryz.func76,Tryz.ntmps76
  go_wp2;go_ret;exact ⟨rfl,balloc (balloc (balloc (Below.refl _ w) _) _) _⟩
 ·by_cases h2:268435456<blk
  ·clear hok
   go_enter Tryz.func76,Tryz.ntmps76
   go_wp2;go_ret;exact ⟨rfl,balloc (balloc (balloc (Below.refl _ w) _) _) _⟩
  ·by_cases h3:at_<0
   ·clear hok
    go_enter Tryz.func76,Tryz.ntmps76
    go_wp2;go_ret;exact ⟨rfl,balloc (balloc (balloc (Below.refl _ w) _) _) _⟩
   ·by_cases h4:1073741824<at_
    ·clear hok
     go_enter Tryz.func76,Tryz.ntmps76
     go_wp2;go_ret;exact ⟨rfl,balloc (balloc (balloc (Below.refl _ w) _) _) _⟩
    ·by_cases h5:f<0
     ·clear hok
      go_enter Tryz.func76,Tryz.ntmps76
      go_wp2;go_ret;exact ⟨rfl,balloc (balloc (balloc (Below.refl _ w) _) _) _⟩
     ·by_cases h6:4<t
      ·clear hok
       go_enter Tryz.func76,Tryz.ntmps76
       go_wp2;go_ret;exact ⟨rfl,balloc (balloc (balloc (Below.refl _ w) _) _) _⟩
      ·have h7:t≤f:=by omega
       clear hok
       go_enter Tryz.func76,Tryz.ntmps76
       go_wp2;go_ret;exact ⟨rfl,balloc (balloc (balloc (Below.refl _ w) _) _) _⟩
theorem partData_any (blk f t at_:Int) (v:Value) (n:Nat) (bs:List UInt8) (w:World) (h:Rd w 1 v n (bV bs)) (hn:n≤140737488355328) :
  Calls Tryz.prog 76 #[.agg #[.int .i64 blk,.int .i64 f,.int .i64 t],.int .i64 at_,v] w fun e w'=>∃ v',e = .returned v'∧w'.ownsRow w.heap.size 5 1 v' (dataI bs blk at_ f t).length (bV (dataI bs blk at_ f t))∧Below w.heap.size w w':=by
 by_cases hok:dOk blk at_ f t=true
 ·simp only [dataI,hok,if_true]
  exact partData_ok blk f t at_ v n bs w hok h hn
 ·have hok':dOk blk at_ f t=false:=by simpa using hok
  simp only [dataI,hok',Bool.false_eq_true,if_false];obtain ⟨ao,cap,rfl,_⟩:=h;refine (partData_no blk f t at_ ao n cap w hok').mono ?_;rintro e w' ⟨rfl,hb⟩;exact ⟨_,rfl,World.ownsRow_nil _ _ _ _,hb⟩
end Go.Proofs.YthkmihedkddnmaaGreat
