import Derived.Test.YthkmihedkddnmaaGreatUG2
import Derived.Test.YthkmihedkddnmaaGreatUG1
import Derived.Laws.CopyOwn
import Derived.Laws.ResultCell
import Derived.StillTailTactics
import Derived.Test.YthkmihedkddnmaaGreatUG11
import Derived.Test.YthkmihedkddnmaaGreatUG6
import Derived.Maps.OwnSet
set_option linter.unusedVariables false
set_option linter.unusedSimpArgs false
set_option maxHeartbeats 3200000
set_option maxRecDepth 100000
namespace Go.Proofs.YthkmihedkddnmaaGreat
open Lib (hid)
open Go.RowKit
theorem run_copy_mid {P:Program} (w:World) (dT sT rT:TypeId) (elem:TypeId) (hu:P.underlying dT=some (.slice elem)) (hsz:(P.info? elem).map (·.size)=some 1)
  (dp sp:Option Addr) (dLen dCap sLen sCap:Nat) (g off:Nat) (cur:List Value) (t:TypeId) (hg:w.heap[g]? = some (.cells cur.toArray t (0,0))) (cs:List Value) (hn:cs.length=Nat.min sLen dLen)
  (hpos:0<cs.length→dp=some ⟨g,off,none⟩∧∃ ad,sp=some ad∧∀ j v,cs[j]? = some v→w.cell? (ad.add j)=some v)
  (hfit:off+cs.length≤cur.length) (h1:∀ v∈cs,v.oneCell'=true) :
  ∃ w',(Builtin.copy_ #[dT,sT] rT #[.slice dp dLen dCap,.slice sp sLen sCap]).run P w = .ok (.int .i64 (cs.length:Int)) w'∧w'.heap[g]? = some (.cells (splice cur off cs).toArray t (0,0))∧Mods [g] w w':=by
 by_cases h0:cs.length=0
 ·obtain rfl:cs=[]:=List.eq_nil_of_length_eq_zero h0
  exact ⟨w,run_copy_none (P:=P) w dT sT rT elem dp sp dLen dCap sLen sCap hu hsz (by simpa using hn.symm),(by simpa [splice] using hg),Mods.refl _ _⟩
 ·obtain ⟨rfl,ad,rfl,hsrc⟩:=hpos (by omega)
  exact ⟨_,run_copy_row (P:=P) w dT sT rT elem g off dLen dCap ad sLen sCap cur.toArray t cs hu hsz hg hn hsrc (by simpa using hfit) h1,(by simpa [splice] using setRow_heap w g _ _ t _ hg),rfl,rfl,rfl,by simp [World.setRow],fun k hk hn=>setRow_other w g k _ (by simpa using hn)⟩
def mergeB (b:List UInt8) (f:Nat) (d:List UInt8):List UInt8:=splice b (f * 64) d
def cutB (b:List UInt8) (f t:Nat):List UInt8:=(b.drop (f * 64)).take ((t - f) * 64)
theorem bV_splice (b d:List UInt8) (o:Nat):splice (bV b) o (bV d)=bV (splice b o d):=by
 unfold splice;simp only [bV,List.map_append,List.map_take,List.map_drop,List.length_map]
theorem mergeB_len {b d:List UInt8} {f:Nat} (h:f * 64+d.length≤b.length):(mergeB b f d).length=b.length:=length_splice _ _ _ h
theorem zszM:Tryz.zeroCells50.size=256:=by kernel_rfl
theorem infoBlk:(Tryz.prog.info? 50).map (·.size)=some 256:=by kernel_rfl
theorem run_sliceL (w:World) (g f:Nat) (hf:f≤4):∃ dp,(f<4→dp=some ⟨g,f * 64,none⟩)∧∀ W,(Instr.sliceAt 50 (.pointer (some ⟨g,0,none⟩)) (some (.int .i64 ((f:Int) * 64))) none none).run Tryz.prog W = .ok (.slice dp (256 - f * 64) (256 - f * 64)) W:=by
 have hl:Tryz.prog.arrayLen 50=256:=by kernel_rfl
 have hs:∀ W,(sizeOf (Tryz.prog.elem 50)).run Tryz.prog W = .ok 1 W:=fun W=>by kernel_rfl
 refine ⟨if 256=f * 64 then some ⟨g,0,none⟩ else some ⟨g,f * 64,none⟩,fun h=>by rw [if_neg (by omega)],fun W => ?_⟩;rw [run_sliceAt_array_l (P:=Tryz.prog) W 50 ⟨g,0,none⟩ (by kernel_rfl) .i64 ((f:Int) * 64) (by omega) (by rw [hl];omega),hs,hl];simp only [Result.andThen_ok,slicedAt,show ((f:Int) * 64).toNat=f * 64 by omega]
 by_cases h:256=f * 64
 ·rw [if_pos h,if_pos h]
 ·rw [if_neg h,if_neg h,Nat.mul_one,Addr.add_lit,Nat.zero_add]
theorem res_blk {fn:Func} {p u:Tmp} (h:fn.results=#[.cell p 50,.tmp u]) (tmps:Array Value) (w:World) (g:Nat) (L:List UInt8) (x:Value) (hp:tmps.getD p undef = .pointer (some ⟨g,0,none⟩)) (hx:tmps.getD u undef=x) (hr:w.rangeAt g 0 (bV L)) (hl:L.length=256) :
  (results fn tmps).run Tryz.prog w = .ok (.tuple #[bA L,x]) w:=by
 rw [results_cell_tmp h,hp,hx];have:=run_loadVar_mid (P:=Tryz.prog) w g 0 50 (bV L) _ hr Tryz.underlying50 rfl (by rw [bV_len,hl];exact infoBlk);simp only [asAddr,Sem.run_pure,Result.andThen_ok,this]
 rfl
theorem run_sliceLH (g f t:Nat) (hf:f<t) (ht:t≤4):∀ W,(Instr.sliceAt 50 (.pointer (some ⟨g,0,none⟩)) (some (.int .i64 ((f:Int) * 64))) (some (.int .i64 ((t:Int) * 64))) none).run Tryz.prog W = .ok (.slice (some ⟨g,f * 64,none⟩) ((t - f) * 64) (256 - f * 64)) W:=fun W=>by
 have hl:Tryz.prog.arrayLen 50=256:=by kernel_rfl
 have hs:∀ W,(sizeOf (Tryz.prog.elem 50)).run Tryz.prog W = .ok 1 W:=fun W=>by kernel_rfl
 rw [run_sliceAt_array_lh (P:=Tryz.prog) W 50 ⟨g,0,none⟩ (by kernel_rfl) .i64 .i64 ((f:Int) * 64) ((t:Int) * 64) (by omega) (by omega) (by rw [hl];omega),hs,hl];simp only [Result.andThen_ok,slicedAt,show ((f:Int) * 64).toNat=f * 64 by omega,show ((t:Int) * 64).toNat=t * 64 by omega];rw [if_neg (by omega),Nat.mul_one,Addr.add_lit,Nat.zero_add,Nat.sub_mul]
theorem belowSet {B b:Nat} {a:World} (hb:B≤b):∀ (vs:List Value) (o:Nat) (w:World),Below B a w→Below B a (w.setCells b o vs)
 | [],_,_,h=>h
 | v :: r,o,w,h=>by
  rw [World.setCells];exact belowSet hb r (o+1) _ (h.setCell (p:=⟨b,o,none⟩) hb v)
theorem merge_ok (b:List UInt8) (hb:b.length=256) (f:Nat) (hf:f≤4) (v:Value) (n:Nat) (d:List UInt8) (w:World) (hrd:Rd w 1 v n (bV d)) (hn:n % 64=0) (hn2:n≤(4 - f) * 64) :
  Calls Tryz.prog 75 #[bA b,.int .i64 (f:Int),v] w fun e w'=>e = .returned (.tuple #[bA (mergeB b f d),.int .i64 0])∧Below w.heap.size w w':=by
 have hdl:d.length=n:=by obtain ⟨_,_,_,hl,_⟩:=hrd;simpa [bV] using hl
 have HDL:=hid hdl;have HRD:=hid hrd;obtain ⟨ao,cap,rfl,_,_,⟨_,hc1,hc2⟩,hcell⟩:=hrd;unfold maxLen at hc2;have HCELL:=hid hcell;obtain ⟨dp,hdp,hsl⟩:=run_sliceL w w.heap.size f hf;have HDP:=hid hdp;have hzz:=zszM;have hbl:(bV b).length=256:=by rw [bV_len,hb]
 have HBL:=hid hbl;have HB:=hid hb;have hra:((w.alloc (.cells (bV b).toArray 50)).alloc (.cells Tryz.zeroCells50 50)).rangeAt w.heap.size 0 (bV b):=World.rangeAt_alloc (fun j u hj=>by
  rw [Nat.zero_add];exact cellOf' (heap_alloc_new w _) j (by simpa using hj)) _
 have hi:(Tryz.prog.info? 50).map (·.size)=some (bV b).length:=by rw [hbl];exact infoBlk
 have HR:=hid (And.intro hra hi);have hst:=run_storeNew (P:=Tryz.prog) ((w.alloc (.cells (bV b).toArray 50)).alloc (.cells Tryz.zeroCells50 50)) 50 Tryz.zeroCells50 (bV b).toArray (by rw [hzz];simp [hbl]) (by simpa using bV_one b);rw [World.size_alloc,World.size_alloc] at hst;have hxs:(bV b).toArray.size=256:=by simp [hbl]
 have HSPL:Hid (splice (bV b) (f * 64) (bV d)=bV (mergeB b f d)):=hid (bV_splice b d _);have HD1:=hid (bV_one d);have HML:Hid ((mergeB b f d).length=256):=hid (by rw [mergeB_len (by omega),hb]);have hn3 : ¬ ((4 - (f:Int)) * 64<(n:Int)):=by omega
 have hn4:(n:Int) % 64=0:=by omega
 unfold bA
 generalize mergeB b f d=M at *
 generalize hBV:bV b=X at *
 generalize hXA:X.toArray=XA at *
 have HXA:=hid hXA;clear hdl hcell hdp hbl hra hi hb hXA;have HW:Hid (((((w.alloc (.cells XA 50)).alloc (.cells Tryz.zeroCells50 50)).alloc (.cells XA 50)).heap[w.heap.size]? = some (.cells X.toArray 50 (0,0)) ∧
   (((w.alloc (.cells XA 50)).alloc (.cells Tryz.zeroCells50 50)).alloc (.cells XA 50)).heap[w.heap.size+1]? = some (.cells Tryz.zeroCells50 50 (0,0)) ∧
   (((w.alloc (.cells XA 50)).alloc (.cells Tryz.zeroCells50 50)).alloc (.cells XA 50)).heap[w.heap.size+1+1]? = some (.cells X.toArray 50 (0,0))) ∧
   Below w.heap.size w (((w.alloc (.cells XA 50)).alloc (.cells Tryz.zeroCells50 50)).alloc (.cells XA 50))):=hid (by
  rw [HXA.out];refine ⟨⟨?_,?_,?_⟩,balloc (balloc (balloc (Below.refl _ _) _) _) _⟩
  ·rw [Below.heap_alloc _ _ _ (by simp;omega),Below.heap_alloc _ _ _ (by simp),heap_alloc_new]
  ·rw [Below.heap_alloc _ _ _ (by simp)]
   have:=heap_alloc_new (w.alloc (.cells XA 50)) (.cells Tryz.zeroCells50 50)
   rwa [World.size_alloc] at this
  ·have:=heap_alloc_new ((w.alloc (.cells XA 50)).alloc (.cells Tryz.zeroCells50 50)) (.cells XA 50)
   rwa [World.size_alloc,World.size_alloc] at this)
 have HSRC:Hid (0<(bV d).length→dp=some ⟨w.heap.size,f * 64,none⟩∧∃ ad,ao=some ad∧∀ j v,(bV d)[j]? = some v→(((w.alloc (.cells XA 50)).alloc (.cells Tryz.zeroCells50 50)).alloc (.cells XA 50)).cell? (ad.add j)=some v):=hid (fun h0=>by
  have h1:0<d.length:=by simpa [bV_len] using h0
  refine ⟨HDP.out (by rw [HDL.out] at h1;omega),?_⟩;obtain ⟨b1,off1,ha,_,_⟩:=HCELL.out 0 _ (List.getElem?_eq_getElem h0);refine ⟨⟨b1,off1,none⟩,ha,fun j v hj => ?_⟩;obtain ⟨b2,off2,ha2,hlt,hcell⟩:=HCELL.out j v hj;rw [ha] at ha2;obtain ⟨rfl,rfl⟩:b1=b2∧off1=off2:=by simpa using ha2
  rw [Addr.add_lit];exact (HW.out.2.cell (p:=⟨b1,off1+j,none⟩) hlt).trans hcell)
 have hbd:(bV d).length=n:=by rw [bV_len,HDL.out]
 have HBD:=hid hbd;have hmn:n=Nat.min n (256 - f * 64):=(Nat.min_eq_left (by omega)).symm;have HMN:=hid hmn;clear hbd hmn;obtain ⟨w2,hcp,hg2,hm2⟩:=run_copy_mid (P:=Tryz.prog) (((w.alloc (.cells XA 50)).alloc (.cells Tryz.zeroCells50 50)).alloc (.cells XA 50)) 33 33 3 5 Tryz.underlying33 (by kernel_rfl) dp ao (256 - f * 64) (256 - f * 64) n cap w.heap.size (f * 64) X 50 HW.out.1.1 (bV d) (by rw [HBD.out];exact HMN.out) HSRC.out (by rw [HBD.out,HBL.out];omega) HD1.out;rw [HBD.out] at hcp;rw [HSPL.out] at hg2;have hra2:w2.rangeAt w.heap.size 0 (bV M):=fun j u hj=>by
  rw [Nat.zero_add];exact cellOf' hg2 j (by simpa using hj)
 have h21:w2.heap[w.heap.size+1]? = some (.cells Tryz.zeroCells50 50 (0,0)):=(hm2.block _ (hLT HW.out.1.2.1) (by simp)).trans HW.out.1.2.1;have h22:w2.heap[w.heap.size+1+1]? = some (.cells X.toArray 50 (0,0)):=(hm2.block _ (hLT HW.out.1.2.2) (by simp;omega)).trans HW.out.1.2.2;have hrx2:w2.rangeAt (w.heap.size+1+1) 0 X:=fun j u hj=>by
  rw [Nat.zero_add];exact cellOf' h22 j (by simpa using hj)
 have hth:w2.there (w.heap.size+1) 0 (bV M).toArray.size:=fun j hj=>by
  have hj:j<256:=by simpa [bV_len,HML.out] using hj
  rw [Nat.zero_add];exact ⟨by rw [cell_of_row w2 _ j _ _ _ h21,Array.getElem?_eq_getElem (by rw [hzz];exact hj)];rfl,frozenOf h21 j⟩
 have hbw2:Below w.heap.size w w2:=HW.out.2.trans (hm2.below (by simp) HW.out.2.size);have hbm:(bV M).length=256:=by rw [bV_len,HML.out]
 have him:(Tryz.prog.info? 50).map (·.size)=some (bV M).length:=by rw [hbm];exact infoBlk
 have hix:(Tryz.prog.info? 50).map (·.size)=some X.length:=by rw [HBL.out];exact infoBlk
 have him2:(Tryz.prog.info? 50).map (·.size)=some (bV M).toArray.size:=by rw [List.size_toArray];exact him
 have hone:∀ u∈bV M,u.oneCell'=true:=bV_one M;have HF:=hid (And.intro hra2 (And.intro hrx2 (And.intro hth (And.intro hbw2 (And.intro him (And.intro hix (And.intro him2 hone)))))));have heq:∀ W,(binOp .eql 50 (.agg (bV M).toArray) (.agg XA)).run Tryz.prog W = .ok (.bool (M == b)) W:=fun W=>by
  have:=run_eql_bytes (P:=Tryz.prog) W (t:=50) (e:=5) (n:=256) Tryz.underlying50 Tryz.underlying5 rfl rfl M b HML.out HB.out;unfold bA at this;rw [hBV,HXA.out] at this;exact this
 have HMB:Hid (M=b→XA=(bV M).toArray):=hid (fun e=>by rw [e,hBV,HXA.out]);clear hra2 hrx2 hth hbw2 him hix him2 hone hbm h21 h22 hm2 hg2
 go_enter Tryz.func75,Tryz.ntmps75
 go_wp2_with fail;refine wp_load_mid 50 _ rfl w.heap.size 0 rfl X _ HR.out.1 Tryz.underlying50 rfl HR.out.2 ?_;rw [HXA.out];go_wp2_with fail;refine wp_load_mid 50 _ rfl w.heap.size 0 rfl (bV M) _ HF.out.1 Tryz.underlying50 rfl HF.out.2.2.2.2.1 ?_;go_wp2_with fail;refine wp_load_mid 50 _ rfl (w.heap.size+1+1) 0 rfl X _ HF.out.2.1 Tryz.underlying50 rfl HF.out.2.2.2.2.2.1 ?_;rw [HXA.out];have hend:∀ {fn:Func} {p u:Tmp} (tmps:Array Value),fn.results=#[.cell p 50,.tmp u]→tmps.getD p undef = .pointer (some ⟨w.heap.size+1,0,none⟩)→tmps.getD u undef = .int .i64 0 →
   (results fn tmps).run Tryz.prog (w2.setCells (w.heap.size+1) 0 (bV M)) = .ok (.tuple #[.agg (bV M).toArray,.int .i64 0]) (w2.setCells (w.heap.size+1) 0 (bV M)):=fun tmps h hp hx =>
  res_blk h tmps _ _ M _ hp hx (World.rangeAt_setCells_same w2 _ _ _ (by have:=HF.out.2.2.1;rwa [List.size_toArray] at this)) HML.out
 have HE:Hid (∀ {fn:Func} {p u:Tmp} (tmps:Array Value),fn.results=#[.cell p 50,.tmp u]→tmps.getD p undef = .pointer (some ⟨w.heap.size+1,0,none⟩)→tmps.getD u undef = .int .i64 0 →
   (results fn tmps).run Tryz.prog (w2.setCells (w.heap.size+1) 0 (bV M)) = .ok (.tuple #[.agg (bV M).toArray,.int .i64 0]) (w2.setCells (w.heap.size+1) 0 (bV M))):=hid hend
 have hbe:Below w.heap.size w (w2.setCells (w.heap.size+1) 0 (bV M)):=belowSet (by omega) _ _ _ HF.out.2.2.2.1;have HBE:=hid hbe;clear hend hbe hcp hst
 cases hq:(M == b) with
 | true =>
  rw [hq] at heq;have HXM:=hid (HMB.out (eq_of_beq hq));clear hq;go_wp2_with fail;refine wp_load_mid 50 _ rfl (w.heap.size+1+1) 0 rfl X _ HF.out.2.1 Tryz.underlying50 rfl HF.out.2.2.2.2.2.1 ?_;rw [HXA.out,HXM.out];clear heq
  go_wp2_with (refine wpList_store_mid rfl 50 _ _ rfl (w.heap.size+1) 0 (bV M).toArray rfl rfl HF.out.2.2.1 HF.out.2.2.2.2.2.2.1 (all_oneCell_toArray HF.out.2.2.2.2.2.2.2) ?_)
  exact bodyPost_ret (v:=.tuple #[.agg (bV M).toArray,.int .i64 0]) (HE.out _ rfl rfl rfl) rfl ⟨rfl,HBE.out⟩
 | false =>
  rw [hq] at heq;clear hq;go_wp2_with fail;refine wp_load_mid 50 _ rfl w.heap.size 0 rfl (bV M) _ HF.out.1 Tryz.underlying50 rfl HF.out.2.2.2.2.1 ?_;clear heq
  go_wp2_with (refine wpList_store_mid rfl 50 _ _ rfl (w.heap.size+1) 0 (bV M).toArray rfl rfl HF.out.2.2.1 HF.out.2.2.2.2.2.2.1 (all_oneCell_toArray HF.out.2.2.2.2.2.2.2) ?_)
  exact bodyPost_ret (v:=.tuple #[.agg (bV M).toArray,.int .i64 0]) (HE.out _ rfl rfl rfl) rfl ⟨rfl,HBE.out⟩
theorem cut_ok (b:List UInt8) (hb:b.length=256) (blk:Int) (f t:Nat) (hf:f<t) (ht:t≤4) (w:World) :
  Calls Tryz.prog 78 #[bA b,.agg #[.int .i64 blk,.int .i64 (f:Int),.int .i64 (t:Int)]] w fun e w'=>∃ v',e = .returned v'∧w'.ownsRow w.heap.size 5 1 v' ((t - f) * 64) (bV (cutB b f t))∧Below w.heap.size w w':=by
 have hs1:=run_sliceLH w.heap.size f t (by omega) ht;have hb2:Below w.heap.size w ((w.alloc (.cells (bV b).toArray 50)).alloc (.cells #[.int .i64 blk,.int .i64 (f:Int),.int .i64 (t:Int)] 100)):=balloc (balloc (Below.refl _ _) _) _;have hn:=Rd.new w 50 b 256 hb (by omega);have hn2:=(hn.below (balloc (Below.refl _ _) (.cells #[.int .i64 blk,.int .i64 (f:Int),.int .i64 (t:Int)] 100))).cut (l:=f * 64) (k:=t * 64) (by omega) (by omega)
 rw [Nat.mul_one,Nat.mul_one,← Nat.sub_mul,show ((bV b).drop (f * 64)).take ((t - f) * 64)=bV (cutB b f t) from by unfold cutB;simp [bV,List.map_take,List.map_drop]] at hn2;have hcu:cutA (some ⟨w.heap.size,0,none⟩) 256 (f * 64) 1=some ⟨w.heap.size,f * 64,none⟩:=by
  unfold cutA;rw [if_neg (by omega),Nat.mul_one,Option.map_some,Addr.add_lit,Nat.zero_add]
 rw [hcu] at hn2;have HN2:=hid hn2;have HB2:=hid hb2;clear hn hn2 hcu hb2;unfold bA
 generalize (bV b).toArray=XA at *
 go_enter Tryz.func78,Tryz.ntmps78
 go_wp2_with fail;refine (clone8 _ _ (cutB b f t) _ HN2.out (by omega)).mono ?_;rintro e w1 ⟨v1,rfl,ho,hb1⟩;have HO:=hid (ownsRow_base (base':=w.heap.size) ho (by simp;omega));have HB1:=hid (bthen HB2.out hb1);clear ho hb1;go_wp2_with fail;go_ret;exact ⟨_,rfl,HO.out,HB1.out⟩
end Go.Proofs.YthkmihedkddnmaaGreat
namespace Go.Proofs.YthkmihedkddnmaaGreat
open Lib (hid)
open Go.RowKit
def pClamp (blk at_ nd k:Int):Int:=min (max (blk * 4+k - at_) 0) nd
def dataP (bs:List UInt8) (blk at_ f t:Int):List UInt8 :=
 (bs.drop (pClamp blk at_ ((bs.length:Int) / 64) f * 64).toNat).take ((pClamp blk at_ ((bs.length:Int) / 64) t * 64).toNat - (pClamp blk at_ ((bs.length:Int) / 64) f * 64).toNat)
theorem place_any (k blk f t at_:Int) (ao:Option Addr) (n cap:Nat) (B:Nat) (w:World) (hk:0≤k∧k≤4) (hb:0≤blk∧blk≤268435456) (ha:0≤at_∧at_≤1073741824) (hn:n≤140737488355328)
  (c0:w.cell? ⟨B,0,none⟩=some (.int .i64 blk)) (c1:w.cell? ⟨B+1,0,none⟩=some (.int .i64 at_)) (c2:w.cell? ⟨B+1+1,0,none⟩=some (.slice ao n cap)) :
  Calls Tryz.prog 100 #[.int .i64 k,.pointer (some ⟨B,0,none⟩),.pointer (some ⟨B+1,0,none⟩),.pointer (some ⟨B+1+1,0,none⟩)] w fun e w'=>e = .returned (.int .i64 (pClamp blk at_ ((n:Int) / 64) k * 64))∧w'=w:=by
 obtain ⟨hk1,hk2⟩:=hk;obtain ⟨hb1,hb2⟩:=hb;obtain ⟨ha1,ha2⟩:=ha
 by_cases h1:0≤blk * 4+k - at_
 ·by_cases h2:blk * 4+k - at_≤(n:Int) / 64
  ·have e2:pClamp blk at_ ((n:Int) / 64) k=blk * 4+k - at_:=by unfold pClamp;omega
   have m1:max (blk * 4+k - at_) 0=blk * 4+k - at_:=by omega
   have m2:min (blk * 4+k - at_) ((n:Int) / 64)=blk * 4+k - at_:=by omega
   rw [e2];clear e2
   go_enter Tryz.func100,Tryz.ntmps100
   go_wp2;go_ret;exact ⟨rfl,rfl⟩
  ·have e2:pClamp blk at_ ((n:Int) / 64) k=(n:Int) / 64:=by unfold pClamp;omega
   have m1:max (blk * 4+k - at_) 0=blk * 4+k - at_:=by omega
   have m2:min (blk * 4+k - at_) ((n:Int) / 64)=(n:Int) / 64:=by omega
   rw [e2];clear e2
   go_enter Tryz.func100,Tryz.ntmps100
   go_wp2;go_ret;exact ⟨rfl,rfl⟩
 ·have e2:pClamp blk at_ ((n:Int) / 64) k=0:=by unfold pClamp;omega
  have m1:max (blk * 4+k - at_) 0=0:=by omega
  have m2:min (0:Int) ((n:Int) / 64)=0:=by omega
  rw [e2];clear e2
  go_enter Tryz.func100,Tryz.ntmps100
  go_wp2;go_ret;exact ⟨rfl,rfl⟩
def dOk (blk at_ f t:Int):Bool:=decide (0≤blk) && decide (blk≤268435456) && decide (0≤at_) && decide (at_≤1073741824) && decide (0≤f) && decide (t≤4) && decide (f<t)
theorem pClamp_le (blk at_ nd k:Int) (h:0≤nd):0≤pClamp blk at_ nd k∧pClamp blk at_ nd k≤nd:=by unfold pClamp;omega
theorem pClamp_mono (blk at_ nd:Int) {k l:Int} (h:k≤l):pClamp blk at_ nd k≤pClamp blk at_ nd l:=by unfold pClamp;omega
theorem partData_ok (blk f t at_:Int) (v:Value) (n:Nat) (bs:List UInt8) (w:World) (hok:dOk blk at_ f t=true) (h:Rd w 1 v n (bV bs)) (hn:n≤140737488355328) :
  Calls Tryz.prog 76 #[.agg #[.int .i64 blk,.int .i64 f,.int .i64 t],.int .i64 at_,v] w fun e w'=>∃ v',e = .returned v'∧w'.ownsRow w.heap.size 5 1 v' (dataP bs blk at_ f t).length (bV (dataP bs blk at_ f t))∧Below w.heap.size w w':=by
 simp only [dOk,Bool.and_eq_true,decide_eq_true_eq] at hok;obtain ⟨⟨⟨⟨⟨⟨hb1,hb2⟩,ha1⟩,ha2⟩,hf⟩,ht⟩,hft⟩:=hok;have hrd:=h;obtain ⟨ao,cap,rfl,hl,hm,hcap,hc⟩:=h;rw [bV_len,Nat.mul_one] at hl
 go_enter Tryz.func76,Tryz.ntmps76
 go_wp2;obtain ⟨X,hX⟩:∃ X,X=pClamp blk at_ ((n:Int) / 64) f * 64:=⟨_,rfl⟩
 obtain ⟨Y,hY⟩:∃ Y,Y=pClamp blk at_ ((n:Int) / 64) t * 64:=⟨_,rfl⟩
 have p1:=pClamp_le blk at_ ((n:Int) / 64) f (by omega);have p2:=pClamp_le blk at_ ((n:Int) / 64) t (by omega);have p3:=pClamp_mono blk at_ ((n:Int) / 64) (Int.le_of_lt hft);have hX0:0≤X:=by omega
 have hXY:X≤Y:=by omega
 have hYn:Y≤n:=by omega
 have P1:=fun (W:World) h0 h1 h2=>place_any f blk f t at_ ao n cap w.heap.size W ⟨hf,by omega⟩ ⟨hb1,hb2⟩ ⟨ha1,ha2⟩ hn h0 h1 h2;have P2:=fun (W:World) h0 h1 h2=>place_any t blk f t at_ ao n cap w.heap.size W ⟨by omega,ht⟩ ⟨hb1,hb2⟩ ⟨ha1,ha2⟩ hn h0 h1 h2;rw [← hX] at P1;rw [← hY] at P2;have HX:=hid hX;have HY:=hid hY;have HP1:=hid P1;have HP2:=hid P2;clear hX hY p1 p2 p3 P1 P2;obtain ⟨hcn,hnc,hcm⟩:=hcap;have hYc:Y≤(cap:Int):=by omega
 have hcut:=fun W=>run_cut (P:=Tryz.prog) W 33 ao n cap 1 (by kernel_rfl) (fun _=>by kernel_rfl) X Y hX0 hXY hYc;have hrc:=hrd.cut (l:=X.toNat) (k:=Y.toNat) (by omega) (by omega);simp only [Nat.mul_one] at hrc;have hdat:(List.drop X.toNat (bV bs)).take (Y.toNat - X.toNat)=bV (dataP bs blk at_ f t):=by
  unfold dataP bV;rw [hl,← HX.out,← HY.out,← List.map_drop,← List.map_take]
 have hdl:(dataP bs blk at_ f t).length=Y.toNat - X.toNat:=by
  rw [← bV_len,← hdat,List.length_take,List.length_drop,bV_len];omega
 rw [hdat,← hdl] at hrc;have HD:=hid hdl;have hlen:(dataP bs blk at_ f t).length≤140737488355328:=by omega
 clear hdat hdl;refine wp_region_still_tail 10 (by kernel_rfl) (by kernel_rfl) ?_;simp only [List.take_succ_cons,List.take_zero,List.drop_succ_cons,List.drop_zero];change wpStill _ _ (World.drew _) (fun a'=>wpList _ _ _ _ a' (World.drew _)) _ _
 repeat still_step
 still_call (HP1.out _ (by go_simp) (by go_simp) (by go_simp))
 repeat still_step
 still_call (HP2.out _ (by go_simp) (by go_simp) (by go_simp))
 repeat still_step
 refine wpStill_nil ?_;go_wp2_with fail;rw [← HD.out];have hrc2:=(((hrc.below (balloc (Below.refl _ w) (.cells #[.int .i64 blk,.int .i64 f,.int .i64 t] 100))).below (balloc (Below.refl _ _) (.cells #[.int .i64 at_] 3))).below (balloc (Below.refl _ _) (.cells #[.slice ao n cap] 33))).below ((Below.refl _ _).drew);refine (clone8 _ _ _ _ hrc2 hlen).mono ?_;rintro e w1 ⟨v1,rfl,ho1,hb1⟩;go_wp2_with fail;go_ret;exact ⟨_,rfl,ownsRow_base ho1 (by simp;omega),bthen (Below.drew (balloc (balloc (balloc (Below.refl _ w) _) _) _)) hb1⟩
def dataI (bs:List UInt8) (blk at_ f t:Int):List UInt8:=if dOk blk at_ f t=true then dataP bs blk at_ f t else []
theorem partData_no (blk f t at_:Int) (ao:Option Addr) (n cap:Nat) (w:World) (hok:dOk blk at_ f t=false) :
  Calls Tryz.prog 76 #[.agg #[.int .i64 blk,.int .i64 f,.int .i64 t],.int .i64 at_,.slice ao n cap] w fun e w'=>e = .returned (.slice none 0 0)∧Below w.heap.size w w':=by
 simp only [dOk,Bool.and_eq_false_iff,decide_eq_false_iff_not] at hok
 by_cases h1:blk<0
 ·clear hok
  go_enter Tryz.func76,Tryz.ntmps76
  go_wp2;go_ret;exact ⟨rfl,balloc (balloc (balloc (Below.refl _ w) _) _) _⟩
 ·by_cases h2:268435456<blk
  ·clear hok
   go_enter Tryz.func76,Tryz.ntmps76
   go_wp2;go_ret;exact ⟨rfl,balloc (balloc (balloc (Below.refl _ w) _) _) _⟩
  ·by_cases h3:at_<0
   ·clear hok
    go_enter Tryz.func76,Tryz.ntmps76
    go_wp2;go_ret;exact ⟨rfl,balloc (balloc (balloc (Below.refl _ w) _) _) _⟩
   ·by_cases h4:1073741824<at_
    ·clear hok
     go_enter Tryz.func76,Tryz.ntmps76
     go_wp2;go_ret;exact ⟨rfl,balloc (balloc (balloc (Below.refl _ w) _) _) _⟩
    ·by_cases h5:f<0
     ·clear hok
      go_enter Tryz.func76,Tryz.ntmps76
      go_wp2;go_ret;exact ⟨rfl,balloc (balloc (balloc (Below.refl _ w) _) _) _⟩
     ·by_cases h6:4<t
      ·clear hok
       go_enter Tryz.func76,Tryz.ntmps76
       go_wp2;go_ret;exact ⟨rfl,balloc (balloc (balloc (Below.refl _ w) _) _) _⟩
      ·have h7:t≤f:=by omega
       clear hok
       go_enter Tryz.func76,Tryz.ntmps76
       go_wp2;go_ret;exact ⟨rfl,balloc (balloc (balloc (Below.refl _ w) _) _) _⟩
theorem partData_any (blk f t at_:Int) (v:Value) (n:Nat) (bs:List UInt8) (w:World) (h:Rd w 1 v n (bV bs)) (hn:n≤140737488355328) :
  Calls Tryz.prog 76 #[.agg #[.int .i64 blk,.int .i64 f,.int .i64 t],.int .i64 at_,v] w fun e w'=>∃ v',e = .returned v'∧w'.ownsRow w.heap.size 5 1 v' (dataI bs blk at_ f t).length (bV (dataI bs blk at_ f t))∧Below w.heap.size w w':=by
 by_cases hok:dOk blk at_ f t=true
 ·simp only [dataI,hok,if_true]
  exact partData_ok blk f t at_ v n bs w hok h hn
 ·have hok':dOk blk at_ f t=false:=by simpa using hok
  simp only [dataI,hok',Bool.false_eq_true,if_false];obtain ⟨ao,cap,rfl,_⟩:=h;refine (partData_no blk f t at_ ao n cap w hok').mono ?_;rintro e w' ⟨rfl,hb⟩;exact ⟨_,rfl,World.ownsRow_nil _ _ _ _,hb⟩
end Go.Proofs.YthkmihedkddnmaaGreat
namespace Go.Proofs.YthkmihedkddnmaaGreat
open Go.RowKit
end Go.Proofs.YthkmihedkddnmaaGreat
namespace Go.Proofs.YthkmihedkddnmaaGreat
open Go.RowKit Wire Cmd
def zeroB:List UInt8:=List.replicate 256 0
def blkAt (m:List (Nat × List UInt8)) (k:Nat):List UInt8:=(getA k m).getD zeroB
def rowC (o:Op0):Int:=if o.k=5 then (o.data.length:Int) / 64 else o.count
def refD (l:List (Nat × Vl)) (o:Op0):Int :=
 if mayO o=false then 2 else if o.k=8 then 0 else if o.k=1 then (if (getA o.vol l).isSome then 7 else 0)
 else match getA o.vol l with
 | none=>6
 | some v =>
  if o.k=4 then (if (getA o.to l).isSome then 7 else 0)
  else if o.k=5∨o.k=6∨o.k=9 then (if 4 * (v.size:Int)<o.pl+rowC o then 5 else 0)
  else if o.k=7 then (if (v.size:Int)<o.pl+o.count then 5 else 0)
  else 0
def dataO (o:Op0):List UInt8:=if o.k=6 then List.replicate (64 * o.count).toNat 0 else o.data
def putP (a:Int) (d:List UInt8) (m:List (Nat × List UInt8)) (s:PSpan):List (Nat × List UInt8):=putA s.blk (mergeB (blkAt m s.blk) s.lo (dataI d s.blk a s.lo s.hi)) m
def putM (a:Int) (d:List UInt8) (m:List (Nat × List UInt8)) (sp:List PSpan):List (Nat × List UInt8):=sp.foldl (putP a d) m
theorem putM_snoc (a:Int) (d:List UInt8) (m:List (Nat × List UInt8)) (sp:List PSpan) (s:PSpan):putM a d m (sp ++ [s])=putP a d (putM a d m sp) s:=by simp [putM]
def readM (m:List (Nat × List UInt8)) (sp:List PSpan):List UInt8:=sp.flatMap fun s=>cutB (blkAt m s.blk) s.lo s.hi
theorem readM_snoc (m:List (Nat × List UInt8)) (sp:List PSpan) (s:PSpan):readM m (sp ++ [s])=readM m sp ++ cutB (blkAt m s.blk) s.lo s.hi:=by simp [readM]
def stepD (l:List (Nat × Vl)) (o:Op0) (b:Int):Ans0 × List (Nat × Vl) :=
 if refD l o≠0 then (⟨refD l o,0,[]⟩,l)
 else if o.k=1 then (⟨0,0,[]⟩,putA o.vol ⟨o.size.toNat,[]⟩ l)
 else if o.k=2 then (⟨0,0,[]⟩,delA o.vol l)
 else match getA o.vol l with
 | none=>(⟨0,0,[]⟩,l)
 | some v =>
  if o.k=3 then (⟨0,0,[]⟩,putA o.vol ⟨o.size.toNat,dropA o.size 1073741824 v.m⟩ l)
  else if o.k=4 then (⟨0,0,[]⟩,putA o.to v l)
  else if o.k=5∨o.k=6 then
   (if ((pSpansI o.pl (rowC o)).length:Int)≤b then ⟨0,0,[]⟩ else ⟨8,max b 0,[]⟩,putA o.vol ⟨v.size,putM o.pl (dataO o) v.m ((pSpansI o.pl (rowC o)).take b.toNat)⟩ l)
  else if o.k=7 then (⟨0,0,[]⟩,putA o.vol ⟨v.size,dropA o.pl (o.pl+o.count) v.m⟩ l)
  else if o.k=9 then (⟨0,0,readM v.m (pSpansI o.pl o.count)⟩,l)
  else (⟨0,0,[]⟩,l)
theorem dataP_hi (bs:List UInt8) (blk a f t:Int) (h:f≤t):((dataP bs blk a f t).length:Int)≤(t - f) * 64∧(dataP bs blk a f t).length % 64=0:=by
 have h0:(0:Int)≤(bs.length:Int) / 64:=by omega
 obtain ⟨a1,a2⟩:=pClamp_le blk a ((bs.length:Int) / 64) f h0;obtain ⟨b1,b2⟩:=pClamp_le blk a ((bs.length:Int) / 64) t h0;have h1:=pClamp_mono blk a ((bs.length:Int) / 64) h;have h2:pClamp blk a ((bs.length:Int) / 64) t - pClamp blk a ((bs.length:Int) / 64) f≤t - f:=by unfold pClamp;omega
 unfold dataP;rw [List.length_take,List.length_drop]
 generalize pClamp blk a ((bs.length:Int) / 64) f=x at *
 generalize pClamp blk a ((bs.length:Int) / 64) t=y at *
 have e:min ((y * 64).toNat - (x * 64).toNat) (bs.length - (x * 64).toNat)=(y * 64).toNat - (x * 64).toNat:=by omega
 rw [e];omega
theorem dataI_hi (bs:List UInt8) (blk a f t:Int) (h:f≤t):((dataI bs blk a f t).length:Int)≤(t - f) * 64∧(dataI bs blk a f t).length % 64=0:=by
 unfold dataI
 split
 ·exact dataP_hi bs blk a f t h
 ·simp;omega
def SpIn (size:Nat) (s:PSpan):Prop:=s.blk<size∧s.lo<s.hi∧s.hi≤4
theorem spans_in {a c:Int} {size:Nat} (h:a+c≤4 * (size:Int)):∀ s∈pSpansI a c,SpIn size s:=by
 intro s hs;unfold pSpansI at hs
 split at hs
 ·rename_i ho
  simp only [pOk,Bool.and_eq_true,decide_eq_true_eq] at ho;simp only [pSpans,List.mem_map,List.mem_range] at hs;obtain ⟨i,hi,rfl⟩:=hs;refine ⟨?_,pFrom_lt_pTo hi,pTo_le⟩
  show a.toNat / 4+i<size
  unfold pM at hi
  split at hi <;> omega
 ·cases hs
theorem blkAt_len {m:List (Nat × List UInt8)} (h:∀ q∈m,q.2.length=256) (k:Nat):(blkAt m k).length=256:=by
 unfold blkAt
 cases hg:getA k m with
 | none =>
  show zeroB.length=256
  unfold zeroB;rw [List.length_replicate]
 | some b=>exact h _ (getA_some hg)
theorem putP_ok {v:Vl} (h:v.Ok) {s:PSpan} (hs:SpIn v.size s) (a:Int) (d:List UInt8):Vl.Ok ⟨v.size,putP a d v.m s⟩:=by
 obtain ⟨h1,h2,h3⟩:=hs;refine ⟨h.size,ris_putA h.ris _ _,fun q hq => ?_,fun q hq => ?_⟩
 ·rcases mem_putA hq with rfl | hq
  ·exact h1
  ·exact h.lt q hq
 ·rcases mem_putA hq with rfl | hq
  ·have hb:=blkAt_len h.blk s.blk
   have:=(dataI_hi d s.blk a s.lo s.hi (by omega)).1
   show (mergeB _ _ _).length=256
   rw [mergeB_len (by rw [hb];omega),hb]
  ·exact h.blk q hq
theorem putM_ok {size:Nat} (a:Int) (d:List UInt8):∀ (sp:List PSpan) (m:List (Nat × List UInt8)),Vl.Ok ⟨size,m⟩→(∀ s∈sp,SpIn size s)→Vl.Ok ⟨size,putM a d m sp⟩
 | [],m,h,_=>h
 | s :: sp,m,h,hs=>by
  have h1:=putP_ok (v:=⟨size,m⟩) h (hs s (List.mem_cons_self ..)) a d;exact putM_ok a d sp _ h1 (fun z hz=>hs z (List.mem_cons_of_mem _ hz))
theorem dropA_ok {v:Vl} (h:v.Ok) (f t:Int):Vl.Ok ⟨v.size,dropA f t v.m⟩ :=
 ⟨h.size,ris_dropA h.ris f t,fun q hq=>h.lt q (List.mem_filter.1 hq).1,fun q hq=>h.blk q (List.mem_filter.1 hq).1⟩
theorem putA_dev {l:List (Nat × Vl)} (h:DevOk l) {n:Nat} {v:Vl} (hn:1≤n∧n<4294967296) (hv:v.Ok):DevOk (putA n v l) :=
 ⟨ris_putA h.ris _ _,fun p hp=>by
  rcases mem_putA hp with rfl | hp
  ·exact hn
  ·exact h.nat p hp,fun p hp=>by
  rcases mem_putA hp with rfl | hp
  ·exact hv
  ·exact h.vol p hp⟩
theorem delA_dev {l:List (Nat × Vl)} (h:DevOk l) (n:Nat):DevOk (delA n l) :=
 ⟨ris_delA h.ris _,fun p hp=>h.nat p (List.mem_filter.1 hp).1,fun p hp=>h.vol p (List.mem_filter.1 hp).1⟩
theorem may_vol {o:Op0} (h:mayO o=true) (hk:o.k≠8):1≤o.vol∧o.vol<4294967296:=by
 unfold mayO at h;simp only [Bool.and_eq_true,decide_eq_true_eq] at h;obtain ⟨⟨h1,h2,h3⟩,_⟩:=h;have hm:(118:UInt8)∈nm o.k:=by
  unfold nm
  (repeat' split) <;> first | decide | omega
 have:=List.all_eq_true.1 h1 118 hm
 simpa [wIn] using this
theorem may_to {o:Op0} (h:mayO o=true) (hk:o.k=4):1≤o.to∧o.to<4294967296:=by
 unfold mayO at h;simp only [Bool.and_eq_true,decide_eq_true_eq] at h;obtain ⟨⟨h1,h2,h3⟩,_⟩:=h;have hm:(116:UInt8)∈nm o.k:=by rw [hk];decide
 have:=List.all_eq_true.1 h1 116 hm;have h4:(1≤o.to∧o.to<4294967296)∧o.to≠o.vol:=by simpa [wIn] using this
 exact h4.1
theorem may_size {o:Op0} (h:mayO o=true) (hk:o.k=1∨o.k=3):0≤o.size∧o.size≤256:=by
 unfold mayO at h;simp only [Bool.and_eq_true,decide_eq_true_eq] at h;obtain ⟨⟨h1,h2,h3⟩,_⟩:=h;have hm:(115:UInt8)∈nm o.k:=by rcases hk with hk | hk <;> rw [hk] <;> decide
 have:=List.all_eq_true.1 h1 115 hm
 simpa [wIn] using this
end Go.Proofs.YthkmihedkddnmaaGreat
namespace Go.Proofs.YthkmihedkddnmaaGreat
open Go.RowKit Go.Maps
def blkD (b:List UInt8):DataW Unit:=.agg (b.map fun x=>.lit (.int .u8 (x.toNat:Int)))
theorem blkD_inj {a b:List UInt8} (h:blkD a=blkD b):a=b:=by
 unfold blkD at h;have h1:=DataW.agg.inj h
 induction a generalizing b with
 | nil=>cases b with
  | nil=>rfl
  | cons y b=>simp at h1
 | cons x a ih=>cases b with
  | nil=>simp at h1
  | cons y b =>
   simp only [List.map_cons,List.cons.injEq,DataW.lit.injEq,Lit.int.injEq,true_and] at h1;have e:x=y:=UInt8.toNat_inj.1 (by omega);rw [e,ih (by rw [h1.2]) h1.2]
theorem bA_inj {a b:List UInt8} (h:bA a=bA b):a=b:=by
 unfold bA at h;have h1:=Value.agg.inj h;have h2:bV a=bV b:=by simpa using congrArg Array.toList h1
 refine List.ext_getElem? fun i => ?_;have h3:(bV a)[i]? = (bV b)[i]?:=by rw [h2]
 rw [bV_get?,bV_get?] at h3
 cases ha:a[i]? with
 | none=>rw [ha] at h3;cases hb:b[i]? with
  | none=>rfl
  | some y=>rw [hb] at h3;simp at h3
 | some x=>rw [ha] at h3;cases hb:b[i]? with
  | none=>rw [hb] at h3;simp at h3
  | some y =>
   rw [hb] at h3;simp only [Option.map_some,Option.some.injEq,Value.int.injEq,true_and] at h3;have e:x=y:=UInt8.toNat_inj.1 (by omega);rw [e]
open Classical in
noncomputable def RBlk (v:Value):Option (DataW Unit × List MemPlace):=if h:∃ b:List UInt8,b.length=256∧v=bA b then some (blkD h.choose,[]) else none
theorem RBlk_mk {b:List UInt8} (h:b.length=256):RBlk (bA b)=some (blkD b,[]):=by
 have hx:∃ c:List UInt8,c.length=256∧bA b=bA c:=⟨b,h,rfl⟩
 unfold RBlk;rw [dif_pos hx];have:=bA_inj hx.choose_spec.2;rw [← this]
theorem RBlk_inv {v:Value} {b:List UInt8} {ps:List MemPlace} (h:RBlk v=some (blkD b,ps)):b.length=256∧v=bA b∧ps=[]:=by
 unfold RBlk at h
 split at h
 ·rename_i hx
  simp only [Option.some.injEq,Prod.mk.injEq] at h;have e:=blkD_inj h.1;have hs:=hx.choose_spec;rw [e] at hs;exact ⟨hs.1,hs.2,h.2.symm⟩
 ·cases h
def volD (x:Int × Option Nat):DataW Unit:=.agg [.lit (.int .i64 x.1),.lit (.int .i64 (match x.2 with | none => -1 | some b=>(b:Int)))]
def RVol (v:Value):Option (DataW Unit × List MemPlace) :=
 match v with
 | .agg ⟨[.int .i64 s,.map p]⟩=>some (volD (s,p),[])
 | _=>none
theorem RVol_mk (s:Int) (p:Option Nat):RVol (.agg #[.int .i64 s,.map p])=some (volD (s,p),[]):=rfl
theorem volD_inj {x y:Int × Option Nat} (h:volD x=volD y):x=y:=by
 obtain ⟨a,p⟩:=x;obtain ⟨b,q⟩:=y;unfold volD at h;simp only [DataW.agg.injEq,List.cons.injEq,DataW.lit.injEq,Lit.int.injEq,true_and,and_true] at h;obtain ⟨rfl,h2⟩:=h
 cases p <;> cases q <;> simp at h2 ⊢ <;> omega
theorem RVol_inv {v:Value} {x:Int × Option Nat} {ps:List MemPlace} (h:RVol v=some (volD x,ps)):v = .agg #[.int .i64 x.1,.map x.2]∧ps=[]:=by
 unfold RVol at h
 split at h
 ·rename_i s p
  simp only [Option.some.injEq,Prod.mk.injEq] at h;have e:=volD_inj h.1;subst e;exact ⟨rfl,h.2.symm⟩
 ·cases h
section
variable {α:Type} {P:Program} {k:TypeId} {R:Value→Option (DataW Unit × List MemPlace)} {q:IntKind} {f:α→DataW Unit}
def MapL (w:World) (P:Program) (k:TypeId) (R:Value→Option (DataW Unit × List MemPlace)) (q:IntKind) (f:α→DataW Unit) (b:Nat) (l:List (Nat × α)):Prop:=w.ownsMap P k R b l.length (encM q f l)
theorem mapL_of {w:World} {b n:Nat} {l:List (Nat × α)} (h:w.ownsMap P k R b n (encM q f l)):MapL w P k R q f b l:=by
 obtain ⟨es,clock,hb,F,hs,hD⟩:=h;refine ⟨es,clock,hb,F,?_,hD⟩;have h1:=DataW.map.inj hD;have h2:=congrArg List.length h1;rw [length_read] at h2;have h3:(encA q f l).length=l.length:=by simp [encA]
 omega
theorem mapL_new (w:World) (P:Program) (k:TypeId) (R:Value→Option (DataW Unit × List MemPlace)) (q:IntKind) (f:α→DataW Unit):MapL (w.alloc (.map #[] 0)) P k R q f w.heap.size []:=World.ownsMap_made w P k R
theorem MapL.lt {w:World} {b:Nat} {l:List (Nat × α)} (h:MapL w P k R q f b l):b<w.heap.size:=World.ownsMap.lt h
theorem MapL.at_ {w w':World} {b:Nat} {l:List (Nat × α)} (h:MapL w P k R q f b l) (hb:w'.heap[b]? = w.heap[b]?):MapL w' P k R q f b l:=by
 obtain ⟨es,clock,h1,h2⟩:=h;exact ⟨es,clock,hb.trans h1,h2⟩
theorem MapL.below {w w':World} {b:Nat} {l:List (Nat × α)} (h:MapL w P k R q f b l) (hb:Below w.heap.size w w'):MapL w' P k R q f b l:=h.at_ (hb.block _ h.lt)
theorem MapL.mods {w w':World} {F:List Nat} {b:Nat} {l:List (Nat × α)} (h:MapL w P k R q f b l) (hm:Mods F w w') (hb:b∉F):MapL w' P k R q f b l:=h.at_ (hm.block _ h.lt hb)
theorem MapL.isMap {w:World} {b:Nat} {l:List (Nat × α)} (h:MapL w P k R q f b l):∃ es clock,w.heap[b]? = some (.map es clock):=by
 obtain ⟨es,clock,h1,_⟩:=h;exact ⟨es,clock,h1⟩
theorem keyL {P:Program} {k:TypeId} {q:IntKind} (hk:P.underlying k=some (.int q)) {n:Nat} (hw:(Lit.int q (n:Int)).wf=true):keyOf P k (.int q (n:Int))=some (.int q (n:Int)):=keyOf_int_mk hk hw
theorem MapL.look {w:World} {b:Nat} {l:List (Nat × α)} (h:MapL w P k R q f b l) (hk:P.underlying k=some (.int q)) {t e:TypeId} (ht:P.underlying t=some (.map k e)) {z:Value} {zd:DataW Unit} {zp:List MemPlace}
  (hz:(zeroValue e).run P w = .ok z w) (hzd:R z=some (zd,zp)) {n:Nat} (hw:(Lit.int q (n:Int)).wf=true) :
  ∃ v ps,(Instr.lookup t (.map (some b)) (.int q (n:Int)) false).run P w = .ok v w∧R v=some ((match getA n l with | some a=>f a | none=>zd),ps):=by
 obtain ⟨v,ps,h1,h2⟩:=World.ownsMap.lookup h (int_keyed hk) ht hz hzd (keyL hk hw);rw [at_enc] at h2;exact ⟨v,ps,h1,h2⟩
theorem MapL.lookOk {w:World} {b:Nat} {l:List (Nat × α)} (h:MapL w P k R q f b l) (hk:P.underlying k=some (.int q)) {t e:TypeId} (ht:P.underlying t=some (.map k e)) {z:Value} {zd:DataW Unit} {zp:List MemPlace}
  (hz:(zeroValue e).run P w = .ok z w) (hzd:R z=some (zd,zp)) {n:Nat} (hw:(Lit.int q (n:Int)).wf=true) :
  ∃ v ps,(Instr.lookup t (.map (some b)) (.int q (n:Int)) true).run P w = .ok (.tuple #[v,.bool (getA n l).isSome]) w∧R v=some ((match getA n l with | some a=>f a | none=>zd),ps):=by
 obtain ⟨v,ps,h1,h2⟩:=World.ownsMap.look_ok h (int_keyed hk) ht hz hzd (keyL hk hw);rw [at_enc] at h2;rw [has_enc] at h1;exact ⟨v,ps,h1,h2⟩
theorem MapL.put {w:World} {b:Nat} {l:List (Nat × α)} (h:MapL w P k R q f b l) (hk:P.underlying k=some (.int q)) {t e:TypeId} (ht:P.underlying t=some (.map k e)) (hn:l.length<maxLen) {n:Nat} (hw:(Lit.int q (n:Int)).wf=true) {v:Value} {a:α} {ps:List MemPlace} (hv:R v=some (f a,ps)) :
  ∃ w',(Instr.mapUpdate t (.map (some b)) (.int q (n:Int)) v).run P w = .ok () w'∧MapL w' P k R q f b (putA n a l)∧Mods [b] w w':=by
 obtain ⟨w',h1,h2,h3⟩:=World.ownsMap.update h (int_keyed hk) ht hn (keyL hk hw) hv;rw [put_enc] at h2;exact ⟨w',h1,mapL_of h2,⟨h3.os,h3.tape,h3.output,h3.size,fun i hi hne=>h3.block i hi (fun e=>hne (by simp [Option.some.inj e]))⟩⟩
theorem MapL.del {w:World} {b:Nat} {l:List (Nat × α)} (h:MapL w P k R q f b l) (hk:P.underlying k=some (.int q)) {t e:TypeId} (ht:P.underlying t=some (.map k e)) {n:Nat} (hw:(Lit.int q (n:Int)).wf=true) (ty:TypeId) :
  ∃ w',(Builtin.delete_ #[t,k] ty #[.map (some b),.int q (n:Int)]).run P w = .ok (.tuple #[]) w'∧MapL w' P k R q f b (delA n l)∧Mods [b] w w':=by
 obtain ⟨w',h1,h2,h3⟩:=World.ownsMap.drop h (int_keyed hk) ht (keyL hk hw) ty;rw [del_enc] at h2;have h4:=h3.grown;exact ⟨w',h1,mapL_of h2,⟨h4.os,h4.tape,h4.output,h4.size,fun i hi hne=>h4.block i hi (fun e=>hne (by simp [Option.some.inj e]))⟩⟩
theorem MapL.len {w:World} {b:Nat} {l:List (Nat × α)} (h:MapL w P k R q f b l) {t e:TypeId} (ht:P.underlying t=some (.map k e)) (ty:TypeId):(Builtin.len_ #[t] ty #[.map (some b)]).run P w = .ok (.int .i64 (l.length:Int)) w:=by
 have:=World.ownsMap.len h ht ty;rw [size_enc] at this;exact this
end
end Go.Proofs.YthkmihedkddnmaaGreat
