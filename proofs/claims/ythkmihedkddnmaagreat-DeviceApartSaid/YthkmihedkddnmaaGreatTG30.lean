import Derived.Test.YthkmihedkddnmaaGreatTG2
import Derived.Test.YthkmihedkddnmaaGreatTG19
import Derived.Test.YthkmihedkddnmaaGreatTG29
set_option linter.unusedVariables false
set_option linter.unusedSimpArgs false
set_option maxHeartbeats 6400000
set_option maxRecDepth 100000
namespace Go.Proofs.YthkmihedkddnmaaGreat
open Lib (hid)
open Go.RowKit Wire Cmd
def RRd (w wr:World) (q:Nat) (bs:List UInt8):Prop:=Mods [q] w wr∧∃ dv,wr.heap[q]? = some (.cells #[.int .i64 0,.int .i64 0,dv] 35 (0,0))∧wr.ownsRow w.heap.size 5 1 dv bs.length (bV bs)
theorem span_row {w:World} {base n:Nat} {v:Value} {L:List PSpan} (h:w.ownsRow base 100 3 v n (spansCells L)) (hn:1≤n) :
  ∃ g c,v = .slice (some ⟨g,0,none⟩) n c∧(base≤g∧g<w.heap.size)∧n≤c∧Hid (∀ (j:Nat) (u:Value),(spansCells L)[j]? = some u→w.cell? ⟨g,j,none⟩=some u):=by
 rcases h.2 with ⟨he,h0⟩ | ⟨g,cap,cur,rfl,hb,hh,r1,r2,r3,r4⟩
 ·omega
 ·refine ⟨g,cap,rfl,⟨hb,(hLT hh)⟩,r1,hid (fun j u hj => ?_)⟩
  rw [← r4,List.getElem?_take] at hj
  split at hj
  ·exact cellOf hh j (by simpa using hj)
  ·cases hj
theorem rread_any (n0:Nat) (w:World) (B:Nat) (sv:Value) (l:List (Nat × (Vl × Value))) (h:RDevAt n0 w B sv l) (hn0:n0≤w.heap.size) (o:Op0) (ok:o.Ok) (ao:Option Addr) (cap:Nat) (hn:o.data.length≤1000000) (hd:DevOk (mapA (·.1) l)) (hll:l.length≤1000000) (b:Int) (hr:refD (mapA (·.1) l) o=0) (hk:o.k=9) :
  Calls Tryz.prog 19 #[.pointer (some ⟨B,0,none⟩),.agg (oC o (.slice ao o.data.length cap)),.int .i64 b] w fun e w'=>RPartP n0 w B sv (stepD (mapA (·.1) l) o b) e w':=by
 have HH:=hid h;have HN0:=hid hn0;have HLL:=hid hll;have hris:Ris l:=(ris_map (fun x:Vl × Value=>x.1)).1 hd.ris;have hok:∀ p∈l,p.2.1.Ok:=fun p hp=>hd.vol (p.1,p.2.1) (List.mem_map.2 ⟨p,hp,rfl⟩);have HRIS:=hid hris;have HDO:=hid hd;have HOKV:=hid hok;have HREF:=hid hr;have HKK:=hid hk;have HOK:=hid ok;have HDL:=hid hn;have HMAY:=hid (ref0_may hr);obtain ⟨sl,hsl⟩:∃ s,Value.slice ao o.data.length cap=s:=⟨_,rfl⟩
 have HSLE:=hid hsl;obtain ⟨fi,hfi⟩:∃ i,findI o.vol l=i:=⟨_,rfl⟩
 have HFI:=hid hfi;have CM:Hid (∀ X,RDevAt n0 X B sv l→Calls Tryz.prog 48 #[.pointer (some ⟨B,0,none⟩),.agg (oC o sl)] X fun e w'=>e = .returned (.int .i64 0)∧Below X.heap.size X w'):=hid (fun X hX=>by rw [← hsl,← hr];exact rrefused_any n0 X B sv l hX o ok ao cap hn (fun p hp=>(hok p hp).size));have CF:Hid (∀ X,RDevAt n0 X B sv l→Calls Tryz.prog 22 #[.pointer (some ⟨B,0,none⟩),.int .u64 (o.vol:Int)] X fun e w'=>e = .returned (.int .i64 fi)∧X=w'):=hid (fun X hX=>by rw [← hfi];exact rfind_any n0 X B sv l hX o.vol);rw [hsl]
 clear hsl hfi h hn0 hll hris hok hd hr hk ok hn;obtain ⟨w2,hw2⟩:∃ W,(w.alloc (.cells #[.int .i64 o.k,.int .u64 (o.vol:Int),.int .u64 (o.to:Int),.int .i64 o.size,.int .i64 o.pl,.int .i64 o.count,sl] 40)).alloc (.cells #[.int .i64 0,.int .i64 0,.slice none 0 0] 35)=W:=⟨_,rfl⟩
 have HBX:Hid (Boxes w w2 (oC o sl)):=hid (by rw [← hw2];exact boxes w (oC o sl));have HD2:=hid (HH.out.below HBX.out.bel);have HX2:=hid HBX.out.op;rw [show (oC o sl)=#[.int .i64 o.k,.int .u64 (o.vol:Int),.int .u64 (o.to:Int),.int .i64 o.size,.int .i64 o.pl,.int .i64 o.count,sl] from rfl]
 go_enter Tryz.func19,Tryz.ntmps19
 go_upto_region 1 with fail
 (try rw [hw2])
 clear hw2;obtain ⟨c0,c1,c2,c3,c4,c5,c6⟩:=op7 HX2.out;go_wp2_with fail;refine (CM.out w2 HD2.out).mono ?_;rintro e w3 ⟨rfl,hb3⟩;have HB3:=hid (bthen HBX.out.bel hb3);have HD3:=hid (HD2.out.below hb3);have HX3:=hid ((hb3.block w.heap.size (hLT HX2.out)).trans HX2.out);have HA3:=hid ((hb3.block (w.heap.size+1) (hLT HBX.out.ans)).trans HBX.out.ans);clear c0 c1 c2 c3 c4 c5 c6 hb3;obtain ⟨q8,hq8⟩:∃ k,w3.heap.size=k:=⟨_,rfl⟩
 go_upto_region 5 with fail
 obtain ⟨w4,hw4⟩:∃ W,w3.alloc (.cells #[.int .i64 0,.int .i64 0,.slice none 0 0] 35)=W:=⟨_,rfl⟩
 have hb4:Below w3.heap.size w3 w4:=by rw [← hw4];exact balloc (Below.refl _ _) _
 have HA8:Hid (w4.heap[q8]? = some (.cells #[.int .i64 0,.int .i64 0,.slice none 0 0] 35 (0,0))):=hid (by rw [← hw4,← hq8];exact heap_alloc_new _ _);have HQ8:Hid (w.heap.size+2≤q8):=hid (by have:=HB3.out.size;have h1:=(hLT HA3.out);omega);have HB4:=hid (bthen HB3.out hb4);have HD4:=hid (HD3.out.below hb4);have HX4:=hid ((hb4.block w.heap.size (hLT HX3.out)).trans HX3.out);have HA4:=hid ((hb4.block (w.heap.size+1) (hLT HA3.out)).trans HA3.out);rw [hw4];clear hw4 hq8 hb4;obtain ⟨c0,c1,c2,c3,c4,c5,c6⟩:=op7 HX4.out;go_wp2_with fail
 refine (CF.out w4 HD4.out).mono ?_;rintro e w5 ⟨rfl,rfl⟩;have HN4:Hid (n0≤w4.heap.size):=hid (Nat.le_trans HN0.out HB4.out.size);clear CM CF;have hvx:∃ (i:Nat) (a:Vl × Value),fi=(i:Int)∧l[i]? = some (o.vol,a):=by
  rw [← HFI.out]
  rcases find_case o.vol l with ⟨i,a,h1,h2,h3⟩ | ⟨h1,h2⟩
  ·exact ⟨i,a,h1,h2⟩
  ·obtain ⟨v,hv⟩:=ref0_vol HREF.out (by rw [HKK.out];decide) (by rw [HKK.out];decide)
   rw [getA_map,h2] at hv
   cases hv
 obtain ⟨i,a,rfl,hi⟩:=hvx;have HI:=hid hi;have HVO:=hid (HOKV.out _ (List.mem_of_getElem? hi));have HGV:Hid (getA o.vol (mapA (·.1) l)=some a.1):=hid (getA_at HDO.out.ris (mapA_get _ hi));obtain ⟨g,cap2,rfl,hc1,hc2,e0,e1,e2⟩:=HD4.out.at_ HI.out;have HE1:=hid e1;have HE2:=hid e2;have hbc:=HD4.out.cell;have hln:i<l.length:=(List.getElem?_eq_some_iff.1 hi).1;have hlb:=HLL.out;have HVA:=hid (HD4.out.vol HI.out);have HFZ:=hid HD4.out.frz;obtain ⟨n,hn⟩:∃ n,l.length=n:=⟨_,rfl⟩
 have HN:=hid hn;rw [hn] at HH HD4 hbc hln hlb hc1;clear hn hi e0 e1 e2;have g1:(o.k == 1)=false:=by simp [HKK.out]
 have g2:(o.k == 2)=false:=by simp [HKK.out]
 have g3:(o.k == 3)=false:=by simp [HKK.out]
 have g4:(o.k == 4)=false:=by simp [HKK.out]
 have g5:(o.k == 5)=false:=by simp [HKK.out]
 have g6:(o.k == 6)=false:=by simp [HKK.out]
 have g7:(o.k == 7)=false:=by simp [HKK.out]
 have g9:(o.k == 9)=true:=by simp [HKK.out]
 obtain ⟨hp1,hp2⟩:=may_pl HMAY.out (by rw [HKK.out];decide);obtain ⟨hq1,hq2⟩:=may_count HMAY.out (by rw [HKK.out];decide);have HROW:Hid (o.pl+o.count≤4 * (a.1.size:Int)):=hid (by have:=ref0_row HREF.out (by rw [HKK.out];decide) HGV.out;unfold rowC at this;rw [if_neg (by rw [HKK.out];decide)] at this;exact this);obtain ⟨pn,hpn⟩:∃ k:Nat,o.pl=(k:Int):=⟨o.pl.toNat,by omega⟩
 obtain ⟨cn,hcn⟩:∃ k:Nat,o.count=(k:Int):=⟨o.count.toNat,by omega⟩
 have HPN:=hid hpn;have HCN:=hid hcn;have HSPE:Hid (pSpansI o.pl o.count=pSpans pn cn):=hid (by
  rw [hpn,hcn];unfold pSpansI;rw [if_pos (by unfold pOk;simp;omega)]
  rfl)
 have HSPI:Hid (∀ s∈pSpans pn cn,SpIn a.1.size s):=hid (by rw [← HSPE.out];exact spans_in HROW.out);rw [hpn] at c4;rw [hcn] at c5;have CS:=refPart_any pn cn w4 (by omega) (by omega) (by omega);have HBC:=hid hbc;clear hbc hpn hcn;go_wp2_with fail;refine CS.mono ?_;rintro e w5 ⟨vs,rfl,hos,hb5⟩;have HB5:=hid (bthen HB4.out hb5);have HD5:=hid (HD4.out.below hb5);have HA5:=hid ((hb5.block (w.heap.size+1) (hLT HA4.out)).trans HA4.out);have HQ5:=hid ((hb5.block q8 (hLT HA8.out)).trans HA8.out)
 have HQL:Hid (q8<w4.heap.size∧w4.heap.size≤w5.heap.size):=hid ⟨(hLT HA8.out),hb5.size⟩;have HNM1:Hid (1≤pM pn cn∧pM pn cn≤1024):=hid (by
  have h1:=HCN.out;unfold pM;rw [if_neg (by omega)]
  omega)
 obtain ⟨SP,hSP⟩:∃ L,pSpans pn cn=L:=⟨_,rfl⟩
 have HSP:=hid hSP;obtain ⟨nm,hnm⟩:∃ k,pM pn cn=k:=⟨_,rfl⟩
 have HNM:Hid (SP.length=nm):=hid (by rw [← hSP,pSpans_len,hnm]);have HNB:Hid (1≤nm∧nm≤1024):=hid (by rw [← hnm];exact HNM1.out);have HSPI2:Hid (∀ s∈SP,SpIn a.1.size s):=hid (by rw [← hSP];exact HSPI.out);rw [hnm,hSP] at hos;obtain ⟨gs,cs_,rfl,hgs,hcs,HSC⟩:=span_row hos HNB.out.1;have HGS:Hid (w4.heap.size≤gs∧gs<w5.heap.size):=hid hgs;have hnm1:=HNB.out;clear hos hb5 hnm hSP CS c0 c1 c2 c3 c4 c5 c6 hgs hp1 hp2 hq1 hq2;go_wp2_with fail
 go_loopw [16] (fun v wr=>∃ k:Nat,k≤nm∧v = .int .i64 (k:Int)∧RRd w5 wr q8 (readM a.1.m (SP.take k))) (fun v _=>nm - (Go.Proofs.intOf v).toNat)
 case atStart=>exact ⟨0,Nat.zero_le _,rfl,Mods.refl _ _,_,HQ5.out,World.ownsRow_nil _ _ _ _⟩
 case round =>
  obtain ⟨k,hk,rfl,hm,dv,hq,hrow⟩:=hrel;obtain ⟨ad,cd,rfl⟩:=row_slice hrow;have HM:=hid hm;have HDW:=hid (HD5.out.tagged HQ5.out (by decide) (by decide) (by decide) hm)
  by_cases hlt:k<nm
  ·obtain ⟨s,hs⟩:∃ s,SP[k]? = some s:=⟨_,List.getElem?_eq_getElem (by rw [HNM.out];exact hlt)⟩
   have HSN:Hid (readM a.1.m (SP.take (k+1))=readM a.1.m (SP.take k) ++ cutB (blkAt a.1.m s.blk) s.lo s.hi):=hid (by rw [List.take_add_one,hs];exact readM_snoc _ _ _);have HSIN:=hid (HSPI2.out s (List.mem_of_getElem? hs));have HRL:Hid ((readM a.1.m (SP.take k)).length≤262144):=hid (by
    have h1:=readM_len a.1.m HVO.out.blk (SP.take k);have h2:(SP.take k).length≤k:=by rw [List.length_take];exact Nat.min_le_left _ _
    have h3:=HNB.out
    omega)
   obtain ⟨bs,hbs⟩:∃ x,readM a.1.m (SP.take k)=x:=⟨_,rfl⟩
   rw [hbs] at hrow hq HSN HRL;obtain ⟨L,hL⟩:∃ x,bs.length=x:=⟨_,rfl⟩
   have HL:=hid hL;rw [hL] at hrow hq HRL;have HQ:=hid hq;have HRW:=hid hrow;have HOD:Hid (∀ j∈ob (.slice ad L cd),w5.heap.size≤j∧j<wr.heap.size):=hid (fun j hj=>⟨ownsRow_ge hrow j hj,ownsRow_lt hrow j hj⟩);obtain ⟨s0,s1,s2⟩:=spansCells_get hs;have hgq:gs∉[q8]:=by have:=HGS.out;have:=HQL.out;simp;omega
   have HS0':=hid ((World.cell?_of_block (a:=⟨gs,k * 3,none⟩) (hm.block gs HGS.out.2 hgq)).trans (HSC.out _ _ s0));have HS1':=hid ((World.cell?_of_block (a:=⟨gs,k * 3+1,none⟩) (hm.block gs HGS.out.2 hgq)).trans (HSC.out _ _ s1));have HS2':=hid ((World.cell?_of_block (a:=⟨gs,k * 3+2,none⟩) (hm.block gs HGS.out.2 hgq)).trans (HSC.out _ _ s2));have HGW:Hid (gs<wr.heap.size∧w5.heap.size≤wr.heap.size):=hid ⟨Nat.lt_of_lt_of_le HGS.out.2 hm.size,hm.size⟩;have HVW:=hid (HDW.out.vol HI.out)
   have HBL:Hid ((blkAt a.1.m s.blk).length=256):=hid (blkAt_len HVO.out.blk s.blk);obtain ⟨C,hC⟩:∃ x,blkAt a.1.m s.blk=x:=⟨_,rfl⟩
   rw [hC] at HSN HBL;obtain ⟨XA,hXA⟩:∃ x,(bV C).toArray=x:=⟨_,rfl⟩
   have HXA:=hid hXA;obtain ⟨bb,hbb⟩:∃ x,(getI (s.blk:Int) a.1.m).isSome=x:=⟨_,rfl⟩
   have CG:Hid (∀ X,Below wr.heap.size wr X→Calls Tryz.prog 36 #[.pointer (some ⟨g,i * 3,none⟩),.int .i64 (s.blk:Int)] X fun e w'=>e = .returned (.tuple #[.agg XA,.bool bb])∧Below X.heap.size X w'):=hid (fun X hX=>by
    have h1:=rget_any n0 X g (i * 3) a.2 a.1.m (HVW.out.below hX) HVO.out.blk HVO.out.ris (Nat.le_trans HVO.out.len (by decide)) (s.blk:Int);rw [hbb,getI_nat,show (getA s.blk a.1.m).getD zeroB=C from hC] at h1;rw [← hXA];exact h1)
   have HSA:Hid (XA.size=256∧∀ u∈XA.toList,u.oneCell'=true):=hid ⟨by rw [← hXA];simp [bV_len,HBL.out],by rw [← hXA];simpa using bV_one C⟩;clear hm hq hrow hs s0 s1 s2 hbs hL hC hXA hbb hgq;go_wp2_with fail;have HSS:Hid (∀ X,Below wr.heap.size wr X→(X.cell? ⟨B,0,none⟩=some (.slice (some ⟨g,0,none⟩) n cap2)∧X.cell? ⟨gs,k * 3,none⟩=some (.int .i64 (s.blk:Int)))∧Below wr.heap.size wr X):=hid (fun X hb=>⟨⟨(World.cell?_of_block (hb.block _ (HDW.out.lt))).trans (HDW.out.cell),(World.cell?_of_block (hb.block _ (HGW.out.1))).trans (HS0'.out)⟩,hb⟩)
   refine wp_region_held_drew (S:=fun X=>(X.cell? ⟨B,0,none⟩=some (.slice (some ⟨g,0,none⟩) n cap2)∧X.cell? ⟨gs,k * 3,none⟩=some (.int .i64 (s.blk:Int)))∧Below wr.heap.size wr X) (by kernel_rfl) (HSS.out _ (Below.refl _ _).drew) (fun hHeld => ?_);have hbe:Below wr.heap.size wr wr.drew:=(Below.refl _ _).drew;obtain ⟨wd,hwd⟩:∃ y,wr.drew=y:=⟨_,rfl⟩
   rw [hwd] at hHeld hbe ⊢;have HBE:=hid hbe;have HS0:Hid (wr.heap.size≤wd.heap.size):=hid HBE.out.size;clear hwd hbe;refine tkP 0 rfl ?_;refine tkP 4 rfl ?_;refine tkP 6 rfl ?_;refine tkP 7 rfl ?_;refine tkP 1 rfl ?_;refine tkP 8 rfl ?_;refine tkP 2 rfl ?_;refine tkP 9 rfl ?_;refine tkP 3 rfl ?_;refine tkP 10 rfl ?_;refine tkP 5 rfl ?_;refine rd2 11 15 rfl rfl (fun K hK => ?_) fun K hK => ?_
   ·skip
    simp only [gE1,gE2,gE3];go_simp;refine (CG.out _ HBE.out).mono ?_;rintro e w3 ⟨rfl,hb3⟩;dsimp only;have HBE:=hid (bthen HBE.out hb3);clear hHeld;refine hK.out _ _ (HSS.out _ HBE.out) fun hHeld => ?_;clear hK K;try simp only [Act.put,pE1,pE2,pE3]
    have HC11:=hid hb3;clear hb3;refine tkP 12 rfl ?_;refine tkP 13 rfl ?_;refine tkP 14 rfl ?_;refine rd1 15 rfl fun K hK => ?_;simp only [gE1,gE2,gE3];go_simp;obtain ⟨b15,y15,hw15,hy15,hx15,HN15⟩:=al w3 (.cells Tryz.zeroCells50 50);rw [hy15,hw15];have HG15:Hid (wr.heap.size≤b15):=hid (by have:=HBE.out.size;omega);clear hy15 hw15;have HBE:=hid (bthen HBE.out hx15);clear hHeld;refine hK.out _ _ (HSS.out _ HBE.out) fun hHeld => ?_;clear hK K;try simp only [Act.put,pE1,pE2,pE3]
    clear hx15;refine rd1 16 rfl fun K hK => ?_;have hsz6:=HSA.out.1;obtain ⟨w6,hst6,hg6,hm6⟩:=store_at (P:=Tryz.prog) y15 b15 50 _ XA HN15.out (by rw [zszM,HSA.out.1]) HSA.out.2;have HBE:Hid (Below wr.heap.size wr w6):=hid (HBE.out.trans (hm6.below (fun k hk=>by have:=HG15.out;have e:=List.mem_singleton.1 hk;omega) HBE.out.size));simp only [gE1,gE2,gE3];go_simp;refine hK.out _ _ ?_ (fun hHeld => ?_)
    ·exact HSS.out _ HBE.out
    clear hK K;try simp only [Act.put,pE1,pE2,pE3]
    have HN15:=hid hg6;clear hg6 hm6 hst6 hsz6;refine tkP 17 rfl ?_;refine wpAnyH_done (by kernel_rfl) ?_ _;have HEND:=hid hHeld.2;have HSE:=hid hHeld.1;clear hHeld;clear HSE HSS HEND;obtain ⟨W7,hW7⟩:∃ W7,W7=w6:=⟨_,rfl⟩
    subst hW7;have HB7:=hid HBE.out;have HQ7:=hid ((HB7.out.block q8 (hLT HQ.out)).trans HQ.out);have HQ7L:=hid (hLT HQ7.out);have HRA7:Hid (W7.rangeAt b15 0 (bV C)):=hid (fun j u hj=>by
     rw [Nat.zero_add];exact cellOf' HN15.out j (by rw [← HXA.out];simpa using hj))
    have HRW7:=hid (ownsRow_below HRW.out HB7.out);have HGN:Hid (gs∉(q8 :: ob (.slice ad L cd))∧b15∉(q8 :: ob (.slice ad L cd))∧q8∉ob (.slice ad L cd)):=hid (by
     have h1:=HQL.out;have h2:=HGS.out;have h3:=HG15.out;have h4:=(hLT HQ.out)
     refine ⟨fun h => ?_,fun h => ?_,fun h => ?_⟩
     ·rcases List.mem_cons.1 h with e | h
      ·omega
      ·have:=HOD.out _ h;omega
     ·rcases List.mem_cons.1 h with e | h
      ·omega
      ·have:=HOD.out _ h;omega
     ·have:=HOD.out _ h;omega)
    have HG7:Hid (gs<W7.heap.size∧b15<W7.heap.size∧w5.heap.size≤W7.heap.size):=hid ⟨Nat.lt_of_lt_of_le HGW.out.1 HB7.out.size,(hLT HN15.out),Nat.le_trans HGW.out.2 HB7.out.size⟩;have T0:=hid ((HB7.out.cell (p:=⟨gs,k * 3,none⟩) HGW.out.1).trans HS0'.out);have T1:=hid ((HB7.out.cell (p:=⟨gs,k * 3+1,none⟩) HGW.out.1).trans HS1'.out);have T2:=hid ((HB7.out.cell (p:=⟨gs,k * 3+2,none⟩) HGW.out.1).trans HS2'.out)
    have CC:Hid (∀ X,Calls Tryz.prog 54 #[.agg (bV C).toArray,.agg #[.int .i64 (s.blk:Int),.int .i64 (s.lo:Int),.int .i64 (s.hi:Int)]] X fun e w'=>∃ v',e = .returned v'∧w'.ownsRow X.heap.size 5 1 v' ((s.hi - s.lo) * 64) (bV (cutB C s.lo s.hi))∧Below X.heap.size X w'):=hid (fun X=>rcut_any C HBL.out _ s.lo s.hi HSIN.out.2.1 HSIN.out.2.2 X);have HIB:Hid ((Tryz.prog.info? 50).map (·.size)=some (bV C).length):=hid (by rw [bV_len,HBL.out];exact infoBlk);clear HBE;go_wp2_with fail
    have HSS:Hid (∀ X,Mods (q8 :: ob (.slice ad L cd)) W7 X→(X.cell? ⟨gs,k * 3,none⟩=some (.int .i64 (s.blk:Int))∧X.cell? ⟨gs,k * 3+1,none⟩=some (.int .i64 (s.lo:Int))∧X.cell? ⟨gs,k * 3+2,none⟩=some (.int .i64 (s.hi:Int))∧X.rangeAt b15 0 (bV C))∧Mods (q8 :: ob (.slice ad L cd)) W7 X):=hid (fun X hb=>⟨⟨(World.cell?_of_block (hb.block _ (HG7.out.1) (HGN.out.1))).trans (T0.out),(World.cell?_of_block (hb.block _ (HG7.out.1) (HGN.out.1))).trans (T1.out),(World.cell?_of_block (hb.block _ (HG7.out.1) (HGN.out.1))).trans (T2.out),(fun j u hj=>(World.cell?_of_block (a:=⟨b15,0+j,none⟩) (hb.block b15 HG7.out.2.1 HGN.out.2.1)).trans (HRA7.out j u hj))⟩,hb⟩)
    refine wp_region_held_drew (S:=fun X=>(X.cell? ⟨gs,k * 3,none⟩=some (.int .i64 (s.blk:Int))∧X.cell? ⟨gs,k * 3+1,none⟩=some (.int .i64 (s.lo:Int))∧X.cell? ⟨gs,k * 3+2,none⟩=some (.int .i64 (s.hi:Int))∧X.rangeAt b15 0 (bV C))∧Mods (q8 :: ob (.slice ad L cd)) W7 X) (by kernel_rfl) (HSS.out _ (Mods.of_below (Below.refl _ _).drew)) (fun hHeld => ?_);have hbe:Below W7.heap.size W7 W7.drew:=(Below.refl _ _).drew;obtain ⟨wd,hwd⟩:∃ y,W7.drew=y:=⟨_,rfl⟩
    rw [hwd] at hHeld hbe ⊢;have HBE:=hid hbe;have HS0:Hid (W7.heap.size≤wd.heap.size):=hid HBE.out.size;clear hwd hbe;refine tkP 0 rfl ?_;refine wpAnyH_take (i:=2) (v:=_) rfl (by kernel_rfl) (by kernel_rfl) (by kernel_rfl) (fun _ _ _ h=>h) (yieldsIf_load_mid (by rfl) 50 _ rfl (b15) (0) rfl (bV C) _ (fun w hSw=>hSw.1.2.2.2) (Tryz.underlying50) rfl (HIB.out)) (by assumption) ?_;simp only [gE1,gE2,gE3,Act.put,pE1,pE2,pE3];refine tkP 3 rfl ?_;refine tkP 4 rfl ?_;refine tkP 5 rfl ?_;refine tkP 6 rfl ?_;refine rd2 1 7 rfl rfl (fun K hK => ?_) fun K hK => ?_
    ·skip
     have hrd:=(show wd.cell? ⟨q8,2,none⟩=some (.slice ad L cd) from (HBE.out.cell (p:=⟨q8,2,none⟩) HQ7L.out).trans (cellOf HQ7.out 2 rfl))
     simp only [gE1,gE2,gE3];go_simp;clear hrd;refine hK.out _ _ ?_ (fun hHeld => ?_)
     ·exact (by first | exact HSS.out _ (Mods.of_below HBE.out) | exact HSS.out _ HMD.out)
     clear hK K;try simp only [Act.put,pE1,pE2,pE3]
     refine rd1 7 rfl fun K hK => ?_;simp only [gE1,gE2,gE3];go_simp;refine (CC.out _).mono ?_;rintro e w8 ⟨v8,rfl,ho8,hb8⟩;dsimp only;have HBE:=hid (bthen HBE.out hb8);clear hHeld;refine hK.out _ _ (HSS.out _ (Mods.of_below HBE.out)) fun hHeld => ?_;clear hK K;try simp only [Act.put,pE1,pE2,pE3]
     have HC7:=hid hb8;clear hb8;refine rd1 8 rfl fun K hK => ?_;simp only [gE1,gE2,gE3];rw [if_pos (by rfl)];refine wp_apps _ _ 33 rfl w5.heap.size 5 _ 1 1 Tryz.underlying33 infoByte rfl (by decide) (by decide) (.slice ad L cd) L _ (by rfl) (ownsRow_below HRW7.out HBE.out) _ ((s.hi - s.lo) * 64) _ (by rfl) (Rd.of_own ho8) (bV_one _) (by have h1:=HRL.out;have h2:=HSIN.out.2.2;omega) (Nat.le_trans HG7.out.2.2 HBE.out.size) ?_;intro v9 w9 ho9 hb9 hg9 hs9 hn9;refine hK.out _ _ ?_ (fun hHeld => ?_)
     ·exact HSS.out _ ((Mods.of_below HBE.out).trans (Chg.of_grown hg9 hs9).1 (fun i hi=>.inl (List.mem_cons_of_mem _ hi)))
     clear hK K;try simp only [Act.put,pE1,pE2,pE3]
     have HQ9:Hid (w9.heap[q8]? = some (.cells #[.int .i64 0,.int .i64 0,.slice ad L cd] 35 (0,0))):=hid (((Chg.of_grown hg9 hs9).1.block q8 (Nat.lt_of_lt_of_le HQ7L.out HBE.out.size) HGN.out.2.2).trans ((HBE.out.block q8 HQ7L.out).trans HQ7.out));have HM9:Hid (Mods (q8 :: ob (.slice ad L cd)) W7 w9):=hid ((Mods.of_below HBE.out).trans (Chg.of_grown hg9 hs9).1 (fun i hi=>.inl (List.mem_cons_of_mem _ hi)));obtain ⟨a9,c9,hv9⟩:=row_slice ho9;subst hv9;have HO9:=hid ho9;clear ho9 hb9 hg9 hs9 hn9;refine tkP 9 rfl ?_;refine rd1 10 rfl fun K hK => ?_
     have hc9:=cellOf HQ9.out 2 (v:=.slice ad L cd) rfl;have hf9:=frozenOf HQ9.out 2;simp only [gE1,gE2,gE3];go_simp;refine hK.out _ _ ?_ (fun hHeld => ?_)
     ·exact HSS.out _ (HM9.out.setCell (p:=⟨q8,2,none⟩) (List.mem_cons_self ..) _)
     clear hK K;try simp only [Act.put,pE1,pE2,pE3]
     refine wpAnyH_done (by kernel_rfl) ?_ _;have HEND:=hid hHeld.2;have HSE:=hid hHeld.1;clear hHeld;clear HSE HSS HEND;have HNX:Hid (RRd w5 (w9.setCell ⟨q8,2,none⟩ (.slice a9 (L+(s.hi - s.lo) * 64) c9)) q8 (readM a.1.m (SP.take (k+1)))):=hid (by
      have hl:(bs ++ cutB C s.lo s.hi).length=L+(s.hi - s.lo) * 64:=by
       have h1:=HO9.out.1;rw [List.length_append,bV_len,bV_len,Nat.mul_one,HL.out] at h1;rw [List.length_append,HL.out];exact h1
      rw [HSN.out];refine ⟨?_,_,setOf HQ9.out 2 _,?_⟩
      ·refine ((HM.out.thenBelow HB7.out).trans HM9.out (fun i hi => ?_)).setCell (p:=⟨q8,2,none⟩) (by simp) _
       rcases List.mem_cons.1 hi with rfl | hi
       ·exact .inl (by simp)
       ·exact .inr (HOD.out i hi).1
      ·rw [hl,bV_app]
       refine ownsRow_at HO9.out (fun j hj=>setOther ⟨q8,2,none⟩ _ (fun e => ?_));have e2:j=q8:=e;have h1:=ownsRow_ge HO9.out j hj;have h2:=HQL.out
       omega)
     go_wp2_with fail;go_roundw
     case rel=>exact ⟨k+1,by omega,by go_num,HNX.out⟩
     case measure=>simp [Go.Proofs.intOf];omega
    ·skip
     simp only [gE1,gE2,gE3];go_simp;refine (CC.out _).mono ?_;rintro e w8 ⟨v8,rfl,ho8,hb8⟩;dsimp only;have HBE:=hid (bthen HBE.out hb8);clear hHeld;refine hK.out _ _ (HSS.out _ (Mods.of_below HBE.out)) fun hHeld => ?_;clear hK K;try simp only [Act.put,pE1,pE2,pE3]
     have HC7:=hid hb8;clear hb8;refine rd1 1 rfl fun K hK => ?_;have hrd:=(show w8.cell? ⟨q8,2,none⟩=some (.slice ad L cd) from (HBE.out.cell (p:=⟨q8,2,none⟩) HQ7L.out).trans (cellOf HQ7.out 2 rfl))
     simp only [gE1,gE2,gE3];go_simp;clear hrd;refine hK.out _ _ ?_ (fun hHeld => ?_)
     ·exact (by first | exact HSS.out _ (Mods.of_below HBE.out) | exact HSS.out _ HMD.out)
     clear hK K;try simp only [Act.put,pE1,pE2,pE3]
     refine rd1 8 rfl fun K hK => ?_;simp only [gE1,gE2,gE3];rw [if_pos (by rfl)];refine wp_apps _ _ 33 rfl w5.heap.size 5 _ 1 1 Tryz.underlying33 infoByte rfl (by decide) (by decide) (.slice ad L cd) L _ (by rfl) (ownsRow_below HRW7.out HBE.out) _ ((s.hi - s.lo) * 64) _ (by rfl) (Rd.of_own ho8) (bV_one _) (by have h1:=HRL.out;have h2:=HSIN.out.2.2;omega) (Nat.le_trans HG7.out.2.2 HBE.out.size) ?_;intro v9 w9 ho9 hb9 hg9 hs9 hn9;refine hK.out _ _ ?_ (fun hHeld => ?_)
     ·exact HSS.out _ ((Mods.of_below HBE.out).trans (Chg.of_grown hg9 hs9).1 (fun i hi=>.inl (List.mem_cons_of_mem _ hi)))
     clear hK K;try simp only [Act.put,pE1,pE2,pE3]
     have HQ9:Hid (w9.heap[q8]? = some (.cells #[.int .i64 0,.int .i64 0,.slice ad L cd] 35 (0,0))):=hid (((Chg.of_grown hg9 hs9).1.block q8 (Nat.lt_of_lt_of_le HQ7L.out HBE.out.size) HGN.out.2.2).trans ((HBE.out.block q8 HQ7L.out).trans HQ7.out));have HM9:Hid (Mods (q8 :: ob (.slice ad L cd)) W7 w9):=hid ((Mods.of_below HBE.out).trans (Chg.of_grown hg9 hs9).1 (fun i hi=>.inl (List.mem_cons_of_mem _ hi)));obtain ⟨a9,c9,hv9⟩:=row_slice ho9;subst hv9;have HO9:=hid ho9;clear ho9 hb9 hg9 hs9 hn9;refine tkP 9 rfl ?_;refine rd1 10 rfl fun K hK => ?_
     have hc9:=cellOf HQ9.out 2 (v:=.slice ad L cd) rfl;have hf9:=frozenOf HQ9.out 2;simp only [gE1,gE2,gE3];go_simp;refine hK.out _ _ ?_ (fun hHeld => ?_)
     ·exact HSS.out _ (HM9.out.setCell (p:=⟨q8,2,none⟩) (List.mem_cons_self ..) _)
     clear hK K;try simp only [Act.put,pE1,pE2,pE3]
     refine wpAnyH_done (by kernel_rfl) ?_ _;have HEND:=hid hHeld.2;have HSE:=hid hHeld.1;clear hHeld;clear HSE HSS HEND;have HNX:Hid (RRd w5 (w9.setCell ⟨q8,2,none⟩ (.slice a9 (L+(s.hi - s.lo) * 64) c9)) q8 (readM a.1.m (SP.take (k+1)))):=hid (by
      have hl:(bs ++ cutB C s.lo s.hi).length=L+(s.hi - s.lo) * 64:=by
       have h1:=HO9.out.1;rw [List.length_append,bV_len,bV_len,Nat.mul_one,HL.out] at h1;rw [List.length_append,HL.out];exact h1
      rw [HSN.out];refine ⟨?_,_,setOf HQ9.out 2 _,?_⟩
      ·refine ((HM.out.thenBelow HB7.out).trans HM9.out (fun i hi => ?_)).setCell (p:=⟨q8,2,none⟩) (by simp) _
       rcases List.mem_cons.1 hi with rfl | hi
       ·exact .inl (by simp)
       ·exact .inr (HOD.out i hi).1
      ·rw [hl,bV_app]
       refine ownsRow_at HO9.out (fun j hj=>setOther ⟨q8,2,none⟩ _ (fun e => ?_));have e2:j=q8:=e;have h1:=ownsRow_ge HO9.out j hj;have h2:=HQL.out
       omega)
     go_wp2_with fail;go_roundw
     case rel=>exact ⟨k+1,by omega,by go_num,HNX.out⟩
     case measure=>simp [Go.Proofs.intOf];omega
   ·skip
    simp only [gE1,gE2,gE3];go_simp;obtain ⟨b15,y15,hw15,hy15,hx15,HN15⟩:=al wd (.cells Tryz.zeroCells50 50);rw [hy15,hw15];have HG15:Hid (wr.heap.size≤b15):=hid (by have:=HBE.out.size;omega);clear hy15 hw15;have HBE:=hid (bthen HBE.out hx15);clear hHeld;refine hK.out _ _ (HSS.out _ HBE.out) fun hHeld => ?_;clear hK K;try simp only [Act.put,pE1,pE2,pE3]
    clear hx15;refine rd1 11 rfl fun K hK => ?_;simp only [gE1,gE2,gE3];go_simp;refine (CG.out _ HBE.out).mono ?_;rintro e w3 ⟨rfl,hb3⟩;dsimp only;have HBE:=hid (bthen HBE.out hb3);clear hHeld;refine hK.out _ _ (HSS.out _ HBE.out) fun hHeld => ?_;clear hK K;try simp only [Act.put,pE1,pE2,pE3]
    have HN15:=hid (nX hb3 HN15.out);have HC11:=hid hb3;clear hb3;refine tkP 12 rfl ?_;refine tkP 13 rfl ?_;refine tkP 14 rfl ?_;refine rd1 16 rfl fun K hK => ?_;have hsz6:=HSA.out.1;obtain ⟨w6,hst6,hg6,hm6⟩:=store_at (P:=Tryz.prog) w3 b15 50 _ XA HN15.out (by rw [zszM,HSA.out.1]) HSA.out.2;have HBE:Hid (Below wr.heap.size wr w6):=hid (HBE.out.trans (hm6.below (fun k hk=>by have:=HG15.out;have e:=List.mem_singleton.1 hk;omega) HBE.out.size));simp only [gE1,gE2,gE3];go_simp;refine hK.out _ _ ?_ (fun hHeld => ?_)
    ·exact HSS.out _ HBE.out
    clear hK K;try simp only [Act.put,pE1,pE2,pE3]
    have HN15:=hid hg6;clear hg6 hm6 hst6 hsz6;refine tkP 17 rfl ?_;refine wpAnyH_done (by kernel_rfl) ?_ _;have HEND:=hid hHeld.2;have HSE:=hid hHeld.1;clear hHeld;clear HSE HSS HEND;obtain ⟨W7,hW7⟩:∃ W7,W7=w6:=⟨_,rfl⟩
    subst hW7;have HB7:=hid HBE.out;have HQ7:=hid ((HB7.out.block q8 (hLT HQ.out)).trans HQ.out);have HQ7L:=hid (hLT HQ7.out);have HRA7:Hid (W7.rangeAt b15 0 (bV C)):=hid (fun j u hj=>by
     rw [Nat.zero_add];exact cellOf' HN15.out j (by rw [← HXA.out];simpa using hj))
    have HRW7:=hid (ownsRow_below HRW.out HB7.out);have HGN:Hid (gs∉(q8 :: ob (.slice ad L cd))∧b15∉(q8 :: ob (.slice ad L cd))∧q8∉ob (.slice ad L cd)):=hid (by
     have h1:=HQL.out;have h2:=HGS.out;have h3:=HG15.out;have h4:=(hLT HQ.out)
     refine ⟨fun h => ?_,fun h => ?_,fun h => ?_⟩
     ·rcases List.mem_cons.1 h with e | h
      ·omega
      ·have:=HOD.out _ h;omega
     ·rcases List.mem_cons.1 h with e | h
      ·omega
      ·have:=HOD.out _ h;omega
     ·have:=HOD.out _ h;omega)
    have HG7:Hid (gs<W7.heap.size∧b15<W7.heap.size∧w5.heap.size≤W7.heap.size):=hid ⟨Nat.lt_of_lt_of_le HGW.out.1 HB7.out.size,(hLT HN15.out),Nat.le_trans HGW.out.2 HB7.out.size⟩;have T0:=hid ((HB7.out.cell (p:=⟨gs,k * 3,none⟩) HGW.out.1).trans HS0'.out);have T1:=hid ((HB7.out.cell (p:=⟨gs,k * 3+1,none⟩) HGW.out.1).trans HS1'.out);have T2:=hid ((HB7.out.cell (p:=⟨gs,k * 3+2,none⟩) HGW.out.1).trans HS2'.out)
    have CC:Hid (∀ X,Calls Tryz.prog 54 #[.agg (bV C).toArray,.agg #[.int .i64 (s.blk:Int),.int .i64 (s.lo:Int),.int .i64 (s.hi:Int)]] X fun e w'=>∃ v',e = .returned v'∧w'.ownsRow X.heap.size 5 1 v' ((s.hi - s.lo) * 64) (bV (cutB C s.lo s.hi))∧Below X.heap.size X w'):=hid (fun X=>rcut_any C HBL.out _ s.lo s.hi HSIN.out.2.1 HSIN.out.2.2 X);have HIB:Hid ((Tryz.prog.info? 50).map (·.size)=some (bV C).length):=hid (by rw [bV_len,HBL.out];exact infoBlk);clear HBE;go_wp2_with fail
    have HSS:Hid (∀ X,Mods (q8 :: ob (.slice ad L cd)) W7 X→(X.cell? ⟨gs,k * 3,none⟩=some (.int .i64 (s.blk:Int))∧X.cell? ⟨gs,k * 3+1,none⟩=some (.int .i64 (s.lo:Int))∧X.cell? ⟨gs,k * 3+2,none⟩=some (.int .i64 (s.hi:Int))∧X.rangeAt b15 0 (bV C))∧Mods (q8 :: ob (.slice ad L cd)) W7 X):=hid (fun X hb=>⟨⟨(World.cell?_of_block (hb.block _ (HG7.out.1) (HGN.out.1))).trans (T0.out),(World.cell?_of_block (hb.block _ (HG7.out.1) (HGN.out.1))).trans (T1.out),(World.cell?_of_block (hb.block _ (HG7.out.1) (HGN.out.1))).trans (T2.out),(fun j u hj=>(World.cell?_of_block (a:=⟨b15,0+j,none⟩) (hb.block b15 HG7.out.2.1 HGN.out.2.1)).trans (HRA7.out j u hj))⟩,hb⟩)
    refine wp_region_held_drew (S:=fun X=>(X.cell? ⟨gs,k * 3,none⟩=some (.int .i64 (s.blk:Int))∧X.cell? ⟨gs,k * 3+1,none⟩=some (.int .i64 (s.lo:Int))∧X.cell? ⟨gs,k * 3+2,none⟩=some (.int .i64 (s.hi:Int))∧X.rangeAt b15 0 (bV C))∧Mods (q8 :: ob (.slice ad L cd)) W7 X) (by kernel_rfl) (HSS.out _ (Mods.of_below (Below.refl _ _).drew)) (fun hHeld => ?_);have hbe:Below W7.heap.size W7 W7.drew:=(Below.refl _ _).drew;obtain ⟨wd,hwd⟩:∃ y,W7.drew=y:=⟨_,rfl⟩
    rw [hwd] at hHeld hbe ⊢;have HBE:=hid hbe;have HS0:Hid (W7.heap.size≤wd.heap.size):=hid HBE.out.size;clear hwd hbe;refine tkP 0 rfl ?_;refine wpAnyH_take (i:=2) (v:=_) rfl (by kernel_rfl) (by kernel_rfl) (by kernel_rfl) (fun _ _ _ h=>h) (yieldsIf_load_mid (by rfl) 50 _ rfl (b15) (0) rfl (bV C) _ (fun w hSw=>hSw.1.2.2.2) (Tryz.underlying50) rfl (HIB.out)) (by assumption) ?_;simp only [gE1,gE2,gE3,Act.put,pE1,pE2,pE3];refine tkP 3 rfl ?_;refine tkP 4 rfl ?_;refine tkP 5 rfl ?_;refine tkP 6 rfl ?_;refine rd2 1 7 rfl rfl (fun K hK => ?_) fun K hK => ?_
    ·skip
     have hrd:=(show wd.cell? ⟨q8,2,none⟩=some (.slice ad L cd) from (HBE.out.cell (p:=⟨q8,2,none⟩) HQ7L.out).trans (cellOf HQ7.out 2 rfl))
     simp only [gE1,gE2,gE3];go_simp;clear hrd;refine hK.out _ _ ?_ (fun hHeld => ?_)
     ·exact (by first | exact HSS.out _ (Mods.of_below HBE.out) | exact HSS.out _ HMD.out)
     clear hK K;try simp only [Act.put,pE1,pE2,pE3]
     refine rd1 7 rfl fun K hK => ?_;simp only [gE1,gE2,gE3];go_simp;refine (CC.out _).mono ?_;rintro e w8 ⟨v8,rfl,ho8,hb8⟩;dsimp only;have HBE:=hid (bthen HBE.out hb8);clear hHeld;refine hK.out _ _ (HSS.out _ (Mods.of_below HBE.out)) fun hHeld => ?_;clear hK K;try simp only [Act.put,pE1,pE2,pE3]
     have HC7:=hid hb8;clear hb8;refine rd1 8 rfl fun K hK => ?_;simp only [gE1,gE2,gE3];rw [if_pos (by rfl)];refine wp_apps _ _ 33 rfl w5.heap.size 5 _ 1 1 Tryz.underlying33 infoByte rfl (by decide) (by decide) (.slice ad L cd) L _ (by rfl) (ownsRow_below HRW7.out HBE.out) _ ((s.hi - s.lo) * 64) _ (by rfl) (Rd.of_own ho8) (bV_one _) (by have h1:=HRL.out;have h2:=HSIN.out.2.2;omega) (Nat.le_trans HG7.out.2.2 HBE.out.size) ?_;intro v9 w9 ho9 hb9 hg9 hs9 hn9;refine hK.out _ _ ?_ (fun hHeld => ?_)
     ·exact HSS.out _ ((Mods.of_below HBE.out).trans (Chg.of_grown hg9 hs9).1 (fun i hi=>.inl (List.mem_cons_of_mem _ hi)))
     clear hK K;try simp only [Act.put,pE1,pE2,pE3]
     have HQ9:Hid (w9.heap[q8]? = some (.cells #[.int .i64 0,.int .i64 0,.slice ad L cd] 35 (0,0))):=hid (((Chg.of_grown hg9 hs9).1.block q8 (Nat.lt_of_lt_of_le HQ7L.out HBE.out.size) HGN.out.2.2).trans ((HBE.out.block q8 HQ7L.out).trans HQ7.out));have HM9:Hid (Mods (q8 :: ob (.slice ad L cd)) W7 w9):=hid ((Mods.of_below HBE.out).trans (Chg.of_grown hg9 hs9).1 (fun i hi=>.inl (List.mem_cons_of_mem _ hi)));obtain ⟨a9,c9,hv9⟩:=row_slice ho9;subst hv9;have HO9:=hid ho9;clear ho9 hb9 hg9 hs9 hn9;refine tkP 9 rfl ?_;refine rd1 10 rfl fun K hK => ?_
     have hc9:=cellOf HQ9.out 2 (v:=.slice ad L cd) rfl;have hf9:=frozenOf HQ9.out 2;simp only [gE1,gE2,gE3];go_simp;refine hK.out _ _ ?_ (fun hHeld => ?_)
     ·exact HSS.out _ (HM9.out.setCell (p:=⟨q8,2,none⟩) (List.mem_cons_self ..) _)
     clear hK K;try simp only [Act.put,pE1,pE2,pE3]
     refine wpAnyH_done (by kernel_rfl) ?_ _;have HEND:=hid hHeld.2;have HSE:=hid hHeld.1;clear hHeld;clear HSE HSS HEND;have HNX:Hid (RRd w5 (w9.setCell ⟨q8,2,none⟩ (.slice a9 (L+(s.hi - s.lo) * 64) c9)) q8 (readM a.1.m (SP.take (k+1)))):=hid (by
      have hl:(bs ++ cutB C s.lo s.hi).length=L+(s.hi - s.lo) * 64:=by
       have h1:=HO9.out.1;rw [List.length_append,bV_len,bV_len,Nat.mul_one,HL.out] at h1;rw [List.length_append,HL.out];exact h1
      rw [HSN.out];refine ⟨?_,_,setOf HQ9.out 2 _,?_⟩
      ·refine ((HM.out.thenBelow HB7.out).trans HM9.out (fun i hi => ?_)).setCell (p:=⟨q8,2,none⟩) (by simp) _
       rcases List.mem_cons.1 hi with rfl | hi
       ·exact .inl (by simp)
       ·exact .inr (HOD.out i hi).1
      ·rw [hl,bV_app]
       refine ownsRow_at HO9.out (fun j hj=>setOther ⟨q8,2,none⟩ _ (fun e => ?_));have e2:j=q8:=e;have h1:=ownsRow_ge HO9.out j hj;have h2:=HQL.out
       omega)
     go_wp2_with fail;go_roundw
     case rel=>exact ⟨k+1,by omega,by go_num,HNX.out⟩
     case measure=>simp [Go.Proofs.intOf];omega
    ·skip
     simp only [gE1,gE2,gE3];go_simp;refine (CC.out _).mono ?_;rintro e w8 ⟨v8,rfl,ho8,hb8⟩;dsimp only;have HBE:=hid (bthen HBE.out hb8);clear hHeld;refine hK.out _ _ (HSS.out _ (Mods.of_below HBE.out)) fun hHeld => ?_;clear hK K;try simp only [Act.put,pE1,pE2,pE3]
     have HC7:=hid hb8;clear hb8;refine rd1 1 rfl fun K hK => ?_;have hrd:=(show w8.cell? ⟨q8,2,none⟩=some (.slice ad L cd) from (HBE.out.cell (p:=⟨q8,2,none⟩) HQ7L.out).trans (cellOf HQ7.out 2 rfl))
     simp only [gE1,gE2,gE3];go_simp;clear hrd;refine hK.out _ _ ?_ (fun hHeld => ?_)
     ·exact (by first | exact HSS.out _ (Mods.of_below HBE.out) | exact HSS.out _ HMD.out)
     clear hK K;try simp only [Act.put,pE1,pE2,pE3]
     refine rd1 8 rfl fun K hK => ?_;simp only [gE1,gE2,gE3];rw [if_pos (by rfl)];refine wp_apps _ _ 33 rfl w5.heap.size 5 _ 1 1 Tryz.underlying33 infoByte rfl (by decide) (by decide) (.slice ad L cd) L _ (by rfl) (ownsRow_below HRW7.out HBE.out) _ ((s.hi - s.lo) * 64) _ (by rfl) (Rd.of_own ho8) (bV_one _) (by have h1:=HRL.out;have h2:=HSIN.out.2.2;omega) (Nat.le_trans HG7.out.2.2 HBE.out.size) ?_;intro v9 w9 ho9 hb9 hg9 hs9 hn9;refine hK.out _ _ ?_ (fun hHeld => ?_)
     ·exact HSS.out _ ((Mods.of_below HBE.out).trans (Chg.of_grown hg9 hs9).1 (fun i hi=>.inl (List.mem_cons_of_mem _ hi)))
     clear hK K;try simp only [Act.put,pE1,pE2,pE3]
     have HQ9:Hid (w9.heap[q8]? = some (.cells #[.int .i64 0,.int .i64 0,.slice ad L cd] 35 (0,0))):=hid (((Chg.of_grown hg9 hs9).1.block q8 (Nat.lt_of_lt_of_le HQ7L.out HBE.out.size) HGN.out.2.2).trans ((HBE.out.block q8 HQ7L.out).trans HQ7.out));have HM9:Hid (Mods (q8 :: ob (.slice ad L cd)) W7 w9):=hid ((Mods.of_below HBE.out).trans (Chg.of_grown hg9 hs9).1 (fun i hi=>.inl (List.mem_cons_of_mem _ hi)));obtain ⟨a9,c9,hv9⟩:=row_slice ho9;subst hv9;have HO9:=hid ho9;clear ho9 hb9 hg9 hs9 hn9;refine tkP 9 rfl ?_;refine rd1 10 rfl fun K hK => ?_
     have hc9:=cellOf HQ9.out 2 (v:=.slice ad L cd) rfl;have hf9:=frozenOf HQ9.out 2;simp only [gE1,gE2,gE3];go_simp;refine hK.out _ _ ?_ (fun hHeld => ?_)
     ·exact HSS.out _ (HM9.out.setCell (p:=⟨q8,2,none⟩) (List.mem_cons_self ..) _)
     clear hK K;try simp only [Act.put,pE1,pE2,pE3]
     refine wpAnyH_done (by kernel_rfl) ?_ _;have HEND:=hid hHeld.2;have HSE:=hid hHeld.1;clear hHeld;clear HSE HSS HEND;have HNX:Hid (RRd w5 (w9.setCell ⟨q8,2,none⟩ (.slice a9 (L+(s.hi - s.lo) * 64) c9)) q8 (readM a.1.m (SP.take (k+1)))):=hid (by
      have hl:(bs ++ cutB C s.lo s.hi).length=L+(s.hi - s.lo) * 64:=by
       have h1:=HO9.out.1;rw [List.length_append,bV_len,bV_len,Nat.mul_one,HL.out] at h1;rw [List.length_append,HL.out];exact h1
      rw [HSN.out];refine ⟨?_,_,setOf HQ9.out 2 _,?_⟩
      ·refine ((HM.out.thenBelow HB7.out).trans HM9.out (fun i hi => ?_)).setCell (p:=⟨q8,2,none⟩) (by simp) _
       rcases List.mem_cons.1 hi with rfl | hi
       ·exact .inl (by simp)
       ·exact .inr (HOD.out i hi).1
      ·rw [hl,bV_app]
       refine ownsRow_at HO9.out (fun j hj=>setOther ⟨q8,2,none⟩ _ (fun e => ?_));have e2:j=q8:=e;have h1:=ownsRow_ge HO9.out j hj;have h2:=HQL.out
       omega)
     go_wp2_with fail;go_roundw
     case rel=>exact ⟨k+1,by omega,by go_num,HNX.out⟩
     case measure=>simp [Go.Proofs.intOf];omega
  ·obtain rfl:k=nm:=by omega
   rw [List.take_of_length_le (by rw [HNM.out];exact Nat.le_refl _)] at hrow;have hq6:=hq;have HST:Hid (stepD (mapA (·.1) l) o b=(⟨0,0,readM a.1.m SP⟩,mapA (·.1) l)):=hid (by
    unfold stepD;rw [if_neg (by rw [HREF.out];simp),if_neg (by rw [HKK.out];decide),if_neg (by rw [HKK.out];decide),HGV.out];dsimp only;rw [if_neg (by rw [HKK.out];decide),if_neg (by rw [HKK.out];decide),if_neg (by rw [HKK.out];decide),if_neg (by rw [HKK.out];decide),if_pos HKK.out,HSPE.out,HSP.out])
   have hne:w.heap.size+1∉[q8]:=by have:=HQ8.out;simp;omega
   have HA6:=hid ((hm.block (w.heap.size+1) (hLT HA5.out) hne).trans HA5.out);have HC6:Hid (Chg (B :: ob (.slice (some ⟨g,0,none⟩) n cap2)) w wr (B :: ob (.slice (some ⟨g,0,none⟩) n cap2))):=hid ⟨(Mods.of_below HB5.out).trans hm (fun i hi=>.inr (by have:=HQ8.out;have:=List.mem_singleton.1 hi;omega)),fun k hk=>.inl hk⟩;have HRW:=hid hrow;have HWS:Hid (w.heap.size≤w5.heap.size):=hid HB5.out.size;have e0:=cellOf hq6 0 (v:=.int .i64 0) rfl;have e1:=cellOf hq6 1 (v:=.int .i64 0) rfl;obtain ⟨L,hL⟩:∃ L,L=(readM a.1.m (SP.take k)).length:=⟨_,rfl⟩
   rw [← hL] at hq6;have e2:=cellOf hq6 2 (v:=.slice ad L cd) rfl;have hf0:=frozenOf HA6.out 0;have hf1:=frozenOf HA6.out 1;have hf2:=frozenOf HA6.out 2;have d0:=cellOf HA6.out 0 (v:=.int .i64 0) rfl;have d1:=cellOf HA6.out 1 (v:=.int .i64 0) rfl;have d2:=cellOf HA6.out 2 (v:=.slice none 0 0) rfl;have HL2:Hid ((readM a.1.m SP).length=L):=hid (by rw [hL,List.take_of_length_le (by rw [HNM.out];exact Nat.le_refl _)]);have HAL:Hid (w.heap.size+1<w5.heap.size):=hid (hLT HA5.out);clear hm hq hrow hq6 hne hL;go_wp2_with fail
   obtain ⟨hx4,hm4⟩:=set3 (x:=.int .i64 0) (y:=.int .i64 0) (z:=.slice ad L cd) HA6.out;refine bodyPost_ret (v:=ansV ⟨0,0,readM a.1.m SP⟩ (.slice ad L cd)) (resAns rfl _ _ _ _ _ _ rfl hx4) rfl ?_;rw [HST.out];refine RPartP.end_ HDW.out HC6.out HA6.out hm4 rfl ?_;have h1:=HRW.out;rw [HL2.out] at h1
   show World.ownsRow _ _ _ _ (.slice ad L cd) (readM a.1.m SP).length _
   rw [HL2.out];refine ownsRow_at (ownsRow_base h1 HWS.out) (fun j hj=>hm4.block j (ownsRow_lt h1 j hj) (fun e => ?_));have h2:=ownsRow_ge h1 j hj;have h3:=HAL.out;have h4:=List.mem_singleton.1 e;omega
end Go.Proofs.YthkmihedkddnmaaGreat
