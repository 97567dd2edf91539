import Derived.Test.YthkmihedkddnmaaGreatUG2
import Derived.Test.YthkmihedkddnmaaGreatUG15
set_option linter.unusedVariables false
set_option linter.unusedSimpArgs false
set_option maxHeartbeats 6400000
set_option maxRecDepth 100000
namespace Go.Proofs.YthkmihedkddnmaaGreat
open Lib (hid)
open Go.RowKit Go.Maps Wire Cmd
theorem delA_insA {α:Type} {n:Nat} {a:α}:∀ {l:List (Nat × α)},delA n (insA (n,a) l)=delA n l
 | []=>by simp [insA,delA]
 | y :: r=>by
  have ih:=delA_insA (n:=n) (a:=a) (l:=r);unfold insA
  split
  ·unfold delA
   rw [List.filter_cons]
   simp
  ·unfold delA at ih ⊢
   rw [List.filter_cons,List.filter_cons,ih]
theorem delA_delA {α:Type} (n:Nat) (l:List (Nat × α)):delA n (delA n l)=delA n l:=by
 unfold delA;rw [List.filter_filter]
 simp
theorem putA_putA {α:Type} (n:Nat) (a b:α) (l:List (Nat × α)):putA n a (putA n b l)=putA n a l:=by
 unfold putA;rw [delA_insA,delA_delA]
theorem drop_size {v:Vl} (h:v.Ok) (sz:Int):dropA sz 1073741824 v.m=v.m.filter fun q=>decide ((q.1:Int)<sz):=by
 unfold dropA;refine List.filter_congr fun q hq => ?_;have h1:=h.lt q hq;have h2:=h.size;rw [Bool.eq_iff_iff];simp only [Bool.or_eq_true,decide_eq_true_eq];omega
theorem dresize_at (n0:Nat) (w:World) (B Ba:Nat) (l:List (Nat × (Vl × Nat))) (h:DevAt n0 w B Ba l) (o:Op0) (ao:Option Addr) (cap:Nat) (b:Int) (hn:o.data.length≤9223372036854775807) (hmay:mayO o=true) (hk:o.k=3) (x:Vl × Nat) (hg:getA o.vol l=some x) :
  Calls Tryz.prog 43 #[.pointer (some ⟨B,0,none⟩),.agg (oC o (.slice ao o.data.length cap)),.int .i64 b] w fun e w'=>e = .returned (ansE 0 0)∧DevAt n0 w' B Ba (putA o.vol (⟨o.size.toNat,dropA o.size 1073741824 x.1.m⟩,x.2) l)∧Mods [Ba,x.2] w w':=by
 have HH:=hid h;have HG:=hid hg;have HVOL:=hid (may_vol hmay (by omega));have hsize:=may_size hmay (.inr hk);have HS:Hid (((o.size.toNat:Nat):Int)=o.size∧o.size.toNat≤256):=hid ⟨by omega,by omega⟩;have HVOK:=hid (h.ok.vol (o.vol,x.1) (by unfold strip mapA;exact List.mem_map.2 ⟨_,getA_some hg,rfl⟩));have HXB:Hid (x.2<w.heap.size):=hid ((h.vol _ (getA_some hg)).lt);have HPV:Hid (partV o = .iface 3 (.int .i64 o.size)):=hid (by unfold partV;rw [if_pos (.inr hk)]);obtain ⟨sl,hsl⟩:∃ s,Value.slice ao o.data.length cap=s:=⟨_,rfl⟩
 have CP:Hid (∀ X,Calls Tryz.prog 71 #[.agg (oC o sl)] X fun e w'=>e = .returned (.iface 3 (.int .i64 o.size))∧Below X.heap.size X w'):=hid (fun X=>by rw [← hsl,← HPV.out];exact part13_any o ao cap X hn);rw [hsl];clear hsl hsize h hk hmay hn hg;obtain ⟨w2,hw2⟩:∃ W,(w.alloc (.cells #[.int .i64 o.k,.int .u64 (o.vol:Int),.int .u64 (o.to:Int),.int .i64 o.size,.int .i64 o.pl,.int .i64 o.count,sl] 40)).alloc (.cells #[.int .i64 0,.int .i64 0,.slice none 0 0] 35)=W:=⟨_,rfl⟩
 have HBX:Hid (Boxes w w2 (oC o sl)):=hid (by rw [← hw2];exact boxes w (oC o sl));have HD2:=hid (HH.out.below HBX.out.bel);have HX2:=hid HBX.out.op;have HLT:=hid (hLT HX2.out);have HLK:Hid (∀ X,Below w2.heap.size w2 X→(Instr.lookup 61 (.map (some Ba)) (.int .u64 (o.vol:Int)) false).run Tryz.prog X = .ok (.agg #[.int .i64 (x.1.size:Int),.map (some x.2)]) X):=hid (fun X hX=>((HD2.out.below hX).look (Nat.lt_trans HVOL.out.2 (by decide)) HG.out).2)
 rw [show (oC o sl)=#[.int .i64 o.k,.int .u64 (o.vol:Int),.int .u64 (o.to:Int),.int .i64 o.size,.int .i64 o.pl,.int .i64 o.count,sl] from rfl];have t1:=is_int
 go_enter Tryz.func43,Tryz.ntmps43
 go_upto_region 1 with fail
 (try rw [hw2])
 clear hw2;have HSS:Hid (∀ X,Below w2.heap.size w2 X→(X.cell? ⟨B,0,none⟩=some (.map (some Ba))∧X.cell? ⟨w.heap.size,1,none⟩=some (.int .u64 (o.vol:Int)))∧Below w2.heap.size w2 X):=hid (fun X hb=>⟨⟨(World.cell?_of_block (hb.block _ (HD2.out.lt))).trans (HD2.out.cell),(World.cell?_of_block (hb.block _ (HLT.out))).trans (cellOf HX2.out 1 rfl)⟩,hb⟩)
 refine wp_region_held_drew (S:=fun X=>(X.cell? ⟨B,0,none⟩=some (.map (some Ba))∧X.cell? ⟨w.heap.size,1,none⟩=some (.int .u64 (o.vol:Int)))∧Below w2.heap.size w2 X) (by kernel_rfl) (HSS.out _ (Below.refl _ _).drew) (fun hHeld => ?_);have hbe:Below w2.heap.size w2 w2.drew:=(Below.refl _ _).drew;obtain ⟨wd,hwd⟩:∃ y,w2.drew=y:=⟨_,rfl⟩
 rw [hwd] at hHeld hbe ⊢;have HBE:=hid hbe;have HS0:Hid (w2.heap.size≤wd.heap.size):=hid HBE.out.size;clear hwd hbe;refine tkA 0 rfl ?_;refine tkA 4 rfl ?_;refine tkA 1 rfl ?_;refine tkA 5 rfl ?_;refine tkA 2 rfl ?_;refine tkA 3 rfl ?_;refine tkB 6 (.agg #[.int .i64 (x.1.size:Int),.map (some x.2)]) rfl ?_ ?_
 ·(intro w hSw;simp only [gE1,gE2,gE3];(have h6:=HLK.out w hSw.2;go_simp;first | done | with_reducible rfl))
 refine rd1 7 rfl fun K hK => ?_;simp only [gE1,gE2,gE3];go_simp;obtain ⟨b7,y7,hw7,hy7,hx7,HN7⟩:=al wd (.cells #[.int .i64 0,.map none] 84);rw [hy7,hw7];have HG7:Hid (w2.heap.size≤b7):=hid (by have:=HBE.out.size;omega);clear hy7 hw7;have HBE:=hid (bthen HBE.out hx7);clear hHeld;refine hK.out _ _ (HSS.out _ HBE.out) fun hHeld => ?_;clear hK K;try simp only [Act.put,pE1,pE2,pE3]
 clear hx7;refine rd1 8 rfl fun K hK => ?_;obtain ⟨hc8_0,hf8_0,hc8_1,hf8_1⟩:=bx2 HN7.out;simp only [gE1,gE2,gE3];go_simp;obtain ⟨y8,hy8,hm8,hv8⟩:=st2 HN7.out (.int .i64 (x.1.size:Int)) (.map (some x.2));rw [hy8];clear hy8 hc8_0 hf8_0 hc8_1 hf8_1;have HBE:=hid (bM HBE.out hm8 HG7.out);clear hHeld;refine hK.out _ _ (HSS.out _ HBE.out) fun hHeld => ?_;clear hK K;try simp only [Act.put,pE1,pE2,pE3]
 have HN7:=hid hv8;clear hv8 hm8;refine wpAnyH_done (by kernel_rfl) ?_ _;have HEND:=hid hHeld.2;have HSE:=hid hHeld.1;clear hHeld;have HBL:=hid HEND.out;clear HEND HSE HSS HBE HLK;have HXL:=hid ((HBL.out.block _ HLT.out).trans HX2.out);have HAL:=hid ((HBL.out.block _ (hLT HBX.out.ans)).trans HBX.out.ans);obtain ⟨c0,c1,c2,c3,c4,c5,c6⟩:=op7 HXL.out;go_wp2_with fail;refine (CP.out _).mono ?_;rintro e w3 ⟨rfl,hb3⟩;dsimp only;have HB3:=hid (bthen HBL.out hb3);have HN73:=hid ((hb3.block b7 (hLT HN7.out)).trans HN7.out)
 have HX3:=hid ((hb3.block _ (hLT HXL.out)).trans HXL.out);have HA3:=hid ((hb3.block _ (hLT HAL.out)).trans HAL.out);clear c0 c1 c2 c3 c4 c5 c6 hb3;obtain ⟨w4,hw4⟩:∃ y,w3.setCell ⟨b7,0,none⟩ (.int .i64 o.size)=y:=⟨_,rfl⟩
 have hm34:Mods [b7] w3 w4:=by rw [← hw4];exact (Mods.refl _ w3).setCell (p:=⟨b7,0,none⟩) (by simp) _
 have hn74:w4.heap[b7]? = some (.cells #[.int .i64 o.size,.map (some x.2)] 84 (0,0)):=by
  have h1:=setOf HN73.out 0 (.int .i64 o.size);rw [hw4] at h1;exact h1
 have HB24:Hid (Below w2.heap.size w2 w4):=hid (HB3.out.trans (hm34.below (fun k hk=>by have:=HG7.out;have e:=List.mem_singleton.1 hk;omega) HB3.out.size));have HN74:=hid hn74;have HNE7:Hid (∀ i,i<w2.heap.size→i∉[b7]):=hid (fun i hi hh=>by have:=HG7.out;have e:=List.mem_singleton.1 hh;omega);have HX4:=hid ((hm34.block _ (hLT HX3.out) (HNE7.out _ HLT.out)).trans HX3.out);have HA4:=hid ((hm34.block _ (hLT HA3.out) (HNE7.out _ (by have:=HBX.out.sz;omega))).trans HA3.out);have HD4:=hid (HD2.out.below HB24.out)
 have HML4:=hid (HD4.out.vol _ (getA_some HG.out));have CD:=delf_blk w4 x.2 x.1.m HML4.out b7 o.size (.map (some x.2)) HN74.out (by have:=HG7.out;have:=HXB.out;have:=HBX.out.sz;omega);have c70:=cellOf HN73.out 0 (v:=.int .i64 (x.1.size:Int)) rfl;have c71:=cellOf HN73.out 1 (v:=.map (some x.2)) rfl;have f70:=frozenOf HN73.out 0;have c714:=cellOf HN74.out 1 (v:=.map (some x.2)) rfl;clear hm34 hn74;go_wp2_with fail
 (try rw [hw4])
 clear hw4 c70 c71 f70 c714;refine CD.mono ?_;rintro e w5 ⟨rfl,hm5,hmo5⟩;dsimp only;have HMO5:=hid hmo5;have HNX:Hid (∀ i,w.heap.size≤i→i∉[x.2]):=hid (fun i hi hh=>by have:=HXB.out;have e:=List.mem_singleton.1 hh;omega);have HOK5:Hid (Vl.Ok ⟨x.1.size,x.1.m.filter fun q=>decide ((q.1:Int)<o.size)⟩):=hid (by
  rw [← drop_size HVOK.out];exact dropA_ok HVOK.out _ _)
 have HD5:=hid (HD4.out.volAt HG.out hm5 hmo5 HOK5.out);have HM5:=hid hm5;have HN75:=hid ((hmo5.block b7 (hLT HN74.out) (HNX.out _ (by have:=HG7.out;have:=HBX.out.sz;omega))).trans HN74.out);have HX5:=hid ((hmo5.block _ (hLT HX4.out) (HNX.out _ (Nat.le_refl _))).trans HX4.out);have HA5:=hid ((hmo5.block _ (hLT HA4.out) (HNX.out _ (Nat.le_succ _))).trans HA4.out);have HLA:=hid (hLT HA5.out);have HBW4:=hid (bthen HBX.out.bel HB24.out);have HNF:Hid (∀ i,w.heap.size≤i→i∉[Ba]):=hid (fun i hi hh=>by
  have h1:i=Ba:=by simpa using hh
  have:=HH.out.all.lt
  omega)
 have HOK6:Hid (Vl.Ok ⟨o.size.toNat,x.1.m.filter fun q=>decide ((q.1:Int)<o.size)⟩):=hid ⟨HS.out.2,HOK5.out.ris,fun q hq=>by
  have h1:decide ((q.1:Int)<o.size)=true:=(List.mem_filter.1 hq).2;have h2:=of_decide_eq_true h1;have h3:=HS.out.1
  show q.1<o.size.toNat
  omega,HOK5.out.blk⟩
 clear hm5 hmo5 CD;go_wp2_with fail
 have HSS:Hid (∀ X,Mods [Ba] w5 X→(X.cell? ⟨B,0,none⟩=some (.map (some Ba))∧X.cell? ⟨w.heap.size,1,none⟩=some (.int .u64 (o.vol:Int))∧X.cell? ⟨b7,0,none⟩=some (.int .i64 o.size)∧X.cell? ⟨b7,1,none⟩=some (.map (some x.2)))∧Mods [Ba] w5 X):=hid (fun X hb=>⟨⟨(World.cell?_of_block (hb.block _ (HD5.out.lt) (by simpa using HD5.out.B_ne))).trans (HD5.out.cell),(World.cell?_of_block (hb.block _ ((hLT HX5.out)) (HNF.out _ (Nat.le_refl _)))).trans (cellOf HX5.out 1 rfl),(World.cell?_of_block (hb.block _ ((hLT HN75.out)) (HNF.out _ (by have:=HG7.out;have:=HBX.out.sz;show w.heap.size≤b7;omega)))).trans (cellOf HN75.out 0 rfl),(World.cell?_of_block (hb.block _ ((hLT HN75.out)) (HNF.out _ (by have:=HG7.out;have:=HBX.out.sz;show w.heap.size≤b7;omega)))).trans (cellOf HN75.out 1 rfl)⟩,hb⟩)
 refine wp_region_held_drew (S:=fun X=>(X.cell? ⟨B,0,none⟩=some (.map (some Ba))∧X.cell? ⟨w.heap.size,1,none⟩=some (.int .u64 (o.vol:Int))∧X.cell? ⟨b7,0,none⟩=some (.int .i64 o.size)∧X.cell? ⟨b7,1,none⟩=some (.map (some x.2)))∧Mods [Ba] w5 X) (by kernel_rfl) (HSS.out _ (Mods.of_below (Below.refl _ _).drew)) (fun hHeld => ?_);have hbe:Below w5.heap.size w5 w5.drew:=(Below.refl _ _).drew;obtain ⟨wd,hwd⟩:∃ y,w5.drew=y:=⟨_,rfl⟩
 rw [hwd] at hHeld hbe ⊢;have HBE:=hid hbe;have HS0:Hid (w5.heap.size≤wd.heap.size):=hid HBE.out.size;clear hwd hbe;refine tkA 0 rfl ?_;refine tkA 4 rfl ?_;refine tkA 6 rfl ?_;refine tkA 1 rfl ?_;refine tkA 5 rfl ?_;refine tkA 2 rfl ?_;refine tkA 3 rfl ?_;refine rd1 7 rfl fun K hK => ?_
 obtain ⟨w6,hup,hml,hmod⟩:=(HD5.out.below HBE.out).all.put undU64 undAll HD5.out.short (wfU (Nat.lt_trans HVOL.out.2 (by decide))) (a:=((⟨o.size.toNat,x.1.m.filter fun q=>decide ((q.1:Int)<o.size)⟩:Vl),x.2)) (v:=.agg #[.int .i64 o.size,.map (some x.2)]) (by rw [← HS.out.1];exact RVol_mk _ _);simp only [gE1,gE2,gE3];go_simp;refine hK.out _ _ ?_ (fun hHeld => ?_)
 ·exact HSS.out _ ((Mods.of_below HBE.out).trans hmod (fun i hi=>.inl hi))
 clear hK K;try simp only [Act.put,pE1,pE2,pE3]
 have HD6':=(HD5.out.below HBE.out).putAt hml ((HM5.out.below HBE.out).mods hmod (by simpa using HH.out.ne _ (getA_some HG.out))) hmod HVOL.out HOK6.out (HH.out.ge.2.2 _ (getA_some HG.out)) (HH.out.ne _ (getA_some HG.out)) (fun p hp e=>HD5.out.apart p hp (o.vol,(⟨x.1.size,x.1.m.filter fun q=>decide ((q.1:Int)<o.size)⟩,x.2)) (mem_insA.2 (.inl rfl)) e);rw [putA_putA,← drop_size HVOK.out] at HD6';have HD6:=hid HD6';clear HD6' hml hmod hup;refine wpAnyH_done (by kernel_rfl) ?_ _;have HEND:=hid hHeld.2;have HSE:=hid hHeld.1;clear hHeld;have HMZ:=hid HEND.out
 clear HEND HSE HSS HBE;have hxa:=(HMZ.out.block (w.heap.size+1) HLA.out (HNF.out _ (Nat.le_succ _))).trans HA5.out;have HXA:=hid hxa;have e0:=cellOf hxa 0 (v:=.int .i64 0) rfl;have e1:=cellOf hxa 1 (v:=.int .i64 0) rfl;have e2:=cellOf hxa 2 (v:=.slice none 0 0) rfl;have f0:=frozenOf hxa 0;have f1:=frozenOf hxa 1;have f2:=frozenOf hxa 2;clear hxa;go_wp2_with fail;obtain ⟨hx4,hm4⟩:=set3 (x:=.int .i64 0) (y:=.int .i64 0) (z:=.slice none 0 0) HXA.out
 refine bodyPost_ret (v:=ansE 0 0) (resAns rfl _ _ _ _ _ _ rfl hx4) rfl ⟨rfl,HD6.out.kept hm4 (fun hh => ?_) (fun k hk hh => ?_),?_⟩
 ·have:B=w.heap.size+1:=by simpa using hh
  have:=HH.out.lt;omega
 ·have e:k=w.heap.size+1:=by simpa using hh
  subst e
  rcases List.mem_cons.1 hk with e2 | hk2
  ·have:=HH.out.all.lt
   omega
  ·obtain ⟨p,hp,he⟩:=List.mem_map.1 hk2
   rcases mem_putA hp with rfl | hp
   ·have he2:x.2=w.heap.size+1:=he
    have:=HXB.out;omega
   ·have:=(HH.out.vol p hp).lt
    omega
 ·exact (((Mods.of_below (F:=[Ba,x.2]) HBW4.out).trans (HMO5.out.mono (by simp)) (fun i hi=>.inl hi)).trans HMZ.out (fun i hi=>.inl (by have e:=List.mem_singleton.1 hi;rw [e];simp))).trans hm4 (fun i hi=>.inr (by
   have:i=w.heap.size+1:=by simpa using hi
   omega))
end Go.Proofs.YthkmihedkddnmaaGreat
