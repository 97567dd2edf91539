import Derived.Test.YthkmihedkddnmaaGreatTG2
import Derived.Test.YthkmihedkddnmaaGreatTG28
import Derived.Test.YthkmihedkddnmaaGreatTG19
set_option linter.unusedVariables false
set_option linter.unusedSimpArgs false
set_option maxHeartbeats 6400000
set_option maxRecDepth 100000
namespace Go.Proofs.YthkmihedkddnmaaGreat
open Lib (hid)
open Go.RowKit Wire Cmd
theorem rref_any (n0:Nat) (w:World) (B:Nat) (sv:Value) (l:List (Nat × (Vl × Value))) (h:RDevAt n0 w B sv l) (hn0:n0≤w.heap.size) (o:Op0) (ok:o.Ok) (ao:Option Addr) (cap:Nat) (hn:o.data.length≤1000000) (hd:DevOk (mapA (·.1) l)) (hll:l.length≤1000000) (b:Int) (hr:refD (mapA (·.1) l) o≠0) (hk:True) :
  Calls Tryz.prog 19 #[.pointer (some ⟨B,0,none⟩),.agg (oC o (.slice ao o.data.length cap)),.int .i64 b] w fun e w'=>RPartP n0 w B sv (stepD (mapA (·.1) l) o b) e w':=by
 have HH:=hid h;have HN0:=hid hn0;have HLL:=hid hll;have hris:Ris l:=(ris_map (fun x:Vl × Value=>x.1)).1 hd.ris;have hok:∀ p∈l,p.2.1.Ok:=fun p hp=>hd.vol (p.1,p.2.1) (List.mem_map.2 ⟨p,hp,rfl⟩);have HRIS:=hid hris;have HDO:=hid hd;have HOKV:=hid hok;have HREF:=hid hr;have HKK:=hid hk;have HOK:=hid ok;have HDL:=hid hn;obtain ⟨q,hq⟩:∃ q,refD (mapA (·.1) l) o=q:=⟨_,rfl⟩
 rw [hq] at hr;have HQE:=hid hq;obtain ⟨sl,hsl⟩:∃ s,Value.slice ao o.data.length cap=s:=⟨_,rfl⟩
 have HSLE:=hid hsl;obtain ⟨fi,hfi⟩:∃ i,findI o.vol l=i:=⟨_,rfl⟩
 have HFI:=hid hfi;have CM:Hid (∀ X,RDevAt n0 X B sv l→Calls Tryz.prog 48 #[.pointer (some ⟨B,0,none⟩),.agg (oC o sl)] X fun e w'=>e = .returned (.int .i64 q)∧Below X.heap.size X w'):=hid (fun X hX=>by rw [← hsl,← hq];exact rrefused_any n0 X B sv l hX o ok ao cap hn (fun p hp=>(hok p hp).size));have CF:Hid (∀ X,RDevAt n0 X B sv l→Calls Tryz.prog 22 #[.pointer (some ⟨B,0,none⟩),.int .u64 (o.vol:Int)] X fun e w'=>e = .returned (.int .i64 fi)∧X=w'):=hid (fun X hX=>by rw [← hfi];exact rfind_any n0 X B sv l hX o.vol);rw [hsl]
 clear hsl hfi h hn0 hll hris hok hd hk ok hn hq;obtain ⟨w2,hw2⟩:∃ W,(w.alloc (.cells #[.int .i64 o.k,.int .u64 (o.vol:Int),.int .u64 (o.to:Int),.int .i64 o.size,.int .i64 o.pl,.int .i64 o.count,sl] 40)).alloc (.cells #[.int .i64 0,.int .i64 0,.slice none 0 0] 35)=W:=⟨_,rfl⟩
 have HBX:Hid (Boxes w w2 (oC o sl)):=hid (by rw [← hw2];exact boxes w (oC o sl));have HD2:=hid (HH.out.below HBX.out.bel);have HX2:=hid HBX.out.op;rw [show (oC o sl)=#[.int .i64 o.k,.int .u64 (o.vol:Int),.int .u64 (o.to:Int),.int .i64 o.size,.int .i64 o.pl,.int .i64 o.count,sl] from rfl]
 go_enter Tryz.func19,Tryz.ntmps19
 go_upto_region 1 with fail
 (try rw [hw2])
 clear hw2;obtain ⟨c0,c1,c2,c3,c4,c5,c6⟩:=op7 HX2.out;go_wp2_with fail;refine (CM.out w2 HD2.out).mono ?_;rintro e w3 ⟨rfl,hb3⟩;have HB3:=hid (bthen HBX.out.bel hb3);have HD3:=hid (HD2.out.below hb3);have HX3:=hid ((hb3.block w.heap.size (hLT HX2.out)).trans HX2.out);have HA3:=hid ((hb3.block (w.heap.size+1) (hLT HBX.out.ans)).trans HBX.out.ans);clear c0 c1 c2 c3 c4 c5 c6;have gq:(q == 0)=false:=bneI hr;have HST:Hid (stepD (mapA (·.1) l) o b=(⟨q,0,[]⟩,mapA (·.1) l)):=hid (by unfold stepD;rw [if_pos (by rw [HQE.out];exact hr),HQE.out])
 have HC6:Hid (Chg (B :: ob sv) w w3 (B :: ob sv)):=hid (Chg.of_below HB3.out);have HWS:Hid (w.heap.size≤w3.heap.size):=hid HB3.out.size;have hf0:=frozenOf HA3.out 0;have hf1:=frozenOf HA3.out 1;have hf2:=frozenOf HA3.out 2;have d0:=cellOf HA3.out 0 (v:=.int .i64 0) rfl;have d1:=cellOf HA3.out 1 (v:=.int .i64 0) rfl;have d2:=cellOf HA3.out 2 (v:=.slice none 0 0) rfl;clear hb3 CM CF;go_wp2_with fail;obtain ⟨hx4,hm4⟩:=set3 (x:=.int .i64 q) (y:=.int .i64 0) (z:=.slice none 0 0) HA3.out
 refine bodyPost_ret (v:=ansV ⟨q,0,[]⟩ (.slice none 0 0)) (resAns rfl _ _ _ _ _ _ rfl hx4) rfl ?_;rw [HST.out];exact RPartP.end_ HD3.out HC6.out HA3.out hm4 rfl (World.ownsRow_nil _ _ _ _)
end Go.Proofs.YthkmihedkddnmaaGreat
namespace Go.Proofs.YthkmihedkddnmaaGreat
open Lib (hid)
open Go.RowKit Wire Cmd
theorem rsnap_any (n0:Nat) (w:World) (B:Nat) (sv:Value) (l:List (Nat × (Vl × Value))) (h:RDevAt n0 w B sv l) (hn0:n0≤w.heap.size) (o:Op0) (ok:o.Ok) (ao:Option Addr) (cap:Nat) (hn:o.data.length≤1000000) (hd:DevOk (mapA (·.1) l)) (hll:l.length≤1000000) (b:Int) (hr:refD (mapA (·.1) l) o=0) (hk:o.k=4) :
  Calls Tryz.prog 19 #[.pointer (some ⟨B,0,none⟩),.agg (oC o (.slice ao o.data.length cap)),.int .i64 b] w fun e w'=>RPartP n0 w B sv (stepD (mapA (·.1) l) o b) e w':=by
 have HH:=hid h;have HN0:=hid hn0;have HLL:=hid hll;have hris:Ris l:=(ris_map (fun x:Vl × Value=>x.1)).1 hd.ris;have hok:∀ p∈l,p.2.1.Ok:=fun p hp=>hd.vol (p.1,p.2.1) (List.mem_map.2 ⟨p,hp,rfl⟩);have HRIS:=hid hris;have HDO:=hid hd;have HOKV:=hid hok;have HREF:=hid hr;have HKK:=hid hk;have HOK:=hid ok;have HDL:=hid hn;have HMAY:=hid (ref0_may hr);obtain ⟨sl,hsl⟩:∃ s,Value.slice ao o.data.length cap=s:=⟨_,rfl⟩
 have HSLE:=hid hsl;obtain ⟨fi,hfi⟩:∃ i,findI o.vol l=i:=⟨_,rfl⟩
 have HFI:=hid hfi;have CM:Hid (∀ X,RDevAt n0 X B sv l→Calls Tryz.prog 48 #[.pointer (some ⟨B,0,none⟩),.agg (oC o sl)] X fun e w'=>e = .returned (.int .i64 0)∧Below X.heap.size X w'):=hid (fun X hX=>by rw [← hsl,← hr];exact rrefused_any n0 X B sv l hX o ok ao cap hn (fun p hp=>(hok p hp).size));have CF:Hid (∀ X,RDevAt n0 X B sv l→Calls Tryz.prog 22 #[.pointer (some ⟨B,0,none⟩),.int .u64 (o.vol:Int)] X fun e w'=>e = .returned (.int .i64 fi)∧X=w'):=hid (fun X hX=>by rw [← hfi];exact rfind_any n0 X B sv l hX o.vol);rw [hsl]
 clear hsl hfi h hn0 hll hris hok hd hr hk ok hn;obtain ⟨w2,hw2⟩:∃ W,(w.alloc (.cells #[.int .i64 o.k,.int .u64 (o.vol:Int),.int .u64 (o.to:Int),.int .i64 o.size,.int .i64 o.pl,.int .i64 o.count,sl] 40)).alloc (.cells #[.int .i64 0,.int .i64 0,.slice none 0 0] 35)=W:=⟨_,rfl⟩
 have HBX:Hid (Boxes w w2 (oC o sl)):=hid (by rw [← hw2];exact boxes w (oC o sl));have HD2:=hid (HH.out.below HBX.out.bel);have HX2:=hid HBX.out.op;rw [show (oC o sl)=#[.int .i64 o.k,.int .u64 (o.vol:Int),.int .u64 (o.to:Int),.int .i64 o.size,.int .i64 o.pl,.int .i64 o.count,sl] from rfl]
 go_enter Tryz.func19,Tryz.ntmps19
 go_upto_region 1 with fail
 (try rw [hw2])
 clear hw2;obtain ⟨c0,c1,c2,c3,c4,c5,c6⟩:=op7 HX2.out;go_wp2_with fail;refine (CM.out w2 HD2.out).mono ?_;rintro e w3 ⟨rfl,hb3⟩;have HB3:=hid (bthen HBX.out.bel hb3);have HD3:=hid (HD2.out.below hb3);have HX3:=hid ((hb3.block w.heap.size (hLT HX2.out)).trans HX2.out);have HA3:=hid ((hb3.block (w.heap.size+1) (hLT HBX.out.ans)).trans HBX.out.ans);clear c0 c1 c2 c3 c4 c5 c6 hb3;obtain ⟨q8,hq8⟩:∃ k,w3.heap.size=k:=⟨_,rfl⟩
 go_upto_region 5 with fail
 obtain ⟨w4,hw4⟩:∃ W,w3.alloc (.cells #[.int .i64 0,.int .i64 0,.slice none 0 0] 35)=W:=⟨_,rfl⟩
 have hb4:Below w3.heap.size w3 w4:=by rw [← hw4];exact balloc (Below.refl _ _) _
 have HA8:Hid (w4.heap[q8]? = some (.cells #[.int .i64 0,.int .i64 0,.slice none 0 0] 35 (0,0))):=hid (by rw [← hw4,← hq8];exact heap_alloc_new _ _);have HQ8:Hid (w.heap.size+2≤q8):=hid (by have:=HB3.out.size;have h1:=(hLT HA3.out);omega);have HB4:=hid (bthen HB3.out hb4);have HD4:=hid (HD3.out.below hb4);have HX4:=hid ((hb4.block w.heap.size (hLT HX3.out)).trans HX3.out);have HA4:=hid ((hb4.block (w.heap.size+1) (hLT HA3.out)).trans HA3.out);rw [hw4];clear hw4 hq8 hb4;obtain ⟨c0,c1,c2,c3,c4,c5,c6⟩:=op7 HX4.out;go_wp2_with fail
 refine (CF.out w4 HD4.out).mono ?_;rintro e w5 ⟨rfl,rfl⟩;have HN4:Hid (n0≤w4.heap.size):=hid (Nat.le_trans HN0.out HB4.out.size);clear CM CF;have hvx:∃ (i:Nat) (a:Vl × Value),fi=(i:Int)∧l[i]? = some (o.vol,a):=by
  rw [← HFI.out]
  rcases find_case o.vol l with ⟨i,a,h1,h2,h3⟩ | ⟨h1,h2⟩
  ·exact ⟨i,a,h1,h2⟩
  ·obtain ⟨v,hv⟩:=ref0_vol HREF.out (by rw [HKK.out];decide) (by rw [HKK.out];decide)
   rw [getA_map,h2] at hv
   cases hv
 obtain ⟨i,a,rfl,hi⟩:=hvx;have HI:=hid hi;have HVO:=hid (HOKV.out _ (List.mem_of_getElem? hi));have HGV:Hid (getA o.vol (mapA (·.1) l)=some a.1):=hid (getA_at HDO.out.ris (mapA_get _ hi));obtain ⟨g,cap2,rfl,hc1,hc2,e0,e1,e2⟩:=HD4.out.at_ HI.out;have HE1:=hid e1;have HE2:=hid e2;have hbc:=HD4.out.cell;have hln:i<l.length:=(List.getElem?_eq_some_iff.1 hi).1;have hlb:=HLL.out;have HVA:=hid (HD4.out.vol HI.out);have HFZ:=hid HD4.out.frz;obtain ⟨n,hn⟩:∃ n,l.length=n:=⟨_,rfl⟩
 have HN:=hid hn;rw [hn] at HH HD4 hbc hln hlb hc1;clear hn hi e0 e1 e2;have g1:(o.k == 1)=false:=by simp [HKK.out]
 have g2:(o.k == 2)=false:=by simp [HKK.out]
 have g3:(o.k == 3)=false:=by simp [HKK.out]
 have g4:(o.k == 4)=true:=by simp [HKK.out]
 obtain ⟨am,cm,ham⟩:=row_slice HVA.out.row;obtain ⟨ml,hml⟩:∃ k,a.1.m.length=k:=⟨_,rfl⟩
 have HML:=hid hml;have HMB:Hid (ml≤256):=hid (by rw [← hml];exact HVO.out.len);have HVR:Hid (w4.ownsRow n0 107 257 (.slice am ml cm) ml (rblkC a.1.m)):=hid (by have h1:=HVA.out.row;rw [ham,hml] at h1;exact h1);have HE3:Hid (w4.cell? ⟨g,i * 3+2,none⟩=some (.slice am ml cm)):=hid (by rw [← hml,← ham];exact HE2.out);have HNG:Hid (g≠B∧g<w4.heap.size∧w.heap.size≠g):=hid (by
  obtain ⟨cs,h1,h2,h3⟩:=HD4.out.gblk;refine ⟨h3,(hLT h1),fun e => ?_⟩;rw [← e,HX4.out] at h1;exact absurd (Obj.cells.inj (Option.some.inj h1)).2.1 (by decide))
 have HBL:=hid HD4.out.lt;have HBC:=hid hbc;clear hbc hc2 ham hml;go_wp2_with fail
 have HSS:Hid (∀ X,Mods [B] w4 X→(X.cell? ⟨w.heap.size,2,none⟩=some (.int .u64 (o.to:Int))∧X.cell? ⟨g,i * 3+1,none⟩=some (.int .i64 (a.1.size:Int))∧X.cell? ⟨g,i * 3+2,none⟩=some (.slice am ml cm))∧Mods [B] w4 X):=hid (fun X hb=>⟨⟨(World.cell?_of_block (hb.block _ ((hLT HX4.out)) ((by have:=HH.out.lt;simp;omega)))).trans (c2),(World.cell?_of_block (hb.block _ (HNG.out.2.1) ((by have:=HNG.out.1;simp;omega)))).trans (HE1.out),(World.cell?_of_block (hb.block _ (HNG.out.2.1) ((by have:=HNG.out.1;simp;omega)))).trans (HE3.out)⟩,hb⟩)
 refine wp_region_held_drew (S:=fun X=>(X.cell? ⟨w.heap.size,2,none⟩=some (.int .u64 (o.to:Int))∧X.cell? ⟨g,i * 3+1,none⟩=some (.int .i64 (a.1.size:Int))∧X.cell? ⟨g,i * 3+2,none⟩=some (.slice am ml cm))∧Mods [B] w4 X) (by kernel_rfl) (HSS.out _ (Mods.of_below (Below.refl _ _).drew)) (fun hHeld => ?_);have hbe:Below w4.heap.size w4 w4.drew:=(Below.refl _ _).drew;obtain ⟨wd,hwd⟩:∃ y,w4.drew=y:=⟨_,rfl⟩
 rw [hwd] at hHeld hbe ⊢;have HBE:=hid hbe;have HS0:Hid (w4.heap.size≤wd.heap.size):=hid HBE.out.size;clear hwd hbe;refine tkP 0 rfl ?_;refine tkP 1 rfl ?_;refine tkP 3 rfl ?_;refine tkP 7 rfl ?_;refine tkP 11 rfl ?_;refine tkP 15 rfl ?_;refine tkP 2 rfl ?_;refine tkP 4 rfl ?_;refine tkP 12 rfl ?_;refine tkP 5 rfl ?_;refine tkP 13 rfl ?_;refine rd2 6 14 rfl rfl (fun K hK => ?_) fun K hK => ?_
 ·skip
  have hrd:=(show wd.cell? ⟨B,0,none⟩=some (.slice (some ⟨g,0,none⟩) n cap2) from (HBE.out.cell (p:=⟨B,0,none⟩) HBL.out).trans HBC.out)
  simp only [gE1,gE2,gE3];go_simp;clear hrd;refine hK.out _ _ ?_ (fun hHeld => ?_)
  ·exact (by first | exact HSS.out _ (Mods.of_below HBE.out) | exact HSS.out _ HMD.out)
  clear hK K;try simp only [Act.put,pE1,pE2,pE3]
  refine tkP 8 rfl ?_;refine tkP 9 rfl ?_;refine tkP 10 rfl ?_;refine rd1 14 rfl fun K hK => ?_;have hrd:=(show wd.cell? ⟨B,0,none⟩=some (.slice (some ⟨g,0,none⟩) n cap2) from (HBE.out.cell (p:=⟨B,0,none⟩) HBL.out).trans HBC.out)
  simp only [gE1,gE2,gE3];go_simp;clear hrd;refine hK.out _ _ ?_ (fun hHeld => ?_)
  ·exact (by first | exact HSS.out _ (Mods.of_below HBE.out) | exact HSS.out _ HMD.out)
  clear hK K;try simp only [Act.put,pE1,pE2,pE3]
  refine tkP 16 rfl ?_;refine tkP 17 rfl ?_;refine tkP 18 rfl ?_;refine rd1 19 rfl fun K hK => ?_;simp only [gE1,gE2,gE3];rw [if_pos (by rfl)];refine wp_apps _ _ 56 rfl w4.heap.size 107 _ 257 264 Tryz.underlying56 infoR4 zaggR (by decide) (by decide) (.slice none 0 0) 0 [] (by rfl) (World.ownsRow_nil _ _ _ _) _ ml _ (by rfl) (Rd.of_own (ownsRow_below HVR.out HBE.out)) (rblkC_ones a.1.m) (by have:=HMB.out;omega) HBE.out.size ?_;intro v6 w6 ho6 hb6 hg6 hs6 hn6;refine hK.out _ _ ?_ (fun hHeld => ?_)
  ·exact HSS.out _ (Mods.of_below (HBE.out.trans hb6))
  clear hK K;try simp only [Act.put,pE1,pE2,pE3]
  have HBE:=hid (HBE.out.trans hb6);rw [List.nil_append,Nat.zero_add] at ho6;obtain ⟨a6,cx6,hv6⟩:=row_slice ho6;subst hv6;have HO6:=hid ho6;clear ho6 hb6 hg6 hs6 hn6;refine tkP 20 rfl ?_;refine rd1 21 rfl fun K hK => ?_;simp only [gE1,gE2,gE3];go_simp;refine (radd_own n0 w6 B _ l (HD4.out.below HBE.out) (Nat.le_trans HN4.out HBE.out.size) o.to a.1.size a.1.m (.slice a6 ml cx6) (ownsRow_base (by rw [HML.out];exact HO6.out) HN4.out) HLL.out (getA_mapN (ref0_to HREF.out HKK.out)) HRIS.out).mono ?_;rintro e w7 ⟨rfl,hq⟩;dsimp only;refine hK.out _ _ ?_ (fun hHeld => ?_)
  ·exact HSS.out _ ((Mods.of_below HBE.out).trans (RDevNew.mods hq) (fun k hk=>.inl hk))
  clear hK K;try simp only [Act.put,pE1,pE2,pE3]
  have HQ7:=hid hq;clear hq;refine wpAnyH_done (by kernel_rfl) ?_ _;have HEND:=hid hHeld.2;have HSE:=hid hHeld.1;clear hHeld;clear HSE HSS HEND c0 c1 c2 c3 c4 c5 c6;obtain ⟨sv6,hd6,hc6,hm6'⟩:=HQ7.out.chg (sv:=.slice (some ⟨g,0,none⟩) n cap2) (bthen HB4.out HBE.out);have hm6:=(Mods.of_below HBE.out).trans hm6' (fun k hk=>.inl hk);have hq:True:=trivial;have HST:Hid (stepD (mapA (·.1) l) o b=(⟨0,0,[]⟩,mapA (·.1) (putA o.to (⟨a.1.size,a.1.m⟩,.slice a6 ml cx6) l))):=hid (by
   unfold stepD;rw [if_neg (by rw [HREF.out];simp),if_neg (by rw [HKK.out];decide),if_neg (by rw [HKK.out];decide),HGV.out];dsimp only;rw [if_neg (by rw [HKK.out];decide),if_pos HKK.out];exact congrArg (Prod.mk _) (putA_map (fun x:Vl × Value=>x.1) o.to (a.1,.slice a6 ml cx6) l))
  have HD6:=hid hd6;have HC6:=hid hc6;have HA6:=hid ((hm6.block (w.heap.size+1) (hLT HA4.out) (by have:=HH.out.lt;simp;omega)).trans HA4.out);have HA9:=hid ((hm6.block q8 (hLT HA8.out) (by have:=HH.out.lt;have:=HQ8.out;simp;omega)).trans HA8.out);clear hd6 hc6 hm6 hq;have hf0:=frozenOf HA6.out 0;have hf1:=frozenOf HA6.out 1;have hf2:=frozenOf HA6.out 2;have d0:=cellOf HA6.out 0 rfl;have d1:=cellOf HA6.out 1 rfl;have d2:=cellOf HA6.out 2 rfl;have e0:=cellOf HA9.out 0 rfl;have e1:=cellOf HA9.out 1 rfl;have e2:=cellOf HA9.out 2 rfl
  go_wp2_with fail;obtain ⟨hx4,hm4⟩:=set3 (x:=.int .i64 0) (y:=.int .i64 0) (z:=.slice none 0 0) HA6.out;refine bodyPost_ret (v:=ansE 0 0) (resAns rfl _ _ _ _ _ _ rfl hx4) rfl ?_;rw [HST.out];exact RPartP.end_ HD6.out HC6.out HA6.out hm4 rfl (World.ownsRow_nil _ _ _ _)
 ·skip
  have hrd:=(show wd.cell? ⟨B,0,none⟩=some (.slice (some ⟨g,0,none⟩) n cap2) from (HBE.out.cell (p:=⟨B,0,none⟩) HBL.out).trans HBC.out)
  simp only [gE1,gE2,gE3];go_simp;clear hrd;refine hK.out _ _ ?_ (fun hHeld => ?_)
  ·exact (by first | exact HSS.out _ (Mods.of_below HBE.out) | exact HSS.out _ HMD.out)
  clear hK K;try simp only [Act.put,pE1,pE2,pE3]
  refine tkP 16 rfl ?_;refine tkP 17 rfl ?_;refine tkP 18 rfl ?_;refine rd2 6 19 rfl rfl (fun K hK => ?_) fun K hK => ?_
  ·skip
   have hrd:=(show wd.cell? ⟨B,0,none⟩=some (.slice (some ⟨g,0,none⟩) n cap2) from (HBE.out.cell (p:=⟨B,0,none⟩) HBL.out).trans HBC.out)
   simp only [gE1,gE2,gE3];go_simp;clear hrd;refine hK.out _ _ ?_ (fun hHeld => ?_)
   ·exact (by first | exact HSS.out _ (Mods.of_below HBE.out) | exact HSS.out _ HMD.out)
   clear hK K;try simp only [Act.put,pE1,pE2,pE3]
   refine tkP 8 rfl ?_;refine tkP 9 rfl ?_;refine tkP 10 rfl ?_;refine rd1 19 rfl fun K hK => ?_;simp only [gE1,gE2,gE3];rw [if_pos (by rfl)];refine wp_apps _ _ 56 rfl w4.heap.size 107 _ 257 264 Tryz.underlying56 infoR4 zaggR (by decide) (by decide) (.slice none 0 0) 0 [] (by rfl) (World.ownsRow_nil _ _ _ _) _ ml _ (by rfl) (Rd.of_own (ownsRow_below HVR.out HBE.out)) (rblkC_ones a.1.m) (by have:=HMB.out;omega) HBE.out.size ?_;intro v6 w6 ho6 hb6 hg6 hs6 hn6;refine hK.out _ _ ?_ (fun hHeld => ?_)
   ·exact HSS.out _ (Mods.of_below (HBE.out.trans hb6))
   clear hK K;try simp only [Act.put,pE1,pE2,pE3]
   have HBE:=hid (HBE.out.trans hb6);rw [List.nil_append,Nat.zero_add] at ho6;obtain ⟨a6,cx6,hv6⟩:=row_slice ho6;subst hv6;have HO6:=hid ho6;clear ho6 hb6 hg6 hs6 hn6;refine tkP 20 rfl ?_;refine rd1 21 rfl fun K hK => ?_;simp only [gE1,gE2,gE3];go_simp;refine (radd_own n0 w6 B _ l (HD4.out.below HBE.out) (Nat.le_trans HN4.out HBE.out.size) o.to a.1.size a.1.m (.slice a6 ml cx6) (ownsRow_base (by rw [HML.out];exact HO6.out) HN4.out) HLL.out (getA_mapN (ref0_to HREF.out HKK.out)) HRIS.out).mono ?_;rintro e w7 ⟨rfl,hq⟩;dsimp only;refine hK.out _ _ ?_ (fun hHeld => ?_)
   ·exact HSS.out _ ((Mods.of_below HBE.out).trans (RDevNew.mods hq) (fun k hk=>.inl hk))
   clear hK K;try simp only [Act.put,pE1,pE2,pE3]
   have HQ7:=hid hq;clear hq;refine wpAnyH_done (by kernel_rfl) ?_ _;have HEND:=hid hHeld.2;have HSE:=hid hHeld.1;clear hHeld;clear HSE HSS HEND c0 c1 c2 c3 c4 c5 c6;obtain ⟨sv6,hd6,hc6,hm6'⟩:=HQ7.out.chg (sv:=.slice (some ⟨g,0,none⟩) n cap2) (bthen HB4.out HBE.out);have hm6:=(Mods.of_below HBE.out).trans hm6' (fun k hk=>.inl hk);have hq:True:=trivial;have HST:Hid (stepD (mapA (·.1) l) o b=(⟨0,0,[]⟩,mapA (·.1) (putA o.to (⟨a.1.size,a.1.m⟩,.slice a6 ml cx6) l))):=hid (by
    unfold stepD;rw [if_neg (by rw [HREF.out];simp),if_neg (by rw [HKK.out];decide),if_neg (by rw [HKK.out];decide),HGV.out];dsimp only;rw [if_neg (by rw [HKK.out];decide),if_pos HKK.out];exact congrArg (Prod.mk _) (putA_map (fun x:Vl × Value=>x.1) o.to (a.1,.slice a6 ml cx6) l))
   have HD6:=hid hd6;have HC6:=hid hc6;have HA6:=hid ((hm6.block (w.heap.size+1) (hLT HA4.out) (by have:=HH.out.lt;simp;omega)).trans HA4.out);have HA9:=hid ((hm6.block q8 (hLT HA8.out) (by have:=HH.out.lt;have:=HQ8.out;simp;omega)).trans HA8.out);clear hd6 hc6 hm6 hq;have hf0:=frozenOf HA6.out 0;have hf1:=frozenOf HA6.out 1;have hf2:=frozenOf HA6.out 2;have d0:=cellOf HA6.out 0 rfl;have d1:=cellOf HA6.out 1 rfl;have d2:=cellOf HA6.out 2 rfl;have e0:=cellOf HA9.out 0 rfl;have e1:=cellOf HA9.out 1 rfl;have e2:=cellOf HA9.out 2 rfl
   go_wp2_with fail;obtain ⟨hx4,hm4⟩:=set3 (x:=.int .i64 0) (y:=.int .i64 0) (z:=.slice none 0 0) HA6.out;refine bodyPost_ret (v:=ansE 0 0) (resAns rfl _ _ _ _ _ _ rfl hx4) rfl ?_;rw [HST.out];exact RPartP.end_ HD6.out HC6.out HA6.out hm4 rfl (World.ownsRow_nil _ _ _ _)
  ·skip
   simp only [gE1,gE2,gE3];rw [if_pos (by rfl)];refine wp_apps _ _ 56 rfl w4.heap.size 107 _ 257 264 Tryz.underlying56 infoR4 zaggR (by decide) (by decide) (.slice none 0 0) 0 [] (by rfl) (World.ownsRow_nil _ _ _ _) _ ml _ (by rfl) (Rd.of_own (ownsRow_below HVR.out HBE.out)) (rblkC_ones a.1.m) (by have:=HMB.out;omega) HBE.out.size ?_;intro v6 w6 ho6 hb6 hg6 hs6 hn6;refine hK.out _ _ ?_ (fun hHeld => ?_)
   ·exact HSS.out _ (Mods.of_below (HBE.out.trans hb6))
   clear hK K;try simp only [Act.put,pE1,pE2,pE3]
   have HBE:=hid (HBE.out.trans hb6);rw [List.nil_append,Nat.zero_add] at ho6;obtain ⟨a6,cx6,hv6⟩:=row_slice ho6;subst hv6;have HO6:=hid ho6;clear ho6 hb6 hg6 hs6 hn6;refine rd1 6 rfl fun K hK => ?_;have hrd:=(show w6.cell? ⟨B,0,none⟩=some (.slice (some ⟨g,0,none⟩) n cap2) from (HBE.out.cell (p:=⟨B,0,none⟩) HBL.out).trans HBC.out)
   simp only [gE1,gE2,gE3];go_simp;clear hrd;refine hK.out _ _ ?_ (fun hHeld => ?_)
   ·exact (by first | exact HSS.out _ (Mods.of_below HBE.out) | exact HSS.out _ HMD.out)
   clear hK K;try simp only [Act.put,pE1,pE2,pE3]
   refine tkP 8 rfl ?_;refine tkP 9 rfl ?_;refine tkP 10 rfl ?_;refine tkP 20 rfl ?_;refine rd1 21 rfl fun K hK => ?_;simp only [gE1,gE2,gE3];go_simp;refine (radd_own n0 w6 B _ l (HD4.out.below HBE.out) (Nat.le_trans HN4.out HBE.out.size) o.to a.1.size a.1.m (.slice a6 ml cx6) (ownsRow_base (by rw [HML.out];exact HO6.out) HN4.out) HLL.out (getA_mapN (ref0_to HREF.out HKK.out)) HRIS.out).mono ?_;rintro e w7 ⟨rfl,hq⟩;dsimp only;refine hK.out _ _ ?_ (fun hHeld => ?_)
   ·exact HSS.out _ ((Mods.of_below HBE.out).trans (RDevNew.mods hq) (fun k hk=>.inl hk))
   clear hK K;try simp only [Act.put,pE1,pE2,pE3]
   have HQ7:=hid hq;clear hq;refine wpAnyH_done (by kernel_rfl) ?_ _;have HEND:=hid hHeld.2;have HSE:=hid hHeld.1;clear hHeld;clear HSE HSS HEND c0 c1 c2 c3 c4 c5 c6;obtain ⟨sv6,hd6,hc6,hm6'⟩:=HQ7.out.chg (sv:=.slice (some ⟨g,0,none⟩) n cap2) (bthen HB4.out HBE.out);have hm6:=(Mods.of_below HBE.out).trans hm6' (fun k hk=>.inl hk);have hq:True:=trivial;have HST:Hid (stepD (mapA (·.1) l) o b=(⟨0,0,[]⟩,mapA (·.1) (putA o.to (⟨a.1.size,a.1.m⟩,.slice a6 ml cx6) l))):=hid (by
    unfold stepD;rw [if_neg (by rw [HREF.out];simp),if_neg (by rw [HKK.out];decide),if_neg (by rw [HKK.out];decide),HGV.out];dsimp only;rw [if_neg (by rw [HKK.out];decide),if_pos HKK.out];exact congrArg (Prod.mk _) (putA_map (fun x:Vl × Value=>x.1) o.to (a.1,.slice a6 ml cx6) l))
   have HD6:=hid hd6;have HC6:=hid hc6;have HA6:=hid ((hm6.block (w.heap.size+1) (hLT HA4.out) (by have:=HH.out.lt;simp;omega)).trans HA4.out);have HA9:=hid ((hm6.block q8 (hLT HA8.out) (by have:=HH.out.lt;have:=HQ8.out;simp;omega)).trans HA8.out);clear hd6 hc6 hm6 hq;have hf0:=frozenOf HA6.out 0;have hf1:=frozenOf HA6.out 1;have hf2:=frozenOf HA6.out 2;have d0:=cellOf HA6.out 0 rfl;have d1:=cellOf HA6.out 1 rfl;have d2:=cellOf HA6.out 2 rfl;have e0:=cellOf HA9.out 0 rfl;have e1:=cellOf HA9.out 1 rfl;have e2:=cellOf HA9.out 2 rfl
   go_wp2_with fail;obtain ⟨hx4,hm4⟩:=set3 (x:=.int .i64 0) (y:=.int .i64 0) (z:=.slice none 0 0) HA6.out;refine bodyPost_ret (v:=ansE 0 0) (resAns rfl _ _ _ _ _ _ rfl hx4) rfl ?_;rw [HST.out];exact RPartP.end_ HD6.out HC6.out HA6.out hm4 rfl (World.ownsRow_nil _ _ _ _)
end Go.Proofs.YthkmihedkddnmaaGreat
