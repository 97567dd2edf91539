import Derived.Test.YthkmihedkddnmaaGreatTG2
import Derived.Test.YthkmihedkddnmaaGreatTG19
import Derived.Test.YthkmihedkddnmaaGreatTG28
import Derived.Test.YthkmihedkddnmaaGreatTG32
import Derived.Test.YthkmihedkddnmaaGreatTG33
import Derived.Test.YthkmihedkddnmaaGreatTG34
set_option linter.unusedVariables false
set_option linter.unusedSimpArgs false
set_option maxHeartbeats 6400000
set_option maxRecDepth 100000
namespace Go.Proofs.YthkmihedkddnmaaGreat
open Lib (hid)
open Go.RowKit Wire Cmd
theorem rresize_any (n0:Nat) (w:World) (B:Nat) (sv:Value) (l:List (Nat × (Vl × Value))) (h:RDevAt n0 w B sv l) (hn0:n0≤w.heap.size) (o:Op0) (ok:o.Ok) (ao:Option Addr) (cap:Nat) (hn:o.data.length≤1000000) (hd:DevOk (mapA (·.1) l)) (hll:l.length≤1000000) (b:Int) (hr:refD (mapA (·.1) l) o=0) (hk:o.k=3) :
  Calls Tryz.prog 19 #[.pointer (some ⟨B,0,none⟩),.agg (oC o (.slice ao o.data.length cap)),.int .i64 b] w fun e w'=>RPartP n0 w B sv (stepD (mapA (·.1) l) o b) e w':=by
 have HH:=hid h;have HN0:=hid hn0;have HLL:=hid hll;have hris:Ris l:=(ris_map (fun x:Vl × Value=>x.1)).1 hd.ris;have hok:∀ p∈l,p.2.1.Ok:=fun p hp=>hd.vol (p.1,p.2.1) (List.mem_map.2 ⟨p,hp,rfl⟩);have HRIS:=hid hris;have HDO:=hid hd;have HOKV:=hid hok;have HREF:=hid hr;have HKK:=hid hk;have HOK:=hid ok;have HDL:=hid hn;have HMAY:=hid (ref0_may hr);obtain ⟨sl,hsl⟩:∃ s,Value.slice ao o.data.length cap=s:=⟨_,rfl⟩
 have HSLE:=hid hsl;obtain ⟨fi,hfi⟩:∃ i,findI o.vol l=i:=⟨_,rfl⟩
 have HFI:=hid hfi;have CM:Hid (∀ X,RDevAt n0 X B sv l→Calls Tryz.prog 48 #[.pointer (some ⟨B,0,none⟩),.agg (oC o sl)] X fun e w'=>e = .returned (.int .i64 0)∧Below X.heap.size X w'):=hid (fun X hX=>by rw [← hsl,← hr];exact rrefused_any n0 X B sv l hX o ok ao cap hn (fun p hp=>(hok p hp).size));have CF:Hid (∀ X,RDevAt n0 X B sv l→Calls Tryz.prog 22 #[.pointer (some ⟨B,0,none⟩),.int .u64 (o.vol:Int)] X fun e w'=>e = .returned (.int .i64 fi)∧X=w'):=hid (fun X hX=>by rw [← hfi];exact rfind_any n0 X B sv l hX o.vol);rw [hsl]
 clear hsl hfi h hn0 hll hris hok hd hr hk ok hn;obtain ⟨w2,hw2⟩:∃ W,(w.alloc (.cells #[.int .i64 o.k,.int .u64 (o.vol:Int),.int .u64 (o.to:Int),.int .i64 o.size,.int .i64 o.pl,.int .i64 o.count,sl] 40)).alloc (.cells #[.int .i64 0,.int .i64 0,.slice none 0 0] 35)=W:=⟨_,rfl⟩
 have HBX:Hid (Boxes w w2 (oC o sl)):=hid (by rw [← hw2];exact boxes w (oC o sl));have HD2:=hid (HH.out.below HBX.out.bel);have HX2:=hid HBX.out.op;rw [show (oC o sl)=#[.int .i64 o.k,.int .u64 (o.vol:Int),.int .u64 (o.to:Int),.int .i64 o.size,.int .i64 o.pl,.int .i64 o.count,sl] from rfl]
 go_enter Tryz.func19,Tryz.ntmps19
 go_upto_region 1 with fail
 (try rw [hw2])
 clear hw2;obtain ⟨c0,c1,c2,c3,c4,c5,c6⟩:=op7 HX2.out;go_wp2_with fail;refine (CM.out w2 HD2.out).mono ?_;rintro e w3 ⟨rfl,hb3⟩;have HB3:=hid (bthen HBX.out.bel hb3);have HD3:=hid (HD2.out.below hb3);have HX3:=hid ((hb3.block w.heap.size (hLT HX2.out)).trans HX2.out);have HA3:=hid ((hb3.block (w.heap.size+1) (hLT HBX.out.ans)).trans HBX.out.ans);clear c0 c1 c2 c3 c4 c5 c6 hb3;obtain ⟨q8,hq8⟩:∃ k,w3.heap.size=k:=⟨_,rfl⟩
 go_upto_region 5 with fail
 obtain ⟨w4,hw4⟩:∃ W,w3.alloc (.cells #[.int .i64 0,.int .i64 0,.slice none 0 0] 35)=W:=⟨_,rfl⟩
 have hb4:Below w3.heap.size w3 w4:=by rw [← hw4];exact balloc (Below.refl _ _) _
 have HA8:Hid (w4.heap[q8]? = some (.cells #[.int .i64 0,.int .i64 0,.slice none 0 0] 35 (0,0))):=hid (by rw [← hw4,← hq8];exact heap_alloc_new _ _);have HQ8:Hid (w.heap.size+2≤q8):=hid (by have:=HB3.out.size;have h1:=(hLT HA3.out);omega);have HB4:=hid (bthen HB3.out hb4);have HD4:=hid (HD3.out.below hb4);have HX4:=hid ((hb4.block w.heap.size (hLT HX3.out)).trans HX3.out);have HA4:=hid ((hb4.block (w.heap.size+1) (hLT HA3.out)).trans HA3.out);rw [hw4];clear hw4 hq8 hb4;obtain ⟨c0,c1,c2,c3,c4,c5,c6⟩:=op7 HX4.out;go_wp2_with fail
 refine (CF.out w4 HD4.out).mono ?_;rintro e w5 ⟨rfl,rfl⟩;have HN4:Hid (n0≤w4.heap.size):=hid (Nat.le_trans HN0.out HB4.out.size);clear CM CF;have hvx:∃ (i:Nat) (a:Vl × Value),fi=(i:Int)∧l[i]? = some (o.vol,a):=by
  rw [← HFI.out]
  rcases find_case o.vol l with ⟨i,a,h1,h2,h3⟩ | ⟨h1,h2⟩
  ·exact ⟨i,a,h1,h2⟩
  ·obtain ⟨v,hv⟩:=ref0_vol HREF.out (by rw [HKK.out];decide) (by rw [HKK.out];decide)
   rw [getA_map,h2] at hv
   cases hv
 obtain ⟨i,a,rfl,hi⟩:=hvx;have HI:=hid hi;have HVO:=hid (HOKV.out _ (List.mem_of_getElem? hi));have HGV:Hid (getA o.vol (mapA (·.1) l)=some a.1):=hid (getA_at HDO.out.ris (mapA_get _ hi));obtain ⟨g,cap2,rfl,hc1,hc2,e0,e1,e2⟩:=HD4.out.at_ HI.out;have HE1:=hid e1;have HE2:=hid e2;have hbc:=HD4.out.cell;have hln:i<l.length:=(List.getElem?_eq_some_iff.1 hi).1;have hlb:=HLL.out;have HVA:=hid (HD4.out.vol HI.out);have HFZ:=hid HD4.out.frz;obtain ⟨n,hn⟩:∃ n,l.length=n:=⟨_,rfl⟩
 have HN:=hid hn;rw [hn] at HH HD4 hbc hln hlb hc1;clear hn hi e0 e1 e2;have g1:(o.k == 1)=false:=by simp [HKK.out]
 have g2:(o.k == 2)=false:=by simp [HKK.out]
 have g3:(o.k == 3)=true:=by simp [HKK.out]
 have hs0:=may_size HMAY.out (.inr HKK.out);have HSO:Hid (((o.size.toNat:Nat):Int)=o.size):=hid (by omega);have HE1':=HE1.out;have HFZ1:=HFZ.out (i * 3+1);have HNG:Hid (g≠B∧g<w4.heap.size∧w.heap.size≠g):=hid (by
  obtain ⟨cs,h1,h2,h3⟩:=HD4.out.gblk;refine ⟨h3,(hLT h1),fun e => ?_⟩;rw [← e,HX4.out] at h1;exact absurd (Obj.cells.inj (Option.some.inj h1)).2.1 (by decide))
 go_wp2_with fail;have HSS:Hid (∀ X,Mods [g] w4 X→(X.cell? ⟨B,0,none⟩=some (.slice (some ⟨g,0,none⟩) n cap2)∧X.cell? ⟨w.heap.size,3,none⟩=some (.int .i64 o.size))∧Mods [g] w4 X):=hid (fun X hb=>⟨⟨(World.cell?_of_block (hb.block _ (HD4.out.lt) ((by have:=HNG.out.1;simp;omega)))).trans (hbc),(World.cell?_of_block (hb.block _ ((hLT HX4.out)) ((by have:=HNG.out.2.2;simp;omega)))).trans (c3)⟩,hb⟩)
 refine wp_region_held_drew (S:=fun X=>(X.cell? ⟨B,0,none⟩=some (.slice (some ⟨g,0,none⟩) n cap2)∧X.cell? ⟨w.heap.size,3,none⟩=some (.int .i64 o.size))∧Mods [g] w4 X) (by kernel_rfl) (HSS.out _ (Mods.of_below (Below.refl _ _).drew)) (fun hHeld => ?_);have hbe:Below w4.heap.size w4 w4.drew:=(Below.refl _ _).drew;obtain ⟨wd,hwd⟩:∃ y,w4.drew=y:=⟨_,rfl⟩
 rw [hwd] at hHeld hbe ⊢;have HBE:=hid hbe;have HS0:Hid (w4.heap.size≤wd.heap.size):=hid HBE.out.size;clear hwd hbe;refine tkP 0 rfl ?_;refine tkP 4 rfl ?_;refine tkP 5 rfl ?_;refine tkP 1 rfl ?_;refine tkP 6 rfl ?_;refine tkP 2 rfl ?_;refine tkP 3 rfl ?_;refine tkP 7 rfl ?_;refine tkP 8 rfl ?_;refine rd1 9 rfl fun K hK => ?_;have hc9:=(HBE.out.cell (p:=⟨g,i * 3+1,none⟩) HNG.out.2.1).trans HE1.out;have hf9:wd.frozen? ⟨g,i * 3+1,none⟩=false:=(HBE.out.frozen (p:=⟨g,i * 3+1,none⟩) HNG.out.2.1).trans HFZ1;simp only [gE1,gE2,gE3];go_simp
 refine hK.out _ _ ?_ (fun hHeld => ?_)
 ·exact HSS.out _ ((Mods.of_below HBE.out).setCell (p:=⟨g,i * 3+1,none⟩) (by simp) _)
 clear hK K;try simp only [Act.put,pE1,pE2,pE3]
 refine wpAnyH_done (by kernel_rfl) ?_ _;have HEND:=hid hHeld.2;have HSE:=hid hHeld.1;clear hHeld;clear HSE HSS c0 c1 c2 c3 c4 c5 c6 hbc;have hd6:=(HD4.out.below HBE.out).setSize HI.out o.size.toNat;rw [HSO.out] at hd6;obtain ⟨w5,hw5⟩:∃ W,(wd).setCell ⟨g,i * 3+1,none⟩ (.int .i64 o.size)=W:=⟨_,rfl⟩
 have hm5:=HEND.out;rw [hw5] at hd6 hm5 ⊢;clear hw5 HEND;have HD5:=hid hd6;have HM5:=hid hm5;have hx5:=(HM5.out.block w.heap.size (hLT HX4.out) (by have:=HNG.out.2.2;simp;omega)).trans HX4.out;have HX5:=hid hx5;obtain ⟨c0,c1,c2,c3,c4,c5,c6⟩:=op7 HX5.out;have hbc:=HD5.out.cell;have hi5:=List.getElem?_set_self (l:=l) (a:=(o.vol,((⟨o.size.toNat,a.1.m⟩:Vl),a.2))) (i:=i) (by rw [HN.out];exact hln);have HI5:=hid hi5;have HV5:=hid (HD5.out.vol hi5);have HF5:=hid (HD5.out.frz (i * 3+2))
 have HG5:Hid (g<w5.heap.size):=hid (Nat.lt_of_lt_of_le HNG.out.2.1 HM5.out.size);clear hd6 hm5 hx5 hi5;go_wp2_with fail;have HSS:Hid (∀ X,Mods [g] w5 X→(X.cell? ⟨B,0,none⟩=some (.slice (some ⟨g,0,none⟩) n cap2)∧X.cell? ⟨w.heap.size,3,none⟩=some (.int .i64 o.size))∧Mods [g] w5 X):=hid (fun X hb=>⟨⟨(World.cell?_of_block (hb.block _ (HD5.out.lt) ((by have:=HNG.out.1;simp;omega)))).trans (hbc),(World.cell?_of_block (hb.block _ ((hLT HX5.out)) ((by have:=HNG.out.2.2;simp;omega)))).trans (c3)⟩,hb⟩)
 refine wp_region_held_drew (S:=fun X=>(X.cell? ⟨B,0,none⟩=some (.slice (some ⟨g,0,none⟩) n cap2)∧X.cell? ⟨w.heap.size,3,none⟩=some (.int .i64 o.size))∧Mods [g] w5 X) (by kernel_rfl) (HSS.out _ (Mods.of_below (Below.refl _ _).drew)) (fun hHeld => ?_);have hbe:Below w5.heap.size w5 w5.drew:=(Below.refl _ _).drew;obtain ⟨wd,hwd⟩:∃ y,w5.drew=y:=⟨_,rfl⟩
 rw [hwd] at hHeld hbe ⊢;have HBE:=hid hbe;have HS0:Hid (w5.heap.size≤wd.heap.size):=hid HBE.out.size;clear hwd hbe;refine tkP 0 rfl ?_;refine tkP 4 rfl ?_;refine tkP 6 rfl ?_;refine tkP 1 rfl ?_;refine tkP 7 rfl ?_;refine tkP 2 rfl ?_;refine tkP 3 rfl ?_;refine tkP 5 rfl ?_;refine rd1 8 rfl fun K hK => ?_;simp only [gE1,gE2,gE3];go_simp;refine (rdrop_any n0 wd g (i * 3) a.2 a.1.m (HV5.out.below HBE.out) ((HBE.out.frozen (p:=⟨g,i * 3+2,none⟩) HG5.out).trans HF5.out) HVO.out.blk (Nat.le_trans HVO.out.len (by decide)) o.size 1073741824).mono ?_
 rintro e w6 ⟨rfl,hq6⟩;dsimp only;refine hK.out _ _ ?_ (fun hHeld => ?_)
 ·exact HSS.out _ (RSt.mods HBE.out hq6)
 clear hK K;try simp only [Act.put,pE1,pE2,pE3]
 have HQ6:=hid (RSt.pre HBE.out hq6);clear hq6;refine wpAnyH_done (by kernel_rfl) ?_ _;have HEND:=hid hHeld.2;have HSE:=hid hHeld.1;clear hHeld;clear HSE HSS HEND c0 c1 c2 c3 c4 c5 c6 hbc;have hn5:n0≤w5.heap.size:=Nat.le_trans HN4.out HM5.out.size;obtain ⟨v6,hd6,hm6⟩:=HD5.out.rst HI5.out HQ6.out hn5;rw [List.set_set] at hd6;have HD6:=hid hd6;have HST:Hid (stepD (mapA (·.1) l) o b=(⟨0,0,[]⟩,mapA (·.1) (l.set i (o.vol,(⟨o.size.toNat,dropA o.size 1073741824 a.1.m⟩,v6))))):=hid (by
  unfold stepD;rw [if_neg (by rw [HREF.out];simp),if_neg (by rw [HKK.out];decide),if_neg (by rw [HKK.out];decide),HGV.out,mapA_set,putA_set HDO.out.ris (mapA_get _ HI.out)];dsimp only;rw [if_pos HKK.out])
 have hm46:=HM5.out.trans hm6 (fun k hk=>.inl hk);have HC6:Hid (Chg (B :: ob (.slice (some ⟨g,0,none⟩) n cap2)) w w6 (B :: ob (.slice (some ⟨g,0,none⟩) n cap2))):=hid ⟨(Mods.of_below HB4.out).trans (hm46.mono (G:=B :: ob (.slice (some ⟨g,0,none⟩) n cap2)) (by simp [ob_some])) (fun k hk=>.inl hk),fun k hk=>.inl hk⟩;have HNA:Hid (w.heap.size+1≠g∧q8≠g):=hid (by
  obtain ⟨cs,h1,h2,h3⟩:=HD4.out.gblk;refine ⟨fun e => ?_,fun e => ?_⟩
  ·rw [← e,HA4.out] at h1
   exact absurd (Obj.cells.inj (Option.some.inj h1)).2.1 (by decide)
  ·rw [← e,HA8.out] at h1
   exact absurd (Obj.cells.inj (Option.some.inj h1)).2.1 (by decide))
 have HA6:=hid ((hm46.block (w.heap.size+1) (hLT HA4.out) (by have:=HNA.out.1;simp;omega)).trans HA4.out);have HA9:=hid ((hm46.block q8 (hLT HA8.out) (by have:=HNA.out.2;simp;omega)).trans HA8.out);clear hd6 hm6 hm46;have hf0:=frozenOf HA6.out 0;have hf1:=frozenOf HA6.out 1;have hf2:=frozenOf HA6.out 2;have d0:=cellOf HA6.out 0 rfl;have d1:=cellOf HA6.out 1 rfl;have d2:=cellOf HA6.out 2 rfl;have e0:=cellOf HA9.out 0 rfl;have e1:=cellOf HA9.out 1 rfl;have e2:=cellOf HA9.out 2 rfl;go_wp2_with fail
 obtain ⟨hx4,hm4⟩:=set3 (x:=.int .i64 0) (y:=.int .i64 0) (z:=.slice none 0 0) HA6.out;refine bodyPost_ret (v:=ansE 0 0) (resAns rfl _ _ _ _ _ _ rfl hx4) rfl ?_;rw [HST.out];exact RPartP.end_ HD6.out HC6.out HA6.out hm4 rfl (World.ownsRow_nil _ _ _ _)
theorem rdiscard_any (n0:Nat) (w:World) (B:Nat) (sv:Value) (l:List (Nat × (Vl × Value))) (h:RDevAt n0 w B sv l) (hn0:n0≤w.heap.size) (o:Op0) (ok:o.Ok) (ao:Option Addr) (cap:Nat) (hn:o.data.length≤1000000) (hd:DevOk (mapA (·.1) l)) (hll:l.length≤1000000) (b:Int) (hr:refD (mapA (·.1) l) o=0) (hk:o.k=7) :
  Calls Tryz.prog 19 #[.pointer (some ⟨B,0,none⟩),.agg (oC o (.slice ao o.data.length cap)),.int .i64 b] w fun e w'=>RPartP n0 w B sv (stepD (mapA (·.1) l) o b) e w':=by
 have HH:=hid h;have HN0:=hid hn0;have HLL:=hid hll;have hris:Ris l:=(ris_map (fun x:Vl × Value=>x.1)).1 hd.ris;have hok:∀ p∈l,p.2.1.Ok:=fun p hp=>hd.vol (p.1,p.2.1) (List.mem_map.2 ⟨p,hp,rfl⟩);have HRIS:=hid hris;have HDO:=hid hd;have HOKV:=hid hok;have HREF:=hid hr;have HKK:=hid hk;have HOK:=hid ok;have HDL:=hid hn;have HMAY:=hid (ref0_may hr);obtain ⟨sl,hsl⟩:∃ s,Value.slice ao o.data.length cap=s:=⟨_,rfl⟩
 have HSLE:=hid hsl;obtain ⟨fi,hfi⟩:∃ i,findI o.vol l=i:=⟨_,rfl⟩
 have HFI:=hid hfi;have CM:Hid (∀ X,RDevAt n0 X B sv l→Calls Tryz.prog 48 #[.pointer (some ⟨B,0,none⟩),.agg (oC o sl)] X fun e w'=>e = .returned (.int .i64 0)∧Below X.heap.size X w'):=hid (fun X hX=>by rw [← hsl,← hr];exact rrefused_any n0 X B sv l hX o ok ao cap hn (fun p hp=>(hok p hp).size));have CF:Hid (∀ X,RDevAt n0 X B sv l→Calls Tryz.prog 22 #[.pointer (some ⟨B,0,none⟩),.int .u64 (o.vol:Int)] X fun e w'=>e = .returned (.int .i64 fi)∧X=w'):=hid (fun X hX=>by rw [← hfi];exact rfind_any n0 X B sv l hX o.vol);rw [hsl]
 clear hsl hfi h hn0 hll hris hok hd hr hk ok hn;obtain ⟨w2,hw2⟩:∃ W,(w.alloc (.cells #[.int .i64 o.k,.int .u64 (o.vol:Int),.int .u64 (o.to:Int),.int .i64 o.size,.int .i64 o.pl,.int .i64 o.count,sl] 40)).alloc (.cells #[.int .i64 0,.int .i64 0,.slice none 0 0] 35)=W:=⟨_,rfl⟩
 have HBX:Hid (Boxes w w2 (oC o sl)):=hid (by rw [← hw2];exact boxes w (oC o sl));have HD2:=hid (HH.out.below HBX.out.bel);have HX2:=hid HBX.out.op;rw [show (oC o sl)=#[.int .i64 o.k,.int .u64 (o.vol:Int),.int .u64 (o.to:Int),.int .i64 o.size,.int .i64 o.pl,.int .i64 o.count,sl] from rfl]
 go_enter Tryz.func19,Tryz.ntmps19
 go_upto_region 1 with fail
 (try rw [hw2])
 clear hw2;obtain ⟨c0,c1,c2,c3,c4,c5,c6⟩:=op7 HX2.out;go_wp2_with fail;refine (CM.out w2 HD2.out).mono ?_;rintro e w3 ⟨rfl,hb3⟩;have HB3:=hid (bthen HBX.out.bel hb3);have HD3:=hid (HD2.out.below hb3);have HX3:=hid ((hb3.block w.heap.size (hLT HX2.out)).trans HX2.out);have HA3:=hid ((hb3.block (w.heap.size+1) (hLT HBX.out.ans)).trans HBX.out.ans);clear c0 c1 c2 c3 c4 c5 c6 hb3;obtain ⟨q8,hq8⟩:∃ k,w3.heap.size=k:=⟨_,rfl⟩
 go_upto_region 5 with fail
 obtain ⟨w4,hw4⟩:∃ W,w3.alloc (.cells #[.int .i64 0,.int .i64 0,.slice none 0 0] 35)=W:=⟨_,rfl⟩
 have hb4:Below w3.heap.size w3 w4:=by rw [← hw4];exact balloc (Below.refl _ _) _
 have HA8:Hid (w4.heap[q8]? = some (.cells #[.int .i64 0,.int .i64 0,.slice none 0 0] 35 (0,0))):=hid (by rw [← hw4,← hq8];exact heap_alloc_new _ _);have HQ8:Hid (w.heap.size+2≤q8):=hid (by have:=HB3.out.size;have h1:=(hLT HA3.out);omega);have HB4:=hid (bthen HB3.out hb4);have HD4:=hid (HD3.out.below hb4);have HX4:=hid ((hb4.block w.heap.size (hLT HX3.out)).trans HX3.out);have HA4:=hid ((hb4.block (w.heap.size+1) (hLT HA3.out)).trans HA3.out);rw [hw4];clear hw4 hq8 hb4;obtain ⟨c0,c1,c2,c3,c4,c5,c6⟩:=op7 HX4.out;go_wp2_with fail
 refine (CF.out w4 HD4.out).mono ?_;rintro e w5 ⟨rfl,rfl⟩;have HN4:Hid (n0≤w4.heap.size):=hid (Nat.le_trans HN0.out HB4.out.size);clear CM CF;have hvx:∃ (i:Nat) (a:Vl × Value),fi=(i:Int)∧l[i]? = some (o.vol,a):=by
  rw [← HFI.out]
  rcases find_case o.vol l with ⟨i,a,h1,h2,h3⟩ | ⟨h1,h2⟩
  ·exact ⟨i,a,h1,h2⟩
  ·obtain ⟨v,hv⟩:=ref0_vol HREF.out (by rw [HKK.out];decide) (by rw [HKK.out];decide)
   rw [getA_map,h2] at hv
   cases hv
 obtain ⟨i,a,rfl,hi⟩:=hvx;have HI:=hid hi;have HVO:=hid (HOKV.out _ (List.mem_of_getElem? hi));have HGV:Hid (getA o.vol (mapA (·.1) l)=some a.1):=hid (getA_at HDO.out.ris (mapA_get _ hi));obtain ⟨g,cap2,rfl,hc1,hc2,e0,e1,e2⟩:=HD4.out.at_ HI.out;have HE1:=hid e1;have HE2:=hid e2;have hbc:=HD4.out.cell;have hln:i<l.length:=(List.getElem?_eq_some_iff.1 hi).1;have hlb:=HLL.out;have HVA:=hid (HD4.out.vol HI.out);have HFZ:=hid HD4.out.frz;obtain ⟨n,hn⟩:∃ n,l.length=n:=⟨_,rfl⟩
 have HN:=hid hn;rw [hn] at HH HD4 hbc hln hlb hc1;clear hn hi e0 e1 e2;have g1:(o.k == 1)=false:=by simp [HKK.out]
 have g2:(o.k == 2)=false:=by simp [HKK.out]
 have g3:(o.k == 3)=false:=by simp [HKK.out]
 have g4:(o.k == 4)=false:=by simp [HKK.out]
 have g5:(o.k == 5)=false:=by simp [HKK.out]
 have g6:(o.k == 6)=false:=by simp [HKK.out]
 have g7:(o.k == 7)=true:=by simp [HKK.out]
 obtain ⟨hp1,hp2⟩:=may_pl HMAY.out (by rw [HKK.out];decide);obtain ⟨hq1,hq2⟩:=may_count HMAY.out (by rw [HKK.out];decide);have hwr:IntKind.i64.wrap (o.pl+o.count)=o.pl+o.count:=IntWalk.i64_in _ (by omega);have HFZ2:=hid (HFZ.out (i * 3+2));have HNG:Hid (g≠B∧g<w4.heap.size∧w.heap.size≠g):=hid (by
  obtain ⟨cs,h1,h2,h3⟩:=HD4.out.gblk;refine ⟨h3,(hLT h1),fun e => ?_⟩;rw [← e,HX4.out] at h1;exact absurd (Obj.cells.inj (Option.some.inj h1)).2.1 (by decide))
 go_wp2_with fail;have HSS:Hid (∀ X,Mods [g] w4 X→(X.cell? ⟨B,0,none⟩=some (.slice (some ⟨g,0,none⟩) n cap2)∧X.cell? ⟨w.heap.size,4,none⟩=some (.int .i64 o.pl)∧X.cell? ⟨w.heap.size,5,none⟩=some (.int .i64 o.count))∧Mods [g] w4 X):=hid (fun X hb=>⟨⟨(World.cell?_of_block (hb.block _ (HD4.out.lt) ((by have:=HNG.out.1;simp;omega)))).trans (hbc),(World.cell?_of_block (hb.block _ ((hLT HX4.out)) ((by have:=HNG.out.2.2;simp;omega)))).trans (c4),(World.cell?_of_block (hb.block _ ((hLT HX4.out)) ((by have:=HNG.out.2.2;simp;omega)))).trans (c5)⟩,hb⟩)
 refine wp_region_held_drew (S:=fun X=>(X.cell? ⟨B,0,none⟩=some (.slice (some ⟨g,0,none⟩) n cap2)∧X.cell? ⟨w.heap.size,4,none⟩=some (.int .i64 o.pl)∧X.cell? ⟨w.heap.size,5,none⟩=some (.int .i64 o.count))∧Mods [g] w4 X) (by kernel_rfl) (HSS.out _ (Mods.of_below (Below.refl _ _).drew)) (fun hHeld => ?_);have hbe:Below w4.heap.size w4 w4.drew:=(Below.refl _ _).drew;obtain ⟨wd,hwd⟩:∃ y,w4.drew=y:=⟨_,rfl⟩
 rw [hwd] at hHeld hbe ⊢;have HBE:=hid hbe;have HS0:Hid (w4.heap.size≤wd.heap.size):=hid HBE.out.size;clear hwd hbe;refine tkP 0 rfl ?_;refine tkP 4 rfl ?_;refine tkP 6 rfl ?_;refine tkP 8 rfl ?_;refine tkP 10 rfl ?_;refine tkP 1 rfl ?_;refine tkP 7 rfl ?_;refine tkP 9 rfl ?_;refine tkP 11 rfl ?_;refine tkP 2 rfl ?_;refine tkP 12 rfl ?_;refine tkP 3 rfl ?_;refine tkP 5 rfl ?_;refine rd1 13 rfl fun K hK => ?_;simp only [gE1,gE2,gE3];go_simp
 refine (rdrop_any n0 wd g (i * 3) a.2 a.1.m (HVA.out.below HBE.out) ((HBE.out.frozen (p:=⟨g,i * 3+2,none⟩) HNG.out.2.1).trans HFZ2.out) HVO.out.blk (Nat.le_trans HVO.out.len (by decide)) o.pl (o.pl+o.count)).mono ?_;rintro e w6 ⟨rfl,hq6⟩;dsimp only;refine hK.out _ _ ?_ (fun hHeld => ?_)
 ·exact HSS.out _ (RSt.mods HBE.out hq6)
 clear hK K;try simp only [Act.put,pE1,pE2,pE3]
 have HQ6:=hid (RSt.pre HBE.out hq6);clear hq6;refine wpAnyH_done (by kernel_rfl) ?_ _;have HEND:=hid hHeld.2;have HSE:=hid hHeld.1;clear hHeld;clear HSE HSS HEND c0 c1 c2 c3 c4 c5 c6 hbc hwr;obtain ⟨v6,hd6,hm6⟩:=HD4.out.rst HI.out HQ6.out HN4.out;have HD6:=hid hd6;have HST:Hid (stepD (mapA (·.1) l) o b=(⟨0,0,[]⟩,mapA (·.1) (l.set i (o.vol,(⟨a.1.size,dropA o.pl (o.pl+o.count) a.1.m⟩,v6))))):=hid (by
  unfold stepD;rw [if_neg (by rw [HREF.out];simp),if_neg (by rw [HKK.out];decide),if_neg (by rw [HKK.out];decide),HGV.out,mapA_set,putA_set HDO.out.ris (mapA_get _ HI.out)];dsimp only;rw [if_neg (by rw [HKK.out];decide),if_neg (by rw [HKK.out];decide),if_neg (by rw [HKK.out];decide),if_pos HKK.out])
 have HM5:=hid (Mods.refl [g] w4);have hm46:=HM5.out.trans hm6 (fun k hk=>.inl hk);have HC6:Hid (Chg (B :: ob (.slice (some ⟨g,0,none⟩) n cap2)) w w6 (B :: ob (.slice (some ⟨g,0,none⟩) n cap2))):=hid ⟨(Mods.of_below HB4.out).trans (hm46.mono (G:=B :: ob (.slice (some ⟨g,0,none⟩) n cap2)) (by simp [ob_some])) (fun k hk=>.inl hk),fun k hk=>.inl hk⟩;have HNA:Hid (w.heap.size+1≠g∧q8≠g):=hid (by
  obtain ⟨cs,h1,h2,h3⟩:=HD4.out.gblk;refine ⟨fun e => ?_,fun e => ?_⟩
  ·rw [← e,HA4.out] at h1
   exact absurd (Obj.cells.inj (Option.some.inj h1)).2.1 (by decide)
  ·rw [← e,HA8.out] at h1
   exact absurd (Obj.cells.inj (Option.some.inj h1)).2.1 (by decide))
 have HA6:=hid ((hm46.block (w.heap.size+1) (hLT HA4.out) (by have:=HNA.out.1;simp;omega)).trans HA4.out);have HA9:=hid ((hm46.block q8 (hLT HA8.out) (by have:=HNA.out.2;simp;omega)).trans HA8.out);clear hd6 hm6 hm46;have hf0:=frozenOf HA6.out 0;have hf1:=frozenOf HA6.out 1;have hf2:=frozenOf HA6.out 2;have d0:=cellOf HA6.out 0 rfl;have d1:=cellOf HA6.out 1 rfl;have d2:=cellOf HA6.out 2 rfl;have e0:=cellOf HA9.out 0 rfl;have e1:=cellOf HA9.out 1 rfl;have e2:=cellOf HA9.out 2 rfl;go_wp2_with fail
 obtain ⟨hx4,hm4⟩:=set3 (x:=.int .i64 0) (y:=.int .i64 0) (z:=.slice none 0 0) HA6.out;refine bodyPost_ret (v:=ansE 0 0) (resAns rfl _ _ _ _ _ _ rfl hx4) rfl ?_;rw [HST.out];exact RPartP.end_ HD6.out HC6.out HA6.out hm4 rfl (World.ownsRow_nil _ _ _ _)
end Go.Proofs.YthkmihedkddnmaaGreat
namespace Go.Proofs.YthkmihedkddnmaaGreat
open Lib (hid)
open Go.RowKit Wire Cmd
theorem rcreate_any (n0:Nat) (w:World) (B:Nat) (sv:Value) (l:List (Nat × (Vl × Value))) (h:RDevAt n0 w B sv l) (hn0:n0≤w.heap.size) (o:Op0) (ok:o.Ok) (ao:Option Addr) (cap:Nat) (hn:o.data.length≤1000000) (hd:DevOk (mapA (·.1) l)) (hll:l.length≤1000000) (b:Int) (hr:refD (mapA (·.1) l) o=0) (hk:o.k=1) :
  Calls Tryz.prog 19 #[.pointer (some ⟨B,0,none⟩),.agg (oC o (.slice ao o.data.length cap)),.int .i64 b] w fun e w'=>RPartP n0 w B sv (stepD (mapA (·.1) l) o b) e w':=by
 have HH:=hid h;have HN0:=hid hn0;have HLL:=hid hll;have hris:Ris l:=(ris_map (fun x:Vl × Value=>x.1)).1 hd.ris;have hok:∀ p∈l,p.2.1.Ok:=fun p hp=>hd.vol (p.1,p.2.1) (List.mem_map.2 ⟨p,hp,rfl⟩);have HRIS:=hid hris;have HDO:=hid hd;have HOKV:=hid hok;have HREF:=hid hr;have HKK:=hid hk;have HOK:=hid ok;have HDL:=hid hn;have HMAY:=hid (ref0_may hr);obtain ⟨sl,hsl⟩:∃ s,Value.slice ao o.data.length cap=s:=⟨_,rfl⟩
 have HSLE:=hid hsl;obtain ⟨fi,hfi⟩:∃ i,findI o.vol l=i:=⟨_,rfl⟩
 have HFI:=hid hfi;have CM:Hid (∀ X,RDevAt n0 X B sv l→Calls Tryz.prog 48 #[.pointer (some ⟨B,0,none⟩),.agg (oC o sl)] X fun e w'=>e = .returned (.int .i64 0)∧Below X.heap.size X w'):=hid (fun X hX=>by rw [← hsl,← hr];exact rrefused_any n0 X B sv l hX o ok ao cap hn (fun p hp=>(hok p hp).size));have CF:Hid (∀ X,RDevAt n0 X B sv l→Calls Tryz.prog 22 #[.pointer (some ⟨B,0,none⟩),.int .u64 (o.vol:Int)] X fun e w'=>e = .returned (.int .i64 fi)∧X=w'):=hid (fun X hX=>by rw [← hfi];exact rfind_any n0 X B sv l hX o.vol);rw [hsl]
 clear hsl hfi h hn0 hll hris hok hd hr hk ok hn;obtain ⟨w2,hw2⟩:∃ W,(w.alloc (.cells #[.int .i64 o.k,.int .u64 (o.vol:Int),.int .u64 (o.to:Int),.int .i64 o.size,.int .i64 o.pl,.int .i64 o.count,sl] 40)).alloc (.cells #[.int .i64 0,.int .i64 0,.slice none 0 0] 35)=W:=⟨_,rfl⟩
 have HBX:Hid (Boxes w w2 (oC o sl)):=hid (by rw [← hw2];exact boxes w (oC o sl));have HD2:=hid (HH.out.below HBX.out.bel);have HX2:=hid HBX.out.op;rw [show (oC o sl)=#[.int .i64 o.k,.int .u64 (o.vol:Int),.int .u64 (o.to:Int),.int .i64 o.size,.int .i64 o.pl,.int .i64 o.count,sl] from rfl]
 go_enter Tryz.func19,Tryz.ntmps19
 go_upto_region 1 with fail
 (try rw [hw2])
 clear hw2;obtain ⟨c0,c1,c2,c3,c4,c5,c6⟩:=op7 HX2.out;go_wp2_with fail;refine (CM.out w2 HD2.out).mono ?_;rintro e w3 ⟨rfl,hb3⟩;have HB3:=hid (bthen HBX.out.bel hb3);have HD3:=hid (HD2.out.below hb3);have HX3:=hid ((hb3.block w.heap.size (hLT HX2.out)).trans HX2.out);have HA3:=hid ((hb3.block (w.heap.size+1) (hLT HBX.out.ans)).trans HBX.out.ans);clear c0 c1 c2 c3 c4 c5 c6 hb3;obtain ⟨q8,hq8⟩:∃ k,w3.heap.size=k:=⟨_,rfl⟩
 go_upto_region 5 with fail
 obtain ⟨w4,hw4⟩:∃ W,w3.alloc (.cells #[.int .i64 0,.int .i64 0,.slice none 0 0] 35)=W:=⟨_,rfl⟩
 have hb4:Below w3.heap.size w3 w4:=by rw [← hw4];exact balloc (Below.refl _ _) _
 have HA8:Hid (w4.heap[q8]? = some (.cells #[.int .i64 0,.int .i64 0,.slice none 0 0] 35 (0,0))):=hid (by rw [← hw4,← hq8];exact heap_alloc_new _ _);have HQ8:Hid (w.heap.size+2≤q8):=hid (by have:=HB3.out.size;have h1:=(hLT HA3.out);omega);have HB4:=hid (bthen HB3.out hb4);have HD4:=hid (HD3.out.below hb4);have HX4:=hid ((hb4.block w.heap.size (hLT HX3.out)).trans HX3.out);have HA4:=hid ((hb4.block (w.heap.size+1) (hLT HA3.out)).trans HA3.out);rw [hw4];clear hw4 hq8 hb4;obtain ⟨c0,c1,c2,c3,c4,c5,c6⟩:=op7 HX4.out;go_wp2_with fail
 refine (CF.out w4 HD4.out).mono ?_;rintro e w5 ⟨rfl,rfl⟩;have HN4:Hid (n0≤w4.heap.size):=hid (Nat.le_trans HN0.out HB4.out.size);clear CM CF;have g1:(o.k == 1)=true:=by simp [HKK.out]
 have hsz0:((o.size.toNat:Nat):Int)=o.size:=by have:=(may_size HMAY.out (.inl HKK.out)).1;omega
 have HST:Hid (stepD (mapA (·.1) l) o b=(⟨0,0,[]⟩,mapA (·.1) (putA o.vol (⟨o.size.toNat,[]⟩,.slice none 0 0) l))):=hid (by unfold stepD;rw [if_neg (by rw [HREF.out];simp),if_pos HKK.out];exact congrArg (Prod.mk _) (putA_map (fun x:Vl × Value=>x.1) o.vol (⟨o.size.toNat,[]⟩,.slice none 0 0) l));have CA:=radd_any n0 w4 B sv l HD4.out HN4.out o.vol o.size.toNat [] (.slice none 0 0) (World.ownsRow_nil _ _ _ _) HLL.out (getA_mapN (ref0_new HREF.out HKK.out)) HRIS.out;rw [hsz0] at CA;clear hsz0;go_wp2_with fail;refine CA.mono ?_;rintro e w6 ⟨rfl,hq⟩
 obtain ⟨sv6,hd6,hc6,hm6⟩:=hq.chg (sv:=sv) HB4.out;have HD6:=hid hd6;have HC6:=hid hc6;have HA6:=hid ((hm6.block (w.heap.size+1) (hLT HA4.out) (by have:=HH.out.lt;simp;omega)).trans HA4.out);have HA9:=hid ((hm6.block q8 (hLT HA8.out) (by have:=HH.out.lt;have:=HQ8.out;simp;omega)).trans HA8.out);clear CA hd6 hc6 hm6 hq c0 c1 c2 c3 c4 c5 c6;have hf0:=frozenOf HA6.out 0;have hf1:=frozenOf HA6.out 1;have hf2:=frozenOf HA6.out 2;have d0:=cellOf HA6.out 0 rfl;have d1:=cellOf HA6.out 1 rfl;have d2:=cellOf HA6.out 2 rfl;have e0:=cellOf HA9.out 0 rfl
 have e1:=cellOf HA9.out 1 rfl;have e2:=cellOf HA9.out 2 rfl;go_wp2_with fail;obtain ⟨hx4,hm4⟩:=set3 (x:=.int .i64 0) (y:=.int .i64 0) (z:=.slice none 0 0) HA6.out;refine bodyPost_ret (v:=ansE 0 0) (resAns rfl _ _ _ _ _ _ rfl hx4) rfl ?_;rw [HST.out];exact RPartP.end_ HD6.out HC6.out HA6.out hm4 rfl (World.ownsRow_nil _ _ _ _)
theorem rflush_any (n0:Nat) (w:World) (B:Nat) (sv:Value) (l:List (Nat × (Vl × Value))) (h:RDevAt n0 w B sv l) (hn0:n0≤w.heap.size) (o:Op0) (ok:o.Ok) (ao:Option Addr) (cap:Nat) (hn:o.data.length≤1000000) (hd:DevOk (mapA (·.1) l)) (hll:l.length≤1000000) (b:Int) (hr:refD (mapA (·.1) l) o=0) (hk:o.k=8) :
  Calls Tryz.prog 19 #[.pointer (some ⟨B,0,none⟩),.agg (oC o (.slice ao o.data.length cap)),.int .i64 b] w fun e w'=>RPartP n0 w B sv (stepD (mapA (·.1) l) o b) e w':=by
 have HH:=hid h;have HN0:=hid hn0;have HLL:=hid hll;have hris:Ris l:=(ris_map (fun x:Vl × Value=>x.1)).1 hd.ris;have hok:∀ p∈l,p.2.1.Ok:=fun p hp=>hd.vol (p.1,p.2.1) (List.mem_map.2 ⟨p,hp,rfl⟩);have HRIS:=hid hris;have HDO:=hid hd;have HOKV:=hid hok;have HREF:=hid hr;have HKK:=hid hk;have HOK:=hid ok;have HDL:=hid hn;have HMAY:=hid (ref0_may hr);obtain ⟨sl,hsl⟩:∃ s,Value.slice ao o.data.length cap=s:=⟨_,rfl⟩
 have HSLE:=hid hsl;obtain ⟨fi,hfi⟩:∃ i,findI o.vol l=i:=⟨_,rfl⟩
 have HFI:=hid hfi;have CM:Hid (∀ X,RDevAt n0 X B sv l→Calls Tryz.prog 48 #[.pointer (some ⟨B,0,none⟩),.agg (oC o sl)] X fun e w'=>e = .returned (.int .i64 0)∧Below X.heap.size X w'):=hid (fun X hX=>by rw [← hsl,← hr];exact rrefused_any n0 X B sv l hX o ok ao cap hn (fun p hp=>(hok p hp).size));have CF:Hid (∀ X,RDevAt n0 X B sv l→Calls Tryz.prog 22 #[.pointer (some ⟨B,0,none⟩),.int .u64 (o.vol:Int)] X fun e w'=>e = .returned (.int .i64 fi)∧X=w'):=hid (fun X hX=>by rw [← hfi];exact rfind_any n0 X B sv l hX o.vol);rw [hsl]
 clear hsl hfi h hn0 hll hris hok hd hr hk ok hn;obtain ⟨w2,hw2⟩:∃ W,(w.alloc (.cells #[.int .i64 o.k,.int .u64 (o.vol:Int),.int .u64 (o.to:Int),.int .i64 o.size,.int .i64 o.pl,.int .i64 o.count,sl] 40)).alloc (.cells #[.int .i64 0,.int .i64 0,.slice none 0 0] 35)=W:=⟨_,rfl⟩
 have HBX:Hid (Boxes w w2 (oC o sl)):=hid (by rw [← hw2];exact boxes w (oC o sl));have HD2:=hid (HH.out.below HBX.out.bel);have HX2:=hid HBX.out.op;rw [show (oC o sl)=#[.int .i64 o.k,.int .u64 (o.vol:Int),.int .u64 (o.to:Int),.int .i64 o.size,.int .i64 o.pl,.int .i64 o.count,sl] from rfl]
 go_enter Tryz.func19,Tryz.ntmps19
 go_upto_region 1 with fail
 (try rw [hw2])
 clear hw2;obtain ⟨c0,c1,c2,c3,c4,c5,c6⟩:=op7 HX2.out;go_wp2_with fail;refine (CM.out w2 HD2.out).mono ?_;rintro e w3 ⟨rfl,hb3⟩;have HB3:=hid (bthen HBX.out.bel hb3);have HD3:=hid (HD2.out.below hb3);have HX3:=hid ((hb3.block w.heap.size (hLT HX2.out)).trans HX2.out);have HA3:=hid ((hb3.block (w.heap.size+1) (hLT HBX.out.ans)).trans HBX.out.ans);clear c0 c1 c2 c3 c4 c5 c6 hb3;obtain ⟨q8,hq8⟩:∃ k,w3.heap.size=k:=⟨_,rfl⟩
 go_upto_region 5 with fail
 obtain ⟨w4,hw4⟩:∃ W,w3.alloc (.cells #[.int .i64 0,.int .i64 0,.slice none 0 0] 35)=W:=⟨_,rfl⟩
 have hb4:Below w3.heap.size w3 w4:=by rw [← hw4];exact balloc (Below.refl _ _) _
 have HA8:Hid (w4.heap[q8]? = some (.cells #[.int .i64 0,.int .i64 0,.slice none 0 0] 35 (0,0))):=hid (by rw [← hw4,← hq8];exact heap_alloc_new _ _);have HQ8:Hid (w.heap.size+2≤q8):=hid (by have:=HB3.out.size;have h1:=(hLT HA3.out);omega);have HB4:=hid (bthen HB3.out hb4);have HD4:=hid (HD3.out.below hb4);have HX4:=hid ((hb4.block w.heap.size (hLT HX3.out)).trans HX3.out);have HA4:=hid ((hb4.block (w.heap.size+1) (hLT HA3.out)).trans HA3.out);rw [hw4];clear hw4 hq8 hb4;obtain ⟨c0,c1,c2,c3,c4,c5,c6⟩:=op7 HX4.out;go_wp2_with fail
 refine (CF.out w4 HD4.out).mono ?_;rintro e w5 ⟨rfl,rfl⟩;have HN4:Hid (n0≤w4.heap.size):=hid (Nat.le_trans HN0.out HB4.out.size);clear CM CF;have g1:(o.k == 1)=false:=by simp [HKK.out]
 have g2:(o.k == 2)=false:=by simp [HKK.out]
 have g3:(o.k == 3)=false:=by simp [HKK.out]
 have g4:(o.k == 4)=false:=by simp [HKK.out]
 have g5:(o.k == 5)=false:=by simp [HKK.out]
 have g6:(o.k == 6)=false:=by simp [HKK.out]
 have g7:(o.k == 7)=false:=by simp [HKK.out]
 have g9:(o.k == 9)=false:=by simp [HKK.out]
 have HST:Hid (stepD (mapA (·.1) l) o b=(⟨0,0,[]⟩,mapA (·.1) l)):=hid (by
  unfold stepD;rw [if_neg (by rw [HREF.out];simp),if_neg (by rw [HKK.out];decide),if_neg (by rw [HKK.out];decide)]
  cases getA o.vol (mapA (·.1) l) with
  | none=>rfl
  | some v=>dsimp only;simp [HKK.out])
 have HD6:=HD4;have HC6:Hid (Chg (B :: ob sv) w w4 (B :: ob sv)):=hid (Chg.of_below HB4.out);have HA6:=HA4;have HA9:=HA8;clear c1 c2 c3 c4 c5 c6;have hf0:=frozenOf HA6.out 0;have hf1:=frozenOf HA6.out 1;have hf2:=frozenOf HA6.out 2;have d0:=cellOf HA6.out 0 rfl;have d1:=cellOf HA6.out 1 rfl;have d2:=cellOf HA6.out 2 rfl;have e0:=cellOf HA9.out 0 rfl;have e1:=cellOf HA9.out 1 rfl;have e2:=cellOf HA9.out 2 rfl;go_wp2_with fail;obtain ⟨hx4,hm4⟩:=set3 (x:=.int .i64 0) (y:=.int .i64 0) (z:=.slice none 0 0) HA6.out
 refine bodyPost_ret (v:=ansE 0 0) (resAns rfl _ _ _ _ _ _ rfl hx4) rfl ?_;rw [HST.out];exact RPartP.end_ HD6.out HC6.out HA6.out hm4 rfl (World.ownsRow_nil _ _ _ _)
end Go.Proofs.YthkmihedkddnmaaGreat
namespace Go.Proofs.YthkmihedkddnmaaGreat
open Go.RowKit Wire Cmd
theorem rpart_any (n0:Nat) (w:World) (B:Nat) (sv:Value) (l:List (Nat × (Vl × Value))) (h:RDevAt n0 w B sv l) (hn0:n0≤w.heap.size) (o:Op0) (ok:o.Ok) (ao:Option Addr) (cap:Nat) (hn:o.data.length≤1000000) (hd:DevOk (mapA (·.1) l)) (hll:l.length≤1000000) (b:Int)
  (hdt:Rd w 1 (.slice ao o.data.length cap) o.data.length (bV o.data)) :
  Calls Tryz.prog 19 #[.pointer (some ⟨B,0,none⟩),.agg (oC o (.slice ao o.data.length cap)),.int .i64 b] w fun e w'=>RPartP n0 w B sv (stepD (mapA (·.1) l) o b) e w':=by
 by_cases hr:refD (mapA (·.1) l) o=0
 ·have hk:=may_kind (ref0_may hr)
  by_cases h1:o.k=1
  ·exact rcreate_any n0 w B sv l h hn0 o ok ao cap hn hd hll b hr h1
  by_cases h2:o.k=2
  ·exact rdelete_any n0 w B sv l h hn0 o ok ao cap hn hd hll b hr h2
  by_cases h3:o.k=3
  ·exact rresize_any n0 w B sv l h hn0 o ok ao cap hn hd hll b hr h3
  by_cases h4:o.k=4
  ·exact rsnap_any n0 w B sv l h hn0 o ok ao cap hn hd hll b hr h4
  by_cases h5:o.k=5
  ·exact rwrite_any n0 w B sv l h hn0 o ok ao cap hn hd hll b hr h5 hdt
  by_cases h6:o.k=6
  ·exact rzero_any n0 w B sv l h hn0 o ok ao cap hn hd hll b hr h6
  by_cases h7:o.k=7
  ·exact rdiscard_any n0 w B sv l h hn0 o ok ao cap hn hd hll b hr h7
  by_cases h8:o.k=8
  ·exact rflush_any n0 w B sv l h hn0 o ok ao cap hn hd hll b hr h8
  ·exact rread_any n0 w B sv l h hn0 o ok ao cap hn hd hll b hr (by omega)
 ·exact rref_any n0 w B sv l h hn0 o ok ao cap hn hd hll b hr trivial
end Go.Proofs.YthkmihedkddnmaaGreat
namespace Go.Proofs.YthkmihedkddnmaaGreat
open Lib (hid)
open Go.RowKit Go.Maps Wire Cmd
theorem rdo_any (n0:Nat) (w:World) (B:Nat) (sv:Value) (l:List (Nat × (Vl × Value))) (h:RDevAt n0 w B sv l) (hn0:n0≤w.heap.size) (o:Op0) (ok:o.Ok) (ao:Option Addr) (cap:Nat) (hn:o.data.length≤1000000) (hdo:DevOk (mapA (·.1) l)) (hll:l.length≤1000000)
  (hd:Rd w 1 (.slice ao o.data.length cap) o.data.length (bV o.data)) :
  Calls Tryz.prog 13 #[.pointer (some ⟨B,0,none⟩),.agg (oC o (.slice ao o.data.length cap))] w fun e w'=>RPartP n0 w B sv (stepD (mapA (·.1) l) o 1073741824) e w':=by
 have HH:=hid h;have CO:Hid (∀ X,Below w.heap.size w X→Calls Tryz.prog 19 #[.pointer (some ⟨B,0,none⟩),.agg (oC o (.slice ao o.data.length cap)),.int .i64 1073741824] X fun e w'=>RPartP n0 X B sv (stepD (mapA (·.1) l) o 1073741824) e w'):=hid (fun X hX=>rpart_any n0 X B sv l (h.below hX) (Nat.le_trans hn0 hX.size) o ok ao cap hn hdo hll 1073741824 (hd.below hX));obtain ⟨sl,hsl⟩:∃ s,Value.slice ao o.data.length cap=s:=⟨_,rfl⟩
 rw [hsl] at CO ⊢;clear hsl h hd hn hdo hll hn0 ok;obtain ⟨w2,hw2⟩:∃ W,(w.alloc (.cells #[.int .i64 o.k,.int .u64 (o.vol:Int),.int .u64 (o.to:Int),.int .i64 o.size,.int .i64 o.pl,.int .i64 o.count,sl] 40)).alloc (.cells #[.int .i64 0,.int .i64 0,.slice none 0 0] 35)=W:=⟨_,rfl⟩
 have HBX:Hid (Boxes w w2 (oC o sl)):=hid (by rw [← hw2];exact boxes w (oC o sl));obtain ⟨c0,c1,c2,c3,c4,c5,c6⟩:=op7 HBX.out.op;rw [show (oC o sl)=#[.int .i64 o.k,.int .u64 (o.vol:Int),.int .u64 (o.to:Int),.int .i64 o.size,.int .i64 o.pl,.int .i64 o.count,sl] from rfl]
 go_enter Tryz.func13,Tryz.ntmps13
 go_wp2_with fail;refine (CO.out _ HBX.out.bel).mono ?_;rintro e w9 ⟨asv,sv',l',rfl,hd9,hs9,ho9,hc9⟩;unfold ansV;dsimp only;clear c0 c1 c2 c3 c4 c5 c6 hw2;have HD9:=hid hd9;have HS9:=hid hs9;have HO9:=hid ho9;have HC9:=hid hc9;have HB8:=hid HBX.out.bel;have hxa:=(hc9.1.block _ (hLT HBX.out.ans) (fun hh=>by
  rcases List.mem_cons.1 hh with e | hh
  ·have:=HH.out.lt;omega
  ·have:=ownsRow_lt HH.out.row _ hh;omega)).trans HBX.out.ans
 obtain ⟨sa,cs,hsv,_⟩:=Rd.of_own ho9;subst hsv;have HEQ:Hid (stepD (mapA (·.1) l) o 1073741824=((stepD (mapA (·.1) l) o 1073741824).1,(stepD (mapA (·.1) l) o 1073741824).2)):=hid rfl;obtain ⟨aa,haa⟩:∃ a,(stepD (mapA (·.1) l) o 1073741824).1=a:=⟨_,rfl⟩
 obtain ⟨l2,hl2⟩:∃ l2,(stepD (mapA (·.1) l) o 1073741824).2=l2:=⟨_,rfl⟩
 rw [haa] at HO9 ⊢;rw [haa,hl2] at HEQ;rw [hl2] at HS9;clear hd9 hs9 ho9 hc9 haa hl2;have HXA:=hid hxa;have e0:=cellOf hxa 0 (v:=.int .i64 0) rfl;have e1:=cellOf hxa 1 (v:=.int .i64 0) rfl;have e2:=cellOf hxa 2 (v:=.slice none 0 0) rfl;have f0:=frozenOf hxa 0;have f1:=frozenOf hxa 1;have f2:=frozenOf hxa 2;clear hxa;obtain ⟨nd,hnd⟩:∃ n,aa.data.length=n:=⟨_,rfl⟩
 have HND:=hid hnd;rw [hnd] at HO9 ⊢;clear hnd;go_wp2_with fail;clear e0 e1 e2 f0 f1 f2;obtain ⟨hx4,hm4⟩:=set3 (x:=.int .i64 aa.code) (y:=.int .i64 aa.done) (z:=.slice sa nd cs) HXA.out;refine bodyPost_ret (v:=ansV aa (.slice sa nd cs)) (resAns rfl _ _ _ _ _ _ rfl hx4) rfl ?_;rw [HEQ.out];have hw8:w2.heap.size=w.heap.size+2:=HBX.out.sz;refine ⟨_,sv',l',rfl,HD9.out.tagged HXA.out (by decide) (by decide) (by decide) hm4,HS9.out,?_,?_⟩
 ·dsimp only
  rw [HND.out];refine ownsRow_base (ownsRow_at HO9.out (fun k hk=>hm4.block k (ownsRow_lt HO9.out k hk) (fun hh => ?_))) (by omega);have e:k=w.heap.size+1:=by simpa using hh
  have:=ownsRow_ge HO9.out k hk;omega
 ·exact ⟨((Mods.of_below HB8.out).trans HC9.out.1 (fun i hi=>.inl hi)).trans hm4 (fun i hi=>.inr (by have e:=List.mem_singleton.1 hi;omega)),fun k hk=>(HC9.out.2 k hk).imp id (fun h=>by omega)⟩
end Go.Proofs.YthkmihedkddnmaaGreat
