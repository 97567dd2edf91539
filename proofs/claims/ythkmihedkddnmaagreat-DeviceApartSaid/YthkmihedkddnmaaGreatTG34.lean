import Derived.Test.YthkmihedkddnmaaGreatTG2
import Derived.Test.YthkmihedkddnmaaGreatTG19
import Derived.Test.YthkmihedkddnmaaGreatTG28
set_option linter.unusedVariables false
set_option linter.unusedSimpArgs false
set_option maxHeartbeats 6400000
set_option maxRecDepth 100000
namespace Go.Proofs.YthkmihedkddnmaaGreat
open Lib (hid)
open Go.RowKit Wire Cmd
theorem rdelete_any (n0:Nat) (w:World) (B:Nat) (sv:Value) (l:List (Nat × (Vl × Value))) (h:RDevAt n0 w B sv l) (hn0:n0≤w.heap.size) (o:Op0) (ok:o.Ok) (ao:Option Addr) (cap:Nat) (hn:o.data.length≤1000000) (hd:DevOk (mapA (·.1) l)) (hll:l.length≤1000000) (b:Int) (hr:refD (mapA (·.1) l) o=0) (hk:o.k=2) :
  Calls Tryz.prog 19 #[.pointer (some ⟨B,0,none⟩),.agg (oC o (.slice ao o.data.length cap)),.int .i64 b] w fun e w'=>RPartP n0 w B sv (stepD (mapA (·.1) l) o b) e w':=by
 have HH:=hid h;have HN0:=hid hn0;have HLL:=hid hll;have hris:Ris l:=(ris_map (fun x:Vl × Value=>x.1)).1 hd.ris;have hok:∀ p∈l,p.2.1.Ok:=fun p hp=>hd.vol (p.1,p.2.1) (List.mem_map.2 ⟨p,hp,rfl⟩);have HRIS:=hid hris;have HDO:=hid hd;have HOKV:=hid hok;have HREF:=hid hr;have HKK:=hid hk;have HOK:=hid ok;have HDL:=hid hn;have HMAY:=hid (ref0_may hr);obtain ⟨sl,hsl⟩:∃ s,Value.slice ao o.data.length cap=s:=⟨_,rfl⟩
 have HSLE:=hid hsl;obtain ⟨fi,hfi⟩:∃ i,findI o.vol l=i:=⟨_,rfl⟩
 have HFI:=hid hfi;have CM:Hid (∀ X,RDevAt n0 X B sv l→Calls Tryz.prog 48 #[.pointer (some ⟨B,0,none⟩),.agg (oC o sl)] X fun e w'=>e = .returned (.int .i64 0)∧Below X.heap.size X w'):=hid (fun X hX=>by rw [← hsl,← hr];exact rrefused_any n0 X B sv l hX o ok ao cap hn (fun p hp=>(hok p hp).size));have CF:Hid (∀ X,RDevAt n0 X B sv l→Calls Tryz.prog 22 #[.pointer (some ⟨B,0,none⟩),.int .u64 (o.vol:Int)] X fun e w'=>e = .returned (.int .i64 fi)∧X=w'):=hid (fun X hX=>by rw [← hfi];exact rfind_any n0 X B sv l hX o.vol);rw [hsl]
 clear hsl hfi h hn0 hll hris hok hd hr hk ok hn;obtain ⟨w2,hw2⟩:∃ W,(w.alloc (.cells #[.int .i64 o.k,.int .u64 (o.vol:Int),.int .u64 (o.to:Int),.int .i64 o.size,.int .i64 o.pl,.int .i64 o.count,sl] 40)).alloc (.cells #[.int .i64 0,.int .i64 0,.slice none 0 0] 35)=W:=⟨_,rfl⟩
 have HBX:Hid (Boxes w w2 (oC o sl)):=hid (by rw [← hw2];exact boxes w (oC o sl));have HD2:=hid (HH.out.below HBX.out.bel);have HX2:=hid HBX.out.op;rw [show (oC o sl)=#[.int .i64 o.k,.int .u64 (o.vol:Int),.int .u64 (o.to:Int),.int .i64 o.size,.int .i64 o.pl,.int .i64 o.count,sl] from rfl]
 go_enter Tryz.func19,Tryz.ntmps19
 go_upto_region 1 with fail
 (try rw [hw2])
 clear hw2;obtain ⟨c0,c1,c2,c3,c4,c5,c6⟩:=op7 HX2.out;go_wp2_with fail;refine (CM.out w2 HD2.out).mono ?_;rintro e w3 ⟨rfl,hb3⟩;have HB3:=hid (bthen HBX.out.bel hb3);have HD3:=hid (HD2.out.below hb3);have HX3:=hid ((hb3.block w.heap.size (hLT HX2.out)).trans HX2.out);have HA3:=hid ((hb3.block (w.heap.size+1) (hLT HBX.out.ans)).trans HBX.out.ans);clear c0 c1 c2 c3 c4 c5 c6 hb3;obtain ⟨q8,hq8⟩:∃ k,w3.heap.size=k:=⟨_,rfl⟩
 go_upto_region 5 with fail
 obtain ⟨w4,hw4⟩:∃ W,w3.alloc (.cells #[.int .i64 0,.int .i64 0,.slice none 0 0] 35)=W:=⟨_,rfl⟩
 have hb4:Below w3.heap.size w3 w4:=by rw [← hw4];exact balloc (Below.refl _ _) _
 have HA8:Hid (w4.heap[q8]? = some (.cells #[.int .i64 0,.int .i64 0,.slice none 0 0] 35 (0,0))):=hid (by rw [← hw4,← hq8];exact heap_alloc_new _ _);have HQ8:Hid (w.heap.size+2≤q8):=hid (by have:=HB3.out.size;have h1:=(hLT HA3.out);omega);have HB4:=hid (bthen HB3.out hb4);have HD4:=hid (HD3.out.below hb4);have HX4:=hid ((hb4.block w.heap.size (hLT HX3.out)).trans HX3.out);have HA4:=hid ((hb4.block (w.heap.size+1) (hLT HA3.out)).trans HA3.out);rw [hw4];clear hw4 hq8 hb4;obtain ⟨c0,c1,c2,c3,c4,c5,c6⟩:=op7 HX4.out;go_wp2_with fail
 refine (CF.out w4 HD4.out).mono ?_;rintro e w5 ⟨rfl,rfl⟩;have HN4:Hid (n0≤w4.heap.size):=hid (Nat.le_trans HN0.out HB4.out.size);clear CM CF;have hvx:∃ (i:Nat) (a:Vl × Value),fi=(i:Int)∧l[i]? = some (o.vol,a):=by
  rw [← HFI.out]
  rcases find_case o.vol l with ⟨i,a,h1,h2,h3⟩ | ⟨h1,h2⟩
  ·exact ⟨i,a,h1,h2⟩
  ·obtain ⟨v,hv⟩:=ref0_vol HREF.out (by rw [HKK.out];decide) (by rw [HKK.out];decide)
   rw [getA_map,h2] at hv
   cases hv
 obtain ⟨i,a,rfl,hi⟩:=hvx;have HI:=hid hi;have HVO:=hid (HOKV.out _ (List.mem_of_getElem? hi));have HGV:Hid (getA o.vol (mapA (·.1) l)=some a.1):=hid (getA_at HDO.out.ris (mapA_get _ hi));obtain ⟨g,cap2,rfl,hc1,hc2,e0,e1,e2⟩:=HD4.out.at_ HI.out;have HE1:=hid e1;have HE2:=hid e2;have hbc:=HD4.out.cell;have hln:i<l.length:=(List.getElem?_eq_some_iff.1 hi).1;have hlb:=HLL.out;have HVA:=hid (HD4.out.vol HI.out);have HFZ:=hid HD4.out.frz;obtain ⟨n,hn⟩:∃ n,l.length=n:=⟨_,rfl⟩
 have HN:=hid hn;rw [hn] at HH HD4 hbc hln hlb hc1;clear hn hi e0 e1 e2;have g1:(o.k == 1)=false:=by simp [HKK.out]
 have g2:(o.k == 2)=true:=by simp [HKK.out]
 have hcap:n≤cap2∧cap2≤9223372036854775807:=by unfold maxLen at hc2;exact ⟨hc1,hc2⟩
 have hwr:IntKind.i64.wrap ((i:Int)+1)=(i:Int)+1:=IntWalk.i64_in _ (by omega);have HCH:Hid (∀ W,(Instr.slice 28 (.slice (some ⟨g,0,none⟩) n cap2) none (some (.int .i64 (i:Int))) none).run Tryz.prog W = .ok (.slice (cutA (some ⟨g,0,none⟩) cap2 0 3) i cap2) W):=hid (fun W=>by
  have h1:=run_cutH (P:=Tryz.prog) W 28 (some ⟨g,0,none⟩) n cap2 3 undVols szVols (i:Int) (by omega) (by omega)
  rwa [Int.toNat_natCast] at h1)
 have HCT:Hid (∀ W,(Instr.slice 28 (.slice (some ⟨g,0,none⟩) n cap2) (some (.int .i64 ((i:Int)+1))) none none).run Tryz.prog W = .ok (.slice (cutA (some ⟨g,0,none⟩) cap2 (i+1) 3) (n - (i+1)) (cap2 - (i+1))) W):=hid (fun W=>by
  have h1:=run_cutT (P:=Tryz.prog) W 28 (some ⟨g,0,none⟩) n cap2 3 undVols szVols ((i:Int)+1) (by omega) (by omega)
  rwa [show ((i:Int)+1).toNat=i+1 by omega] at h1)
 have HRD:Hid (Rd w4 3 (.slice (some ⟨g,0,none⟩) n cap2) n (rvolC l)):=hid (by have h1:=Rd.of_own HD4.out.row;rw [HN.out] at h1;exact h1);have HONE1:=hid (rvolC_cells (fun p hp=>HD4.out.one p (List.mem_of_mem_take (i:=i) hp)));have HONE2:=hid (rvolC_cells (fun p hp=>HD4.out.one p (List.mem_of_mem_drop (i:=i+1) hp)));have HBL:=hid HD4.out.lt;have HBC:=hid hbc;have HFB:Hid (w4.frozen? ⟨B,0,none⟩=false):=hid (frozenOf HD4.out.box 0);clear hbc hc2;go_wp2_with fail
 have HSS:Hid (∀ X,Mods [B] w4 X→(True)∧Mods [B] w4 X):=hid (fun X hb=>⟨trivial,hb⟩);refine wp_region_held_drew (S:=fun X=>(True)∧Mods [B] w4 X) (by kernel_rfl) (HSS.out _ (Mods.of_below (Below.refl _ _).drew)) (fun hHeld => ?_);have hbe:Below w4.heap.size w4 w4.drew:=(Below.refl _ _).drew;obtain ⟨wd,hwd⟩:∃ y,w4.drew=y:=⟨_,rfl⟩
 rw [hwd] at hHeld hbe ⊢;have HBE:=hid hbe;have HS0:Hid (w4.heap.size≤wd.heap.size):=hid HBE.out.size;clear hwd hbe;refine tkP 0 rfl ?_;refine tkP 1 rfl ?_;refine tkP 5 rfl ?_;refine tkP 8 rfl ?_;refine tkP 12 rfl ?_;refine tkP 2 rfl ?_;refine tkP 9 rfl ?_;refine tkP 13 rfl ?_;refine tkP 3 rfl ?_;refine tkP 10 rfl ?_;refine rd2 4 11 rfl rfl (fun K hK => ?_) fun K hK => ?_
 ·skip
  have hrd:=(show wd.cell? ⟨B,0,none⟩=some (.slice (some ⟨g,0,none⟩) n cap2) from (HBE.out.cell (p:=⟨B,0,none⟩) HBL.out).trans HBC.out)
  simp only [gE1,gE2,gE3];go_simp;clear hrd;refine hK.out _ _ ?_ (fun hHeld => ?_)
  ·exact (by first | exact HSS.out _ (Mods.of_below HBE.out) | exact HSS.out _ HMD.out)
  clear hK K;try simp only [Act.put,pE1,pE2,pE3]
  refine tkQ 6 (.slice (cutA (some ⟨g,0,none⟩) cap2 0 3) i cap2) rfl ?_ ?_
  ·(intro w hSw;simp only [gE1,gE2,gE3];(have h6:=HCH.out w;go_simp;first | done | with_reducible rfl))
  refine rd2 7 11 rfl rfl (fun K hK => ?_) fun K hK => ?_
  ·skip
   simp only [gE1,gE2,gE3];rw [if_pos (by rfl)];refine wp_apps _ _ 28 rfl w4.heap.size 58 _ 3 40 Tryz.underlying28 infoVols rfl (by decide) (by decide) (.slice none 0 0) 0 [] (by rfl) (World.ownsRow_nil _ _ _ _) _ i _ (by rfl) (Rd.vhead (Rd.below HRD.out HBE.out) (by omega)) HONE1.out (by omega) HBE.out.size ?_;intro v6 w6 ho6 hb6 hg6 hs6 hn6;refine hK.out _ _ ?_ (fun hHeld => ?_)
   ·exact HSS.out _ (Mods.of_below (HBE.out.trans hb6))
   clear hK K;try simp only [Act.put,pE1,pE2,pE3]
   have HBE:=hid (HBE.out.trans hb6);rw [List.nil_append,Nat.zero_add] at ho6;have HO6:=hid ho6;clear ho6 hb6 hg6 hs6 hn6;refine rd1 11 rfl fun K hK => ?_;have hrd:=(show w6.cell? ⟨B,0,none⟩=some (.slice (some ⟨g,0,none⟩) n cap2) from (HBE.out.cell (p:=⟨B,0,none⟩) HBL.out).trans HBC.out)
   simp only [gE1,gE2,gE3];go_simp;clear hrd;refine hK.out _ _ ?_ (fun hHeld => ?_)
   ·exact (by first | exact HSS.out _ (Mods.of_below HBE.out) | exact HSS.out _ HMD.out)
   clear hK K;try simp only [Act.put,pE1,pE2,pE3]
   refine tkQ 14 (.slice (cutA (some ⟨g,0,none⟩) cap2 (i+1) 3) (n - (i+1)) (cap2 - (i+1))) rfl ?_ ?_
   ·(intro w hSw;simp only [gE1,gE2,gE3];(have h6:=HCT.out w;go_simp;first | done | with_reducible rfl))
   refine rd1 15 rfl fun K hK => ?_;simp only [gE1,gE2,gE3];rw [if_pos (by rfl)];refine wp_apps _ _ 28 rfl w4.heap.size 58 _ 3 40 Tryz.underlying28 infoVols rfl (by decide) (by decide) v6 i _ (by rfl) HO6.out _ (n - (i+1)) _ (by rfl) (Rd.vtail (Rd.below HRD.out HBE.out) (by omega)) HONE2.out (by omega) HBE.out.size ?_;intro v7 w7 ho7 hb7 hg7 hs7 hn7;refine hK.out _ _ ?_ (fun hHeld => ?_)
   ·exact HSS.out _ (Mods.of_below (HBE.out.trans hb7))
   clear hK K;try simp only [Act.put,pE1,pE2,pE3]
   have HBE:=hid (HBE.out.trans hb7);obtain ⟨a7,c7,hv7⟩:=row_slice ho7;subst hv7;have HO7:=hid ho7;clear ho7 hb7 hg7 hs7 hn7;refine tkP 16 rfl ?_;refine tkP 17 rfl ?_;refine rd1 18 rfl fun K hK => ?_;have hc9:=(HBE.out.cell (p:=⟨B,0,none⟩) HBL.out).trans HBC.out;have hf9:w7.frozen? ⟨B,0,none⟩=false:=(HBE.out.frozen (p:=⟨B,0,none⟩) HBL.out).trans HFB.out;simp only [gE1,gE2,gE3];go_simp;refine hK.out _ _ ?_ (fun hHeld => ?_)
   ·exact HSS.out _ ((Mods.of_below HBE.out).setCell (p:=⟨B,0,none⟩) (List.mem_cons_self ..) _)
   clear hK K;try simp only [Act.put,pE1,pE2,pE3]
   refine wpAnyH_done (by kernel_rfl) ?_ _;have HEND:=hid hHeld.2;have HSE:=hid hHeld.1;clear hHeld;clear HSE HSS HEND c0 c1 c2 c3 c4 c5 c6 hwr;have HTD:Hid (l.take i ++ l.drop (i+1)=delA o.vol l):=hid (take_drop_del HRIS.out HI.out);have hrow:w7.ownsRow w4.heap.size 58 3 (.slice a7 (i+(n - (i+1))) c7) (l.take i ++ l.drop (i+1)).length (rvolC (l.take i ++ l.drop (i+1))):=by
    rw [rvolC_app,show (l.take i ++ l.drop (i+1)).length=i+(n - (i+1)) by simp only [List.length_append,List.length_take,List.length_drop,HN.out];omega];exact HO7.out
   have hq:RDevNew n0 w4 (w7.setCell ⟨B,0,none⟩ (.slice a7 (i+(n - (i+1))) c7)) B (delA o.vol l):=by
    rw [← HTD.out];refine RDevAt.of_row HD4.out HBE.out hrow HN4.out (fun p hp=>ownsRow_below (HD4.out.blk p ?_) HBE.out)
    rcases List.mem_append.1 hp with h | h
    ·exact List.mem_of_mem_take h
    ·exact List.mem_of_mem_drop h
   obtain ⟨w9,hw9⟩:∃ W,w7.setCell ⟨B,0,none⟩ (.slice a7 (i+(n - (i+1))) c7)=W:=⟨_,rfl⟩
   rw [hw9] at hq ⊢;clear hw9 hrow;obtain ⟨sv6,hd6,hc6,hm6⟩:=hq.chg (sv:=.slice (some ⟨g,0,none⟩) n cap2) HB4.out;have HST:Hid (stepD (mapA (·.1) l) o b=(⟨0,0,[]⟩,mapA (·.1) (delA o.vol l))):=hid (by
    unfold stepD;rw [if_neg (by rw [HREF.out];simp),if_neg (by rw [HKK.out];decide),if_pos HKK.out];exact congrArg (Prod.mk _) (delA_map _ _ _))
   have HD6:=hid hd6;have HC6:=hid hc6;have HA6:=hid ((hm6.block (w.heap.size+1) (hLT HA4.out) (by have:=HH.out.lt;simp;omega)).trans HA4.out);have HA9:=hid ((hm6.block q8 (hLT HA8.out) (by have:=HH.out.lt;have:=HQ8.out;simp;omega)).trans HA8.out);clear hd6 hc6 hm6 hq;have hf0:=frozenOf HA6.out 0;have hf1:=frozenOf HA6.out 1;have hf2:=frozenOf HA6.out 2;have d0:=cellOf HA6.out 0 rfl;have d1:=cellOf HA6.out 1 rfl;have d2:=cellOf HA6.out 2 rfl;have e0:=cellOf HA9.out 0 rfl;have e1:=cellOf HA9.out 1 rfl;have e2:=cellOf HA9.out 2 rfl
   go_wp2_with fail;obtain ⟨hx4,hm4⟩:=set3 (x:=.int .i64 0) (y:=.int .i64 0) (z:=.slice none 0 0) HA6.out;refine bodyPost_ret (v:=ansE 0 0) (resAns rfl _ _ _ _ _ _ rfl hx4) rfl ?_;rw [HST.out];exact RPartP.end_ HD6.out HC6.out HA6.out hm4 rfl (World.ownsRow_nil _ _ _ _)
  ·skip
   have hrd:=(show wd.cell? ⟨B,0,none⟩=some (.slice (some ⟨g,0,none⟩) n cap2) from (HBE.out.cell (p:=⟨B,0,none⟩) HBL.out).trans HBC.out)
   simp only [gE1,gE2,gE3];go_simp;clear hrd;refine hK.out _ _ ?_ (fun hHeld => ?_)
   ·exact (by first | exact HSS.out _ (Mods.of_below HBE.out) | exact HSS.out _ HMD.out)
   clear hK K;try simp only [Act.put,pE1,pE2,pE3]
   refine tkQ 14 (.slice (cutA (some ⟨g,0,none⟩) cap2 (i+1) 3) (n - (i+1)) (cap2 - (i+1))) rfl ?_ ?_
   ·(intro w hSw;simp only [gE1,gE2,gE3];(have h6:=HCT.out w;go_simp;first | done | with_reducible rfl))
   refine rd1 7 rfl fun K hK => ?_;simp only [gE1,gE2,gE3];rw [if_pos (by rfl)];refine wp_apps _ _ 28 rfl w4.heap.size 58 _ 3 40 Tryz.underlying28 infoVols rfl (by decide) (by decide) (.slice none 0 0) 0 [] (by rfl) (World.ownsRow_nil _ _ _ _) _ i _ (by rfl) (Rd.vhead (Rd.below HRD.out HBE.out) (by omega)) HONE1.out (by omega) HBE.out.size ?_;intro v6 w6 ho6 hb6 hg6 hs6 hn6;refine hK.out _ _ ?_ (fun hHeld => ?_)
   ·exact HSS.out _ (Mods.of_below (HBE.out.trans hb6))
   clear hK K;try simp only [Act.put,pE1,pE2,pE3]
   have HBE:=hid (HBE.out.trans hb6);rw [List.nil_append,Nat.zero_add] at ho6;have HO6:=hid ho6;clear ho6 hb6 hg6 hs6 hn6;refine rd1 15 rfl fun K hK => ?_;simp only [gE1,gE2,gE3];rw [if_pos (by rfl)];refine wp_apps _ _ 28 rfl w4.heap.size 58 _ 3 40 Tryz.underlying28 infoVols rfl (by decide) (by decide) v6 i _ (by rfl) HO6.out _ (n - (i+1)) _ (by rfl) (Rd.vtail (Rd.below HRD.out HBE.out) (by omega)) HONE2.out (by omega) HBE.out.size ?_;intro v7 w7 ho7 hb7 hg7 hs7 hn7;refine hK.out _ _ ?_ (fun hHeld => ?_)
   ·exact HSS.out _ (Mods.of_below (HBE.out.trans hb7))
   clear hK K;try simp only [Act.put,pE1,pE2,pE3]
   have HBE:=hid (HBE.out.trans hb7);obtain ⟨a7,c7,hv7⟩:=row_slice ho7;subst hv7;have HO7:=hid ho7;clear ho7 hb7 hg7 hs7 hn7;refine tkP 16 rfl ?_;refine tkP 17 rfl ?_;refine rd1 18 rfl fun K hK => ?_;have hc9:=(HBE.out.cell (p:=⟨B,0,none⟩) HBL.out).trans HBC.out;have hf9:w7.frozen? ⟨B,0,none⟩=false:=(HBE.out.frozen (p:=⟨B,0,none⟩) HBL.out).trans HFB.out;simp only [gE1,gE2,gE3];go_simp;refine hK.out _ _ ?_ (fun hHeld => ?_)
   ·exact HSS.out _ ((Mods.of_below HBE.out).setCell (p:=⟨B,0,none⟩) (List.mem_cons_self ..) _)
   clear hK K;try simp only [Act.put,pE1,pE2,pE3]
   refine wpAnyH_done (by kernel_rfl) ?_ _;have HEND:=hid hHeld.2;have HSE:=hid hHeld.1;clear hHeld;clear HSE HSS HEND c0 c1 c2 c3 c4 c5 c6 hwr;have HTD:Hid (l.take i ++ l.drop (i+1)=delA o.vol l):=hid (take_drop_del HRIS.out HI.out);have hrow:w7.ownsRow w4.heap.size 58 3 (.slice a7 (i+(n - (i+1))) c7) (l.take i ++ l.drop (i+1)).length (rvolC (l.take i ++ l.drop (i+1))):=by
    rw [rvolC_app,show (l.take i ++ l.drop (i+1)).length=i+(n - (i+1)) by simp only [List.length_append,List.length_take,List.length_drop,HN.out];omega];exact HO7.out
   have hq:RDevNew n0 w4 (w7.setCell ⟨B,0,none⟩ (.slice a7 (i+(n - (i+1))) c7)) B (delA o.vol l):=by
    rw [← HTD.out];refine RDevAt.of_row HD4.out HBE.out hrow HN4.out (fun p hp=>ownsRow_below (HD4.out.blk p ?_) HBE.out)
    rcases List.mem_append.1 hp with h | h
    ·exact List.mem_of_mem_take h
    ·exact List.mem_of_mem_drop h
   obtain ⟨w9,hw9⟩:∃ W,w7.setCell ⟨B,0,none⟩ (.slice a7 (i+(n - (i+1))) c7)=W:=⟨_,rfl⟩
   rw [hw9] at hq ⊢;clear hw9 hrow;obtain ⟨sv6,hd6,hc6,hm6⟩:=hq.chg (sv:=.slice (some ⟨g,0,none⟩) n cap2) HB4.out;have HST:Hid (stepD (mapA (·.1) l) o b=(⟨0,0,[]⟩,mapA (·.1) (delA o.vol l))):=hid (by
    unfold stepD;rw [if_neg (by rw [HREF.out];simp),if_neg (by rw [HKK.out];decide),if_pos HKK.out];exact congrArg (Prod.mk _) (delA_map _ _ _))
   have HD6:=hid hd6;have HC6:=hid hc6;have HA6:=hid ((hm6.block (w.heap.size+1) (hLT HA4.out) (by have:=HH.out.lt;simp;omega)).trans HA4.out);have HA9:=hid ((hm6.block q8 (hLT HA8.out) (by have:=HH.out.lt;have:=HQ8.out;simp;omega)).trans HA8.out);clear hd6 hc6 hm6 hq;have hf0:=frozenOf HA6.out 0;have hf1:=frozenOf HA6.out 1;have hf2:=frozenOf HA6.out 2;have d0:=cellOf HA6.out 0 rfl;have d1:=cellOf HA6.out 1 rfl;have d2:=cellOf HA6.out 2 rfl;have e0:=cellOf HA9.out 0 rfl;have e1:=cellOf HA9.out 1 rfl;have e2:=cellOf HA9.out 2 rfl
   go_wp2_with fail;obtain ⟨hx4,hm4⟩:=set3 (x:=.int .i64 0) (y:=.int .i64 0) (z:=.slice none 0 0) HA6.out;refine bodyPost_ret (v:=ansE 0 0) (resAns rfl _ _ _ _ _ _ rfl hx4) rfl ?_;rw [HST.out];exact RPartP.end_ HD6.out HC6.out HA6.out hm4 rfl (World.ownsRow_nil _ _ _ _)
 ·skip
  have hrd:=(show wd.cell? ⟨B,0,none⟩=some (.slice (some ⟨g,0,none⟩) n cap2) from (HBE.out.cell (p:=⟨B,0,none⟩) HBL.out).trans HBC.out)
  simp only [gE1,gE2,gE3];go_simp;clear hrd;refine hK.out _ _ ?_ (fun hHeld => ?_)
  ·exact (by first | exact HSS.out _ (Mods.of_below HBE.out) | exact HSS.out _ HMD.out)
  clear hK K;try simp only [Act.put,pE1,pE2,pE3]
  refine tkQ 14 (.slice (cutA (some ⟨g,0,none⟩) cap2 (i+1) 3) (n - (i+1)) (cap2 - (i+1))) rfl ?_ ?_
  ·(intro w hSw;simp only [gE1,gE2,gE3];(have h6:=HCT.out w;go_simp;first | done | with_reducible rfl))
  refine rd1 4 rfl fun K hK => ?_;have hrd:=(show wd.cell? ⟨B,0,none⟩=some (.slice (some ⟨g,0,none⟩) n cap2) from (HBE.out.cell (p:=⟨B,0,none⟩) HBL.out).trans HBC.out)
  simp only [gE1,gE2,gE3];go_simp;clear hrd;refine hK.out _ _ ?_ (fun hHeld => ?_)
  ·exact (by first | exact HSS.out _ (Mods.of_below HBE.out) | exact HSS.out _ HMD.out)
  clear hK K;try simp only [Act.put,pE1,pE2,pE3]
  refine tkQ 6 (.slice (cutA (some ⟨g,0,none⟩) cap2 0 3) i cap2) rfl ?_ ?_
  ·(intro w hSw;simp only [gE1,gE2,gE3];(have h6:=HCH.out w;go_simp;first | done | with_reducible rfl))
  refine rd1 7 rfl fun K hK => ?_;simp only [gE1,gE2,gE3];rw [if_pos (by rfl)];refine wp_apps _ _ 28 rfl w4.heap.size 58 _ 3 40 Tryz.underlying28 infoVols rfl (by decide) (by decide) (.slice none 0 0) 0 [] (by rfl) (World.ownsRow_nil _ _ _ _) _ i _ (by rfl) (Rd.vhead (Rd.below HRD.out HBE.out) (by omega)) HONE1.out (by omega) HBE.out.size ?_;intro v6 w6 ho6 hb6 hg6 hs6 hn6;refine hK.out _ _ ?_ (fun hHeld => ?_)
  ·exact HSS.out _ (Mods.of_below (HBE.out.trans hb6))
  clear hK K;try simp only [Act.put,pE1,pE2,pE3]
  have HBE:=hid (HBE.out.trans hb6);rw [List.nil_append,Nat.zero_add] at ho6;have HO6:=hid ho6;clear ho6 hb6 hg6 hs6 hn6;refine rd1 15 rfl fun K hK => ?_;simp only [gE1,gE2,gE3];rw [if_pos (by rfl)];refine wp_apps _ _ 28 rfl w4.heap.size 58 _ 3 40 Tryz.underlying28 infoVols rfl (by decide) (by decide) v6 i _ (by rfl) HO6.out _ (n - (i+1)) _ (by rfl) (Rd.vtail (Rd.below HRD.out HBE.out) (by omega)) HONE2.out (by omega) HBE.out.size ?_;intro v7 w7 ho7 hb7 hg7 hs7 hn7;refine hK.out _ _ ?_ (fun hHeld => ?_)
  ·exact HSS.out _ (Mods.of_below (HBE.out.trans hb7))
  clear hK K;try simp only [Act.put,pE1,pE2,pE3]
  have HBE:=hid (HBE.out.trans hb7);obtain ⟨a7,c7,hv7⟩:=row_slice ho7;subst hv7;have HO7:=hid ho7;clear ho7 hb7 hg7 hs7 hn7;refine tkP 16 rfl ?_;refine tkP 17 rfl ?_;refine rd1 18 rfl fun K hK => ?_;have hc9:=(HBE.out.cell (p:=⟨B,0,none⟩) HBL.out).trans HBC.out;have hf9:w7.frozen? ⟨B,0,none⟩=false:=(HBE.out.frozen (p:=⟨B,0,none⟩) HBL.out).trans HFB.out;simp only [gE1,gE2,gE3];go_simp;refine hK.out _ _ ?_ (fun hHeld => ?_)
  ·exact HSS.out _ ((Mods.of_below HBE.out).setCell (p:=⟨B,0,none⟩) (List.mem_cons_self ..) _)
  clear hK K;try simp only [Act.put,pE1,pE2,pE3]
  refine wpAnyH_done (by kernel_rfl) ?_ _;have HEND:=hid hHeld.2;have HSE:=hid hHeld.1;clear hHeld;clear HSE HSS HEND c0 c1 c2 c3 c4 c5 c6 hwr;have HTD:Hid (l.take i ++ l.drop (i+1)=delA o.vol l):=hid (take_drop_del HRIS.out HI.out);have hrow:w7.ownsRow w4.heap.size 58 3 (.slice a7 (i+(n - (i+1))) c7) (l.take i ++ l.drop (i+1)).length (rvolC (l.take i ++ l.drop (i+1))):=by
   rw [rvolC_app,show (l.take i ++ l.drop (i+1)).length=i+(n - (i+1)) by simp only [List.length_append,List.length_take,List.length_drop,HN.out];omega];exact HO7.out
  have hq:RDevNew n0 w4 (w7.setCell ⟨B,0,none⟩ (.slice a7 (i+(n - (i+1))) c7)) B (delA o.vol l):=by
   rw [← HTD.out];refine RDevAt.of_row HD4.out HBE.out hrow HN4.out (fun p hp=>ownsRow_below (HD4.out.blk p ?_) HBE.out)
   rcases List.mem_append.1 hp with h | h
   ·exact List.mem_of_mem_take h
   ·exact List.mem_of_mem_drop h
  obtain ⟨w9,hw9⟩:∃ W,w7.setCell ⟨B,0,none⟩ (.slice a7 (i+(n - (i+1))) c7)=W:=⟨_,rfl⟩
  rw [hw9] at hq ⊢;clear hw9 hrow;obtain ⟨sv6,hd6,hc6,hm6⟩:=hq.chg (sv:=.slice (some ⟨g,0,none⟩) n cap2) HB4.out;have HST:Hid (stepD (mapA (·.1) l) o b=(⟨0,0,[]⟩,mapA (·.1) (delA o.vol l))):=hid (by
   unfold stepD;rw [if_neg (by rw [HREF.out];simp),if_neg (by rw [HKK.out];decide),if_pos HKK.out];exact congrArg (Prod.mk _) (delA_map _ _ _))
  have HD6:=hid hd6;have HC6:=hid hc6;have HA6:=hid ((hm6.block (w.heap.size+1) (hLT HA4.out) (by have:=HH.out.lt;simp;omega)).trans HA4.out);have HA9:=hid ((hm6.block q8 (hLT HA8.out) (by have:=HH.out.lt;have:=HQ8.out;simp;omega)).trans HA8.out);clear hd6 hc6 hm6 hq;have hf0:=frozenOf HA6.out 0;have hf1:=frozenOf HA6.out 1;have hf2:=frozenOf HA6.out 2;have d0:=cellOf HA6.out 0 rfl;have d1:=cellOf HA6.out 1 rfl;have d2:=cellOf HA6.out 2 rfl;have e0:=cellOf HA9.out 0 rfl;have e1:=cellOf HA9.out 1 rfl;have e2:=cellOf HA9.out 2 rfl
  go_wp2_with fail;obtain ⟨hx4,hm4⟩:=set3 (x:=.int .i64 0) (y:=.int .i64 0) (z:=.slice none 0 0) HA6.out;refine bodyPost_ret (v:=ansE 0 0) (resAns rfl _ _ _ _ _ _ rfl hx4) rfl ?_;rw [HST.out];exact RPartP.end_ HD6.out HC6.out HA6.out hm4 rfl (World.ownsRow_nil _ _ _ _)
end Go.Proofs.YthkmihedkddnmaaGreat
