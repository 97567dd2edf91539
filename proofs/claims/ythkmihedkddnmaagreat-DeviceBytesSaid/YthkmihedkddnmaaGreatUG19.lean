import Derived.Test.YthkmihedkddnmaaGreatUG2
import Derived.Test.YthkmihedkddnmaaGreatUG17
import Derived.Test.YthkmihedkddnmaaGreatUG18
import Derived.Test.YthkmihedkddnmaaGreatUG11
set_option linter.unusedVariables false
set_option linter.unusedSimpArgs false
set_option maxHeartbeats 6400000
set_option maxRecDepth 100000
namespace Go.Proofs.YthkmihedkddnmaaGreat
open Lib (hid)
open Go.RowKit Go.Maps Wire Cmd
attribute [local go_sem] Oper.semAt_some
def gI (a c i:Nat):Nat × PSpan:=pItem a c (min i (pM a c - 1))
theorem gI_in {a c:Nat} {size:Nat} (hc:1≤c) (h:a+c≤4 * size) (i:Nat):SpIn size (gI a c i).2:=by
 have hp:=pM_pos (a:=a) hc;have hi:min i (pM a c - 1)<pM a c:=by omega
 refine ⟨?_,pFrom_lt_pTo hi,pTo_le⟩
 show a / 4+min i (pM a c - 1)<size
 unfold pM at hi hp ⊢;rw [if_neg (by omega)] at hi hp ⊢;omega
theorem gI_all {a c:Nat}:((List.range (pM a c)).map id).map (fun i=>(gI a c i).2)=pSpans a c:=by
 unfold pSpans;rw [List.map_map];refine List.map_congr_left fun i hi => ?_;have:=List.mem_range.1 hi;unfold gI pItem Function.comp;dsimp only [id];rw [Nat.min_eq_left (by omega)]
theorem readM_len (m:List (Nat × List UInt8)) (hm:∀ q∈m,q.2.length=256):∀ sp:List PSpan,(readM m sp).length≤256 * sp.length
 | []=>by simp [readM]
 | s :: sp=>by
  have ih:=readM_len m hm sp;have e:readM m (s :: sp)=cutB (blkAt m s.blk) s.lo s.hi ++ readM m sp:=rfl;have h1:(cutB (blkAt m s.blk) s.lo s.hi).length≤256:=by
   unfold cutB;have:=blkAt_len hm s.blk;simp only [List.length_take,List.length_drop];omega
  rw [e,List.length_append,List.length_cons];omega
theorem dread_in (n0:Nat) (w:World) (B Ba:Nat) (l:List (Nat × (Vl × Nat))) (h:DevAt n0 w B Ba l) (o:Op0) (ao:Option Addr) (cap:Nat) (b:Int) (hn:o.data.length≤9223372036854775807) (hmay:mayO o=true) (hk:o.k=9) (x:Vl × Nat) (hg:getA o.vol l=some x)
  (hrow:o.pl+o.count≤4 * (x.1.size:Int)) :
  CallsIn Fence.wide 5 Tryz.prog 47 #[.pointer (some ⟨B,0,none⟩),.agg (oC o (.slice ao o.data.length cap)),.int .i64 b] w fun e w'=>∃ sv,e = .returned (.agg #[.int .i64 0,.int .i64 0,sv]) ∧
   w'.ownsRow w.heap.size 5 1 sv (readM x.1.m (pSpansI o.pl o.count)).length (bV (readM x.1.m (pSpansI o.pl o.count)))∧Below w.heap.size w w':=by
 have hro:Fence.wide.round=none:=rfl;have HH:=hid h;have HG:=hid hg;have HVOL:=hid (may_vol hmay (by omega));have hpl:=may_pl hmay (by omega);have hct:=may_count hmay (by omega);have HPL:=hid hpl;have HCT:=hid hct;have HROW:=hid hrow;have HPV:Hid (partV o = .iface 136 (.agg #[.int .i64 o.pl,.int .i64 o.count])):=hid (by
  unfold partV;rw [if_neg (by omega),if_neg (by omega),if_neg (by omega),if_pos (by omega)])
 obtain ⟨sl,hsl⟩:∃ s,Value.slice ao o.data.length cap=s:=⟨_,rfl⟩
 have CP:Hid (∀ X,Calls Tryz.prog 71 #[.agg (oC o sl)] X fun e w'=>e = .returned (.iface 136 (.agg #[.int .i64 o.pl,.int .i64 o.count]))∧Below X.heap.size X w'):=hid (fun X=>by rw [← hsl,← HPV.out];exact part13_any o ao cap X hn);rw [hsl];clear hsl hpl hct h hk hmay hn hg hrow;obtain ⟨w2,hw2⟩:∃ W,(w.alloc (.cells #[.int .i64 o.k,.int .u64 (o.vol:Int),.int .u64 (o.to:Int),.int .i64 o.size,.int .i64 o.pl,.int .i64 o.count,sl] 40)).alloc (.cells #[.int .i64 0,.int .i64 0,.slice none 0 0] 35)=W:=⟨_,rfl⟩
 have HBX:Hid (Boxes w w2 (oC o sl)):=hid (by rw [← hw2];exact boxes w (oC o sl));have HD2:=hid (HH.out.below HBX.out.bel);have HX2:=hid HBX.out.op;have HLT:=hid (hLT HX2.out);have HLK:Hid (∀ X,Below w2.heap.size w2 X→(Instr.lookup 61 (.map (some Ba)) (.int .u64 (o.vol:Int)) false).run Tryz.prog X = .ok (.agg #[.int .i64 (x.1.size:Int),.map (some x.2)]) X):=hid (fun X hX=>((HD2.out.below hX).look (Nat.lt_trans HVOL.out.2 (by decide)) HG.out).2)
 rw [show (oC o sl)=#[.int .i64 o.k,.int .u64 (o.vol:Int),.int .u64 (o.to:Int),.int .i64 o.size,.int .i64 o.pl,.int .i64 o.count,sl] from rfl];have t1:=is_row;refine callsIn_of_wp_marks Tryz.func47 rfl trivial ?_ hro;refine wpIn_wide.2 ?_;simp only [Tryz.ntmps47,List.size_toArray,List.length_cons,List.length_nil,Nat.reduceAdd,Nat.reduceSub,Array.replicate_succ,Array.replicate_zero,List.push_toArray,List.append_toArray,List.nil_append,List.cons_append]
 go_upto_region 1 with fail
 (try rw [hw2])
 clear hw2
 go_cut [7,8] from 7 to 22 (fun p q wx=>∃ W b7 b8,W=wx∧p = .pointer (some ⟨b7,0,none⟩)∧q = .pointer (some ⟨b8,0,none⟩)∧w2.heap.size≤b7∧w2.heap.size≤b8∧b7≠b8∧Below w2.heap.size w2 W∧W.heap[b7]? = some (.cells #[.int .i64 (x.1.size:Int),.map (some x.2)] 84 (0,0))∧W.heap[b8]? = some (.cells #[.int .i64 o.pl,.int .i64 o.count] 136 (0,0)))
 case first =>
  have HSS:Hid (∀ X,Below w2.heap.size w2 X→(X.cell? ⟨B,0,none⟩=some (.map (some Ba))∧X.cell? ⟨w.heap.size,0,none⟩=some (.int .i64 o.k)∧X.cell? ⟨w.heap.size,1,none⟩=some (.int .u64 (o.vol:Int))∧X.cell? ⟨w.heap.size,2,none⟩=some (.int .u64 (o.to:Int))∧X.cell? ⟨w.heap.size,3,none⟩=some (.int .i64 o.size)∧X.cell? ⟨w.heap.size,4,none⟩=some (.int .i64 o.pl)∧X.cell? ⟨w.heap.size,5,none⟩=some (.int .i64 o.count)∧X.cell? ⟨w.heap.size,6,none⟩=some (sl))∧Below w2.heap.size w2 X):=hid (fun X hb=>⟨⟨(World.cell?_of_block (hb.block _ (HD2.out.lt))).trans (HD2.out.cell),(World.cell?_of_block (hb.block _ (HLT.out))).trans (cellOf HX2.out 0 rfl),(World.cell?_of_block (hb.block _ (HLT.out))).trans (cellOf HX2.out 1 rfl),(World.cell?_of_block (hb.block _ (HLT.out))).trans (cellOf HX2.out 2 rfl),(World.cell?_of_block (hb.block _ (HLT.out))).trans (cellOf HX2.out 3 rfl),(World.cell?_of_block (hb.block _ (HLT.out))).trans (cellOf HX2.out 4 rfl),(World.cell?_of_block (hb.block _ (HLT.out))).trans (cellOf HX2.out 5 rfl),(World.cell?_of_block (hb.block _ (HLT.out))).trans (cellOf HX2.out 6 rfl)⟩,hb⟩)
  refine region_normal (S:=fun X=>(X.cell? ⟨B,0,none⟩=some (.map (some Ba))∧X.cell? ⟨w.heap.size,0,none⟩=some (.int .i64 o.k)∧X.cell? ⟨w.heap.size,1,none⟩=some (.int .u64 (o.vol:Int))∧X.cell? ⟨w.heap.size,2,none⟩=some (.int .u64 (o.to:Int))∧X.cell? ⟨w.heap.size,3,none⟩=some (.int .i64 o.size)∧X.cell? ⟨w.heap.size,4,none⟩=some (.int .i64 o.pl)∧X.cell? ⟨w.heap.size,5,none⟩=some (.int .i64 o.count)∧X.cell? ⟨w.heap.size,6,none⟩=some (sl))∧Below w2.heap.size w2 X) (by kernel_rfl) (HSS.out _ (Below.refl _ _).drew) (fun hHeld => ?_)
  have hbe:Below w2.heap.size w2 w2.drew:=(Below.refl _ _).drew;obtain ⟨wd,hwd⟩:∃ y,w2.drew=y:=⟨_,rfl⟩
  rw [hwd] at hHeld hbe ⊢;have HBE:=hid hbe;have HS0:Hid (w2.heap.size≤wd.heap.size):=hid HBE.out.size;clear hwd hbe;refine tkA 0 rfl ?_;refine tkA 4 rfl ?_;refine tkA 7 rfl ?_;refine tkA 1 rfl ?_;refine tkA 5 rfl ?_;refine tkA 2 rfl ?_;refine tkA 3 rfl ?_;refine tkB 6 (.agg #[.int .i64 (x.1.size:Int),.map (some x.2)]) rfl ?_ ?_
  ·(intro w hSw;simp only [gE1,gE2,gE3];(have h6:=HLK.out w hSw.2;go_simp;first | done | with_reducible rfl))
  refine wpAnyH_ready (rs:=[8,10,11]) (by kernel_rfl) (by simp) ?_;refine AllReadyH.cons rfl (fun K hK => ?_) (AllReadyH.cons rfl (fun K hK => ?_) (AllReadyH.cons rfl (fun K hK => ?_) (AllReadyH.nil)))
  ·skip
   simp only [gE1,gE2,gE3];go_simp;refine (CP.out _).mono ?_;rintro e w3 ⟨rfl,hb3⟩;dsimp only;have HBE:=hid (bthen HBE.out hb3);clear hHeld;refine hK.out _ _ (HSS.out _ HBE.out) fun hHeld => ?_;clear hK K;try simp only [Act.put,pE1,pE2,pE3]
   have HC8:=hid hb3;clear hb3;refine tkA 9 rfl ?_;refine rd2 10 11 rfl rfl (fun K hK => ?_) fun K hK => ?_
   ·skip
    simp only [gE1,gE2,gE3];go_simp;obtain ⟨b10,y10,hw10,hy10,hx10,HN10⟩:=al w3 (.cells #[.int .i64 0,.map none] 84);rw [hy10,hw10];have HG10:Hid (w2.heap.size≤b10):=hid (by have:=HBE.out.size;omega);clear hy10 hw10;have HBE:=hid (bthen HBE.out hx10);clear hHeld;refine hK.out _ _ (HSS.out _ HBE.out) fun hHeld => ?_;clear hK K;try simp only [Act.put,pE1,pE2,pE3]
    clear hx10;refine rd1 11 rfl fun K hK => ?_;simp only [gE1,gE2,gE3];go_simp;obtain ⟨b11,y11,hw11,hy11,hx11,HN11⟩:=al y10 (.cells #[.int .i64 0,.int .i64 0] 136);rw [hy11,hw11];have HG11:Hid (w2.heap.size≤b11):=hid (by have:=HBE.out.size;omega);have HNE10_11:Hid (b10≠b11):=hid (by have:=(hLT HN10.out);omega);clear hy11 hw11;have HBE:=hid (bthen HBE.out hx11);clear hHeld;refine hK.out _ _ (HSS.out _ HBE.out) fun hHeld => ?_;clear hK K;try simp only [Act.put,pE1,pE2,pE3]
    have HN10:=hid (nX hx11 HN10.out);clear hx11;refine rd1 12 rfl fun K hK => ?_;obtain ⟨hc12_0,hf12_0,hc12_1,hf12_1⟩:=bx2 HN10.out;simp only [gE1,gE2,gE3];go_simp;obtain ⟨y12,hy12,hm12,hv12⟩:=st2 HN10.out (.int .i64 (x.1.size:Int)) (.map (some x.2));rw [hy12];clear hy12 hc12_0 hf12_0 hc12_1 hf12_1;have HBE:=hid (bM HBE.out hm12 HG10.out);clear hHeld;refine hK.out _ _ (HSS.out _ HBE.out) fun hHeld => ?_;clear hK K;try simp only [Act.put,pE1,pE2,pE3]
    have HN11:=hid (nMa hm12 HN11.out HNE10_11.out);have HN10:=hid hv12;clear hv12 hm12;refine rd1 13 rfl fun K hK => ?_;obtain ⟨hc13_0,hf13_0,hc13_1,hf13_1⟩:=bx2 HN11.out;simp only [gE1,gE2,gE3];go_simp;obtain ⟨y13,hy13,hm13,hv13⟩:=st2 HN11.out (.int .i64 o.pl) (.int .i64 o.count);rw [hy13];clear hy13 hc13_0 hf13_0 hc13_1 hf13_1;have HBE:=hid (bM HBE.out hm13 HG11.out);clear hHeld;refine hK.out _ _ (HSS.out _ HBE.out) fun hHeld => ?_;clear hK K;try simp only [Act.put,pE1,pE2,pE3]
    have HN10:=hid (nMb hm13 HN10.out HNE10_11.out);have HN11:=hid hv13;clear hv13 hm13;refine wpAnyH_done (by kernel_rfl) ⟨rfl,?_⟩ _;have HEND:=hid hHeld.2;have HSE:=hid hHeld.1;clear hHeld;clear HSE HSS;go_wp2_with fail;go_meet;exact ⟨_,_,_,rfl,rfl,rfl,HG10.out,HG11.out,HNE10_11.out,HEND.out,HN10.out,HN11.out⟩
   ·skip
    simp only [gE1,gE2,gE3];go_simp;obtain ⟨b11,y11,hw11,hy11,hx11,HN11⟩:=al w3 (.cells #[.int .i64 0,.int .i64 0] 136);rw [hy11,hw11];have HG11:Hid (w2.heap.size≤b11):=hid (by have:=HBE.out.size;omega);clear hy11 hw11;have HBE:=hid (bthen HBE.out hx11);clear hHeld;refine hK.out _ _ (HSS.out _ HBE.out) fun hHeld => ?_;clear hK K;try simp only [Act.put,pE1,pE2,pE3]
    clear hx11;refine rd1 10 rfl fun K hK => ?_;simp only [gE1,gE2,gE3];go_simp;obtain ⟨b10,y10,hw10,hy10,hx10,HN10⟩:=al y11 (.cells #[.int .i64 0,.map none] 84);rw [hy10,hw10];have HG10:Hid (w2.heap.size≤b10):=hid (by have:=HBE.out.size;omega);have HNE10_11:Hid (b10≠b11):=hid (by have:=(hLT HN11.out);omega);clear hy10 hw10;have HBE:=hid (bthen HBE.out hx10);clear hHeld;refine hK.out _ _ (HSS.out _ HBE.out) fun hHeld => ?_;clear hK K;try simp only [Act.put,pE1,pE2,pE3]
    have HN11:=hid (nX hx10 HN11.out);clear hx10;refine rd1 12 rfl fun K hK => ?_;obtain ⟨hc12_0,hf12_0,hc12_1,hf12_1⟩:=bx2 HN10.out;simp only [gE1,gE2,gE3];go_simp;obtain ⟨y12,hy12,hm12,hv12⟩:=st2 HN10.out (.int .i64 (x.1.size:Int)) (.map (some x.2));rw [hy12];clear hy12 hc12_0 hf12_0 hc12_1 hf12_1;have HBE:=hid (bM HBE.out hm12 HG10.out);clear hHeld;refine hK.out _ _ (HSS.out _ HBE.out) fun hHeld => ?_;clear hK K;try simp only [Act.put,pE1,pE2,pE3]
    have HN11:=hid (nMa hm12 HN11.out HNE10_11.out);have HN10:=hid hv12;clear hv12 hm12;refine rd1 13 rfl fun K hK => ?_;obtain ⟨hc13_0,hf13_0,hc13_1,hf13_1⟩:=bx2 HN11.out;simp only [gE1,gE2,gE3];go_simp;obtain ⟨y13,hy13,hm13,hv13⟩:=st2 HN11.out (.int .i64 o.pl) (.int .i64 o.count);rw [hy13];clear hy13 hc13_0 hf13_0 hc13_1 hf13_1;have HBE:=hid (bM HBE.out hm13 HG11.out);clear hHeld;refine hK.out _ _ (HSS.out _ HBE.out) fun hHeld => ?_;clear hK K;try simp only [Act.put,pE1,pE2,pE3]
    have HN10:=hid (nMb hm13 HN10.out HNE10_11.out);have HN11:=hid hv13;clear hv13 hm13;refine wpAnyH_done (by kernel_rfl) ⟨rfl,?_⟩ _;have HEND:=hid hHeld.2;have HSE:=hid hHeld.1;clear hHeld;clear HSE HSS;go_wp2_with fail;go_meet;exact ⟨_,_,_,rfl,rfl,rfl,HG10.out,HG11.out,HNE10_11.out,HEND.out,HN10.out,HN11.out⟩
  ·skip
   simp only [gE1,gE2,gE3];go_simp;obtain ⟨b10,y10,hw10,hy10,hx10,HN10⟩:=al wd (.cells #[.int .i64 0,.map none] 84);rw [hy10,hw10];have HG10:Hid (w2.heap.size≤b10):=hid (by have:=HBE.out.size;omega);clear hy10 hw10;have HBE:=hid (bthen HBE.out hx10);clear hHeld;refine hK.out _ _ (HSS.out _ HBE.out) fun hHeld => ?_;clear hK K;try simp only [Act.put,pE1,pE2,pE3]
   clear hx10;refine rd2 8 11 rfl rfl (fun K hK => ?_) fun K hK => ?_
   ·skip
    simp only [gE1,gE2,gE3];go_simp;refine (CP.out _).mono ?_;rintro e w3 ⟨rfl,hb3⟩;dsimp only;have HBE:=hid (bthen HBE.out hb3);clear hHeld;refine hK.out _ _ (HSS.out _ HBE.out) fun hHeld => ?_;clear hK K;try simp only [Act.put,pE1,pE2,pE3]
    have HN10:=hid (nX hb3 HN10.out);have HC8:=hid hb3;clear hb3;refine tkA 9 rfl ?_;refine rd1 11 rfl fun K hK => ?_;simp only [gE1,gE2,gE3];go_simp;obtain ⟨b11,y11,hw11,hy11,hx11,HN11⟩:=al w3 (.cells #[.int .i64 0,.int .i64 0] 136);rw [hy11,hw11];have HG11:Hid (w2.heap.size≤b11):=hid (by have:=HBE.out.size;omega);have HNE10_11:Hid (b10≠b11):=hid (by have:=(hLT HN10.out);omega);clear hy11 hw11;have HBE:=hid (bthen HBE.out hx11);clear hHeld;refine hK.out _ _ (HSS.out _ HBE.out) fun hHeld => ?_;clear hK K;try simp only [Act.put,pE1,pE2,pE3]
    have HN10:=hid (nX hx11 HN10.out);clear hx11;refine rd1 12 rfl fun K hK => ?_;obtain ⟨hc12_0,hf12_0,hc12_1,hf12_1⟩:=bx2 HN10.out;simp only [gE1,gE2,gE3];go_simp;obtain ⟨y12,hy12,hm12,hv12⟩:=st2 HN10.out (.int .i64 (x.1.size:Int)) (.map (some x.2));rw [hy12];clear hy12 hc12_0 hf12_0 hc12_1 hf12_1;have HBE:=hid (bM HBE.out hm12 HG10.out);clear hHeld;refine hK.out _ _ (HSS.out _ HBE.out) fun hHeld => ?_;clear hK K;try simp only [Act.put,pE1,pE2,pE3]
    have HN11:=hid (nMa hm12 HN11.out HNE10_11.out);have HN10:=hid hv12;clear hv12 hm12;refine rd1 13 rfl fun K hK => ?_;obtain ⟨hc13_0,hf13_0,hc13_1,hf13_1⟩:=bx2 HN11.out;simp only [gE1,gE2,gE3];go_simp;obtain ⟨y13,hy13,hm13,hv13⟩:=st2 HN11.out (.int .i64 o.pl) (.int .i64 o.count);rw [hy13];clear hy13 hc13_0 hf13_0 hc13_1 hf13_1;have HBE:=hid (bM HBE.out hm13 HG11.out);clear hHeld;refine hK.out _ _ (HSS.out _ HBE.out) fun hHeld => ?_;clear hK K;try simp only [Act.put,pE1,pE2,pE3]
    have HN10:=hid (nMb hm13 HN10.out HNE10_11.out);have HN11:=hid hv13;clear hv13 hm13;refine wpAnyH_done (by kernel_rfl) ⟨rfl,?_⟩ _;have HEND:=hid hHeld.2;have HSE:=hid hHeld.1;clear hHeld;clear HSE HSS;go_wp2_with fail;go_meet;exact ⟨_,_,_,rfl,rfl,rfl,HG10.out,HG11.out,HNE10_11.out,HEND.out,HN10.out,HN11.out⟩
   ·skip
    simp only [gE1,gE2,gE3];go_simp;obtain ⟨b11,y11,hw11,hy11,hx11,HN11⟩:=al y10 (.cells #[.int .i64 0,.int .i64 0] 136);rw [hy11,hw11];have HG11:Hid (w2.heap.size≤b11):=hid (by have:=HBE.out.size;omega);have HNE10_11:Hid (b10≠b11):=hid (by have:=(hLT HN10.out);omega);clear hy11 hw11;have HBE:=hid (bthen HBE.out hx11);clear hHeld;refine hK.out _ _ (HSS.out _ HBE.out) fun hHeld => ?_;clear hK K;try simp only [Act.put,pE1,pE2,pE3]
    have HN10:=hid (nX hx11 HN10.out);clear hx11;refine rd1 8 rfl fun K hK => ?_;simp only [gE1,gE2,gE3];go_simp;refine (CP.out _).mono ?_;rintro e w3 ⟨rfl,hb3⟩;dsimp only;have HBE:=hid (bthen HBE.out hb3);clear hHeld;refine hK.out _ _ (HSS.out _ HBE.out) fun hHeld => ?_;clear hK K;try simp only [Act.put,pE1,pE2,pE3]
    have HN10:=hid (nX hb3 HN10.out);have HN11:=hid (nX hb3 HN11.out);have HC8:=hid hb3;clear hb3;refine tkA 9 rfl ?_;refine rd1 12 rfl fun K hK => ?_;obtain ⟨hc12_0,hf12_0,hc12_1,hf12_1⟩:=bx2 HN10.out;simp only [gE1,gE2,gE3];go_simp;obtain ⟨y12,hy12,hm12,hv12⟩:=st2 HN10.out (.int .i64 (x.1.size:Int)) (.map (some x.2));rw [hy12];clear hy12 hc12_0 hf12_0 hc12_1 hf12_1;have HBE:=hid (bM HBE.out hm12 HG10.out);clear hHeld;refine hK.out _ _ (HSS.out _ HBE.out) fun hHeld => ?_;clear hK K;try simp only [Act.put,pE1,pE2,pE3]
    have HN11:=hid (nMa hm12 HN11.out HNE10_11.out);have HN10:=hid hv12;clear hv12 hm12;refine rd1 13 rfl fun K hK => ?_;obtain ⟨hc13_0,hf13_0,hc13_1,hf13_1⟩:=bx2 HN11.out;simp only [gE1,gE2,gE3];go_simp;obtain ⟨y13,hy13,hm13,hv13⟩:=st2 HN11.out (.int .i64 o.pl) (.int .i64 o.count);rw [hy13];clear hy13 hc13_0 hf13_0 hc13_1 hf13_1;have HBE:=hid (bM HBE.out hm13 HG11.out);clear hHeld;refine hK.out _ _ (HSS.out _ HBE.out) fun hHeld => ?_;clear hK K;try simp only [Act.put,pE1,pE2,pE3]
    have HN10:=hid (nMb hm13 HN10.out HNE10_11.out);have HN11:=hid hv13;clear hv13 hm13;refine wpAnyH_done (by kernel_rfl) ⟨rfl,?_⟩ _;have HEND:=hid hHeld.2;have HSE:=hid hHeld.1;clear hHeld;clear HSE HSS;go_wp2_with fail;go_meet;exact ⟨_,_,_,rfl,rfl,rfl,HG10.out,HG11.out,HNE10_11.out,HEND.out,HN10.out,HN11.out⟩
  ·skip
   simp only [gE1,gE2,gE3];go_simp;obtain ⟨b11,y11,hw11,hy11,hx11,HN11⟩:=al wd (.cells #[.int .i64 0,.int .i64 0] 136);rw [hy11,hw11];have HG11:Hid (w2.heap.size≤b11):=hid (by have:=HBE.out.size;omega);clear hy11 hw11;have HBE:=hid (bthen HBE.out hx11);clear hHeld;refine hK.out _ _ (HSS.out _ HBE.out) fun hHeld => ?_;clear hK K;try simp only [Act.put,pE1,pE2,pE3]
   clear hx11;refine rd2 8 10 rfl rfl (fun K hK => ?_) fun K hK => ?_
   ·skip
    simp only [gE1,gE2,gE3];go_simp;refine (CP.out _).mono ?_;rintro e w3 ⟨rfl,hb3⟩;dsimp only;have HBE:=hid (bthen HBE.out hb3);clear hHeld;refine hK.out _ _ (HSS.out _ HBE.out) fun hHeld => ?_;clear hK K;try simp only [Act.put,pE1,pE2,pE3]
    have HN11:=hid (nX hb3 HN11.out);have HC8:=hid hb3;clear hb3;refine tkA 9 rfl ?_;refine rd1 10 rfl fun K hK => ?_;simp only [gE1,gE2,gE3];go_simp;obtain ⟨b10,y10,hw10,hy10,hx10,HN10⟩:=al w3 (.cells #[.int .i64 0,.map none] 84);rw [hy10,hw10];have HG10:Hid (w2.heap.size≤b10):=hid (by have:=HBE.out.size;omega);have HNE10_11:Hid (b10≠b11):=hid (by have:=(hLT HN11.out);omega);clear hy10 hw10;have HBE:=hid (bthen HBE.out hx10);clear hHeld;refine hK.out _ _ (HSS.out _ HBE.out) fun hHeld => ?_;clear hK K;try simp only [Act.put,pE1,pE2,pE3]
    have HN11:=hid (nX hx10 HN11.out);clear hx10;refine rd1 12 rfl fun K hK => ?_;obtain ⟨hc12_0,hf12_0,hc12_1,hf12_1⟩:=bx2 HN10.out;simp only [gE1,gE2,gE3];go_simp;obtain ⟨y12,hy12,hm12,hv12⟩:=st2 HN10.out (.int .i64 (x.1.size:Int)) (.map (some x.2));rw [hy12];clear hy12 hc12_0 hf12_0 hc12_1 hf12_1;have HBE:=hid (bM HBE.out hm12 HG10.out);clear hHeld;refine hK.out _ _ (HSS.out _ HBE.out) fun hHeld => ?_;clear hK K;try simp only [Act.put,pE1,pE2,pE3]
    have HN11:=hid (nMa hm12 HN11.out HNE10_11.out);have HN10:=hid hv12;clear hv12 hm12;refine rd1 13 rfl fun K hK => ?_;obtain ⟨hc13_0,hf13_0,hc13_1,hf13_1⟩:=bx2 HN11.out;simp only [gE1,gE2,gE3];go_simp;obtain ⟨y13,hy13,hm13,hv13⟩:=st2 HN11.out (.int .i64 o.pl) (.int .i64 o.count);rw [hy13];clear hy13 hc13_0 hf13_0 hc13_1 hf13_1;have HBE:=hid (bM HBE.out hm13 HG11.out);clear hHeld;refine hK.out _ _ (HSS.out _ HBE.out) fun hHeld => ?_;clear hK K;try simp only [Act.put,pE1,pE2,pE3]
    have HN10:=hid (nMb hm13 HN10.out HNE10_11.out);have HN11:=hid hv13;clear hv13 hm13;refine wpAnyH_done (by kernel_rfl) ⟨rfl,?_⟩ _;have HEND:=hid hHeld.2;have HSE:=hid hHeld.1;clear hHeld;clear HSE HSS;go_wp2_with fail;go_meet;exact ⟨_,_,_,rfl,rfl,rfl,HG10.out,HG11.out,HNE10_11.out,HEND.out,HN10.out,HN11.out⟩
   ·skip
    simp only [gE1,gE2,gE3];go_simp;obtain ⟨b10,y10,hw10,hy10,hx10,HN10⟩:=al y11 (.cells #[.int .i64 0,.map none] 84);rw [hy10,hw10];have HG10:Hid (w2.heap.size≤b10):=hid (by have:=HBE.out.size;omega);have HNE10_11:Hid (b10≠b11):=hid (by have:=(hLT HN11.out);omega);clear hy10 hw10;have HBE:=hid (bthen HBE.out hx10);clear hHeld;refine hK.out _ _ (HSS.out _ HBE.out) fun hHeld => ?_;clear hK K;try simp only [Act.put,pE1,pE2,pE3]
    have HN11:=hid (nX hx10 HN11.out);clear hx10;refine rd1 8 rfl fun K hK => ?_;simp only [gE1,gE2,gE3];go_simp;refine (CP.out _).mono ?_;rintro e w3 ⟨rfl,hb3⟩;dsimp only;have HBE:=hid (bthen HBE.out hb3);clear hHeld;refine hK.out _ _ (HSS.out _ HBE.out) fun hHeld => ?_;clear hK K;try simp only [Act.put,pE1,pE2,pE3]
    have HN11:=hid (nX hb3 HN11.out);have HN10:=hid (nX hb3 HN10.out);have HC8:=hid hb3;clear hb3;refine tkA 9 rfl ?_;refine rd1 12 rfl fun K hK => ?_;obtain ⟨hc12_0,hf12_0,hc12_1,hf12_1⟩:=bx2 HN10.out;simp only [gE1,gE2,gE3];go_simp;obtain ⟨y12,hy12,hm12,hv12⟩:=st2 HN10.out (.int .i64 (x.1.size:Int)) (.map (some x.2));rw [hy12];clear hy12 hc12_0 hf12_0 hc12_1 hf12_1;have HBE:=hid (bM HBE.out hm12 HG10.out);clear hHeld;refine hK.out _ _ (HSS.out _ HBE.out) fun hHeld => ?_;clear hK K;try simp only [Act.put,pE1,pE2,pE3]
    have HN11:=hid (nMa hm12 HN11.out HNE10_11.out);have HN10:=hid hv12;clear hv12 hm12;refine rd1 13 rfl fun K hK => ?_;obtain ⟨hc13_0,hf13_0,hc13_1,hf13_1⟩:=bx2 HN11.out;simp only [gE1,gE2,gE3];go_simp;obtain ⟨y13,hy13,hm13,hv13⟩:=st2 HN11.out (.int .i64 o.pl) (.int .i64 o.count);rw [hy13];clear hy13 hc13_0 hf13_0 hc13_1 hf13_1;have HBE:=hid (bM HBE.out hm13 HG11.out);clear hHeld;refine hK.out _ _ (HSS.out _ HBE.out) fun hHeld => ?_;clear hK K;try simp only [Act.put,pE1,pE2,pE3]
    have HN10:=hid (nMb hm13 HN10.out HNE10_11.out);have HN11:=hid hv13;clear hv13 hm13;refine wpAnyH_done (by kernel_rfl) ⟨rfl,?_⟩ _;have HEND:=hid hHeld.2;have HSE:=hid hHeld.1;clear hHeld;clear HSE HSS;go_wp2_with fail;go_meet;exact ⟨_,_,_,rfl,rfl,rfl,HG10.out,HG11.out,HNE10_11.out,HEND.out,HN10.out,HN11.out⟩
 case rest =>
  obtain ⟨W,b7,b8,rfl,rfl,rfl,hg7,hg8,hne,hbw,hn7,hn8⟩:=hcut;have HBW:=hid hbw;have HN7:=hid hn7;have HN8:=hid hn8;have HDW:=hid (HD2.out.below hbw);have HG7:=hid hg7;have HG8:=hid hg8;have HML:=hid (HDW.out.vol _ (getA_some HG.out));have HXB:Hid (x.2<w.heap.size):=hid ((HH.out.vol _ (getA_some HG.out)).lt);have HA2:=hid ((hbw.block _ (hLT HBX.out.ans)).trans HBX.out.ans);have HSW:=hid HBX.out.sz;obtain ⟨pn,hpn⟩:∃ pn:Nat,o.pl=(pn:Int):=⟨o.pl.toNat,by have:=HPL.out;omega⟩
  obtain ⟨cn,hcn⟩:∃ cn:Nat,o.count=(cn:Int):=⟨o.count.toNat,by have:=HCT.out;omega⟩
  have hp1:pn≤1048576:=by have:=HPL.out;omega
  have hc1:1≤cn∧cn≤1024:=by have:=HCT.out;omega
  have HSPI:Hid (∀ i,SpIn x.1.size (gI pn cn i).2):=hid (gI_in hc1.1 (by have:=HROW.out;omega));have HE:Hid (pSpansI o.pl o.count=pSpans pn cn):=hid (by
   have ho:pOk o.pl o.count=true:=by simp only [pOk,Bool.and_eq_true,decide_eq_true_eq];omega
   unfold pSpansI;rw [if_pos ho,hpn,hcn]
   rfl)
  rw [hpn,hcn] at hn8;have c80:=cellOf hn8 0 (v:=.int .i64 (pn:Int)) rfl;have c81:=cellOf hn8 1 (v:=.int .i64 (cn:Int)) rfl;have HN8:=hid hn8;clear hpn hcn;have hl8:b8<W.heap.size:=(hLT hn8)
  clear hbw hn7 hn8 hg7 hg8 hne HLK HX2 HLT t1;go_wp2_with fail;refine (over_any _ _ _).mono ?_;rintro e w4 ⟨rfl,rfl⟩;go_wp2_with fail;have b0:=Boxed.new W 33 (.slice none 0 0);have c1:=newCell (W.alloc (.cells #[.slice none 0 0] 33)) (.int .i64 (pn:Int)) 3;have c2:=newCell ((W.alloc (.cells #[.slice none 0 0] 33)).alloc (.cells #[.int .i64 (pn:Int)] 3)) (.int .i64 (cn:Int)) 3;simp only [World.size_alloc] at c1 c2;have b2:=(b0.alloc (.cells #[.int .i64 (pn:Int)] 3)).alloc (.cells #[.int .i64 (cn:Int)] 3)
  have hB0:Below W.heap.size W (((W.alloc (.cells #[.slice none 0 0] 33)).alloc (.cells #[.int .i64 (pn:Int)] 3)).alloc (.cells #[.int .i64 (cn:Int)] 3)):=balloc (balloc (balloc (Below.refl _ _) _) _) _;have hlen:pM pn cn≤1024:=Nat.le_trans pM_le hc1.2;have HMOK:=hid (HDW.out.ok.vol (o.vol,x.1) (by unfold strip mapA;exact List.mem_map.2 ⟨_,getA_some HG.out,rfl⟩));have HLW:Hid (w.heap.size+2≤W.heap.size∧b7<W.heap.size):=hid ⟨by have:=HSW.out;have:=HBW.out.size;omega,(hLT HN7.out)⟩;clear c80 c81 hl8
  refine wpIn_wide.1 (wpIn_rangeFunc_ownH (n:=5) hro (by omega) (gf:=102) (lb:=#[.pointer (some ⟨W.heap.size+1,0,none⟩),.pointer (some ⟨W.heap.size+1+1,0,none⟩)]) rfl trivial (enters_of Tryz.func102 (by kernel_rfl) rfl)
   (over_stopsG (gI pn cn) id Fence.wide (5 - 1) trivial hro (by omega) (W.heap.size+1) pn cn (fun i hi=>by unfold gI;rw [Nat.min_eq_left (by show i≤_;omega)];rfl) (by omega) hc1.1 _ (by simp) (FpOut W.heap.size) (fun Y o k hW h=>FpOut.alloc (by simp at hW;omega) o h)
    (fun Y hW=>⟨fun k hk=>by have h1:=FpOut.start (by simp;omega) b2.cell Y hW hk;have:=hW.size;simp at this;omega,
     fun hk=>by have h1:=FpOut.start (by simp;omega) b2.cell Y hW hk;omega,fun hk=>by have h1:=FpOut.start (by simp;omega) b2.cell Y hW hk;omega⟩) (cellAlloc _ c1.1) c2.1)
   KpF.trans (KpF.put (FpOut.put (by simp;omega))) (Below.refl _ _) (fun _=>rfl)
   (fun pre Y=>(∃ v,Boxed Y W.heap.size 33 v∧Y.ownsRow W.heap.size 5 1 v (readM x.1.m (pre.map fun i=>(gI pn cn i).2)).length (bV (readM x.1.m (pre.map fun i=>(gI pn cn i).2)))∧True)∧Below W.heap.size W Y)
   (fun _ _ _=>False)
   (OwnFrom.and (Own.from (holdsRow_own W.heap.size W.heap.size 33 5 1 (fun pre:List Nat=>(readM x.1.m (pre.map fun i=>(gI pn cn i).2)).length) (fun pre=>bV (readM x.1.m (pre.map fun i=>(gI pn cn i).2))) (fun _ _=>True)) _) (ownFrom_below (Nat.le_refl _) (by simp;omega)))
   (fun _ _ _ _ _ hs _ _=>hs)
   ⟨⟨_,b2,World.ownsRow_nil _ _ _ _,trivial⟩,hB0⟩
   (fun y a' Y=>∃ Bs,W.heap.size<Bs∧Y.heap[Bs]? = some (.cells #[.int .i64 (gI pn cn y).2.blk,.int .i64 (gI pn cn y).2.lo,.int .i64 (gI pn cn y).2.hi] 100 (0,0))∧a'={ tmps:=#[.pointer (some ⟨B,0,none⟩),.agg #[.int .i64 o.k,.int .u64 (o.vol:Int),.int .u64 (o.to:Int),.int .i64 o.size,.int .i64 o.pl,.int .i64 o.count,sl],.int .i64 b,undef,.pointer (some ⟨w.heap.size,0,none⟩),undef,.pointer (some ⟨w.heap.size+1,0,none⟩),.pointer (some ⟨b7,0,none⟩),.pointer (some ⟨b8,0,none⟩),.pointer (some ⟨W.heap.size,0,none⟩),u10,.pointer (some ⟨Bs,0,none⟩),u12,u13,u14,u15,u16,u17,u18,u19,u20,u21,.pointer (some ⟨b8,0,none⟩),.int .i64 (pn:Int),.pointer (some ⟨b8,1,none⟩),.int .i64 (cn:Int),.func (.func 102) #[] #[.pointer (some ⟨W.heap.size+1,0,none⟩),.pointer (some ⟨W.heap.size+1+1,0,none⟩)],.int .i64 (gI pn cn y).1,spanV (gI pn cn y).2,undef,undef,undef,undef,undef,undef,undef,undef,undef,undef,undef],defers:=[] })
   (fun y a' _ A C row hs hg hr=>by
    obtain ⟨Bs,h1,h2,h3⟩:=hs;exact ⟨Bs,h1,rowKept h2 hg (fun r e=>(hr r e).2),h3⟩) ?assign ?body ?done ?stop)
  case assign =>
   rintro l pre y Y K ⟨⟨v,hv,hrow,hpre⟩,hB⟩ hK;have hlt:=hv.lt;have hsz:=hB.size
   simp [itemVs,spanV]
   gi_wp2
   exact hK _ _ ((KeepsOthers.alloc _ _).from _) (KpF.alloc (KpF.refl _ _) _ (fun k h=>FpOut.alloc hlt _ h)) ⟨⟨v,hv.alloc _,hrow.alloc _,hpre⟩,balloc hB _⟩ ⟨Y.heap.size,hlt,heap_alloc_new Y _,rfl⟩
  case body =>
   rintro l pre y a' Y hl ⟨r,hr⟩ ⟨⟨v,hv,hrow,_⟩,hB⟩ ⟨Bs,hBs,hs,rfl⟩ hlt;obtain ⟨s,hsg⟩:∃ s,(gI pn cn y).2=s:=⟨_,rfl⟩
   have HSI1:Hid (s.blk<256∧s.lo<s.hi∧s.hi≤4):=hid (by have h1:=HSPI.out y;rw [hsg] at h1;have h2:=HMOK.out.size;have h3:x.1.size≤256:=h2;unfold SpIn at h1;omega);have HSG:=hid hsg;rw [hsg] at hs ⊢;clear hsg;have HV:=hid hv;have HROWB:=hid hrow;have HBY:=hid hB;have HS:=hid hs;have HLT:=hid hlt;have HBK:=hid (blkAt_len (m:=x.1.m) HMOK.out.blk s.blk);have HN7Y:=hid ((hB.block b7 HLW.out.2).trans HN7.out);have HMY:=hid (HML.out.below hB);have HNX:Hid (∀ i,i<W.heap.size→i∉(W.heap.size :: ob v)):=hid (fun i hi hh=>by
    rcases List.mem_cons.1 hh with h | h
    ·omega
    ·have:=ownsRow_ge HROWB.out i h
     omega)
   have HNS:Hid (Bs∉(W.heap.size :: ob v)):=hid (fun hh=>by
    rcases List.mem_cons.1 hh with h | h
    ·omega
    ·exact ob_tag HROWB.out HS.out (by decide) h)
   have HLEN:Hid (((readM x.1.m (pre.map fun i=>(gI pn cn i).2)).length+(s.hi - s.lo) * 64) * 1≤140737488355328):=hid (by
    have h1:=readM_len x.1.m HMOK.out.blk (pre.map fun i=>(gI pn cn i).2);rw [List.length_map] at h1;have:=HSI1.out
    omega)
   have HRS:Hid (readM x.1.m ((pre ++ [y]).map fun i=>(gI pn cn i).2)=readM x.1.m (pre.map fun i=>(gI pn cn i).2) ++ cutB (blkAt x.1.m s.blk) s.lo s.hi):=hid (by
    rw [List.map_append,List.map_cons,List.map_nil,HSG.out,readM_snoc])
   have HCL:Hid ((cutB (blkAt x.1.m s.blk) s.lo s.hi).length=(s.hi - s.lo) * 64):=hid (by
    have:=HSI1.out;unfold cutB;simp only [List.length_take,List.length_drop,HBK.out]
    omega)
   obtain ⟨R,hR⟩:∃ R,readM x.1.m (pre.map fun i=>(gI pn cn i).2)=R:=⟨_,rfl⟩
   rw [hR] at HROWB HLEN HRS;clear hv hrow hB hs hlt b0 b2 c1 c2 hB0 hR hr
   gi_wp2
   have HSS:Hid (∀ X,Mods (W.heap.size :: ob v) Y X→(X.cell? ⟨b7,1,none⟩=some (.map (some x.2))∧X.cell? ⟨Bs,0,none⟩=some (.int .i64 (s.blk:Int))∧X.cell? ⟨Bs,1,none⟩=some (.int .i64 (s.lo:Int))∧X.cell? ⟨Bs,2,none⟩=some (.int .i64 (s.hi:Int)))∧Mods (W.heap.size :: ob v) Y X):=hid (fun X hb=>⟨⟨(World.cell?_of_block (hb.block _ ((hLT HN7Y.out)) (HNX.out b7 HLW.out.2))).trans (cellOf HN7Y.out 1 rfl),(World.cell?_of_block (hb.block _ ((hLT HS.out)) (HNS.out))).trans (cellOf HS.out 0 rfl),(World.cell?_of_block (hb.block _ ((hLT HS.out)) (HNS.out))).trans (cellOf HS.out 1 rfl),(World.cell?_of_block (hb.block _ ((hLT HS.out)) (HNS.out))).trans (cellOf HS.out 2 rfl)⟩,hb⟩)
   refine region_round (S:=fun X=>(X.cell? ⟨b7,1,none⟩=some (.map (some x.2))∧X.cell? ⟨Bs,0,none⟩=some (.int .i64 (s.blk:Int))∧X.cell? ⟨Bs,1,none⟩=some (.int .i64 (s.lo:Int))∧X.cell? ⟨Bs,2,none⟩=some (.int .i64 (s.hi:Int)))∧Mods (W.heap.size :: ob v) Y X) (by kernel_rfl) (by kernel_rfl) (HSS.out _ (Mods.of_below (Below.refl _ _).drew)) (fun hHeld => ?_);have hbe:Below Y.heap.size Y Y.drew:=(Below.refl _ _).drew;obtain ⟨wd,hwd⟩:∃ y,Y.drew=y:=⟨_,rfl⟩
   rw [hwd] at hHeld hbe ⊢;have HBE:=hid hbe;have HS0:Hid (Y.heap.size≤wd.heap.size):=hid HBE.out.size;clear hwd hbe;refine tkA 1 rfl ?_;refine tkA 3 rfl ?_;refine tkA 6 rfl ?_;refine tkA 2 rfl ?_;refine tkA 4 rfl ?_;refine tkB 5 (bA (blkAt x.1.m s.blk)) rfl ?_ ?_
   ·(intro w hSw;simp only [gE1,gE2,gE3];(have h6:=(HMY.out.mods hSw.2 (HNX.out x.2 (by have h1:=HXB.out;have h2:=HLW.out.1;omega))).blk (n:=s.blk) (by have:=HSI1.out;omega);go_simp;first | done | with_reducible rfl))
   refine rd2 0 7 rfl rfl (fun K hK => ?_) fun K hK => ?_
   ·skip
    have hrd:=(World.cell?_of_block (HBE.out.block W.heap.size HV.out.lt)).trans HV.out.cell;simp only [gE1,gE2,gE3];go_simp;clear hrd;refine hK.out _ _ ?_ (fun hHeld => ?_)
    ·exact (by first | exact HSS.out _ (Mods.of_below HBE.out) | exact HSS.out _ HMD.out)
    clear hK K;try simp only [Act.put,pE1,pE2,pE3]
    refine rd1 7 rfl fun K hK => ?_;simp only [gE1,gE2,gE3];go_simp;refine (cut_ok (blkAt x.1.m s.blk) HBK.out (s.blk:Int) s.lo s.hi HSI1.out.2.1 HSI1.out.2.2 _).mono ?_;rintro e w7 ⟨v7,rfl,ho7,hb7⟩;dsimp only;have HBE:=hid (bthen HBE.out hb7);clear hHeld;refine hK.out _ _ (HSS.out _ (Mods.of_below HBE.out)) fun hHeld => ?_;clear hK K;try simp only [Act.put,pE1,pE2,pE3]
    have HC7:=hid hb7;clear hb7;refine rd1 8 rfl fun K hK => ?_;simp only [gE1,gE2,gE3];rw [if_pos (by rfl)];refine wp_apps _ _ 33 rfl W.heap.size 5 _ 1 1 Tryz.underlying33 infoByte rfl (by decide) (by decide) v _ _ (by rfl) (ownsRow_below HROWB.out HBE.out) _ ((s.hi - s.lo) * 64) _ (by rfl) (Rd.of_own ho7) (bV_one _) HLEN.out (Nat.le_trans HBY.out.size HBE.out.size) ?_;intro v8 w8 ho8 hb8 hg8 hs8 hn8;refine hK.out _ _ ?_ (fun hHeld => ?_)
    ·exact HSS.out _ ((Mods.of_below HBE.out).trans (Chg.of_grown hg8 hs8).1 (fun i hi=>.inl (List.mem_cons_of_mem _ hi)))
    clear hK K;try simp only [Act.put,pE1,pE2,pE3]
    have hm8:Mods (W.heap.size :: ob v) Y w8:=(Mods.of_below HBE.out).trans (Chg.of_grown hg8 hs8).1 (fun i hi=>.inl (List.mem_cons_of_mem _ hi));have hvw:Boxed w7 W.heap.size 33 v:=(HBE.out.block W.heap.size HV.out.lt).trans HV.out;have hrw9:=ownsRow_below HROWB.out HBE.out;obtain ⟨ao8,cap8,hv8,_⟩:=Rd.of_own ho8;subst hv8;obtain ⟨hbx,hkp,hbx2⟩:=KpF.app hvw (by decide) hrw9 hg8 hs8 ho8;have HKF:=hid ((KpF.ofBelow HV.out.lt HBE.out).trans hkp)
    have HKP:=hid (keeps_app (C:=W.heap.size+1+1+1) (u:=.slice ao8 (R.length+(s.hi - s.lo) * 64) cap8) HBE.out hvw hrw9 hg8 hbx);have HBX2:=hid hbx2;have HO8:=hid ho8;have HBX1:=hid hbx;have HM8:=hid hm8;clear hvw hrw9 hbx hkp hbx2 ho8 hb8 hg8 hs8 hn8 hm8;refine rd1 9 rfl fun K hK => ?_;have hc9:=HBX1.out.cell;have hf9:=HBX1.out.frozen;simp only [gE1,gE2,gE3];go_simp;refine hK.out _ _ ?_ (fun hHeld => ?_)
    ·exact HSS.out _ (HM8.out.setCell (p:=⟨W.heap.size,0,none⟩) (List.mem_cons_self ..) _)
    clear hK K;try simp only [Act.put,pE1,pE2,pE3]
    refine wpAnyH_done (by kernel_rfl) ⟨rfl,?_⟩ _;have HEND:=hid hHeld.2;have HSE:=hid hHeld.1;clear hHeld;clear HSE HSS
    gi_wp2
    refine ⟨?_,HKF.out,⟨_,HBX2.out,?_,trivial⟩,?_⟩
    ·have:=HKP.out
     simpa using this
    ·rw [HRS.out,List.length_append,HCL.out,show bV (R ++ cutB (blkAt x.1.m s.blk) s.lo s.hi)=bV R ++ bV (cutB (blkAt x.1.m s.blk) s.lo s.hi) from by unfold bV;rw [List.map_append]]
     exact ownsRow_at HO8.out (fun k hk=>Below.heap_setCell _ ⟨W.heap.size,0,none⟩ _ k (fun e=>by
      have e2:k=W.heap.size:=e;rw [e2] at hk;exact ob_tag HO8.out (show w8.heap[W.heap.size]? = some (.cells #[v] 33 (0,0)) from HBX1.out) (by decide) hk))
    ·exact HBY.out.trans (HEND.out.below (fun k hk=>by
      rcases List.mem_cons.1 hk with h | h
      ·omega
      ·exact ownsRow_ge HROWB.out k h) HBY.out.size)
   ·skip
    simp only [gE1,gE2,gE3];go_simp;refine (cut_ok (blkAt x.1.m s.blk) HBK.out (s.blk:Int) s.lo s.hi HSI1.out.2.1 HSI1.out.2.2 _).mono ?_;rintro e w7 ⟨v7,rfl,ho7,hb7⟩;dsimp only;have HBE:=hid (bthen HBE.out hb7);clear hHeld;refine hK.out _ _ (HSS.out _ (Mods.of_below HBE.out)) fun hHeld => ?_;clear hK K;try simp only [Act.put,pE1,pE2,pE3]
    have HC7:=hid hb7;clear hb7;refine rd1 0 rfl fun K hK => ?_;have hrd:=(World.cell?_of_block (HBE.out.block W.heap.size HV.out.lt)).trans HV.out.cell;simp only [gE1,gE2,gE3];go_simp;clear hrd;refine hK.out _ _ ?_ (fun hHeld => ?_)
    ·exact (by first | exact HSS.out _ (Mods.of_below HBE.out) | exact HSS.out _ HMD.out)
    clear hK K;try simp only [Act.put,pE1,pE2,pE3]
    refine rd1 8 rfl fun K hK => ?_;simp only [gE1,gE2,gE3];rw [if_pos (by rfl)];refine wp_apps _ _ 33 rfl W.heap.size 5 _ 1 1 Tryz.underlying33 infoByte rfl (by decide) (by decide) v _ _ (by rfl) (ownsRow_below HROWB.out HBE.out) _ ((s.hi - s.lo) * 64) _ (by rfl) (Rd.of_own ho7) (bV_one _) HLEN.out (Nat.le_trans HBY.out.size HBE.out.size) ?_;intro v8 w8 ho8 hb8 hg8 hs8 hn8;refine hK.out _ _ ?_ (fun hHeld => ?_)
    ·exact HSS.out _ ((Mods.of_below HBE.out).trans (Chg.of_grown hg8 hs8).1 (fun i hi=>.inl (List.mem_cons_of_mem _ hi)))
    clear hK K;try simp only [Act.put,pE1,pE2,pE3]
    have hm8:Mods (W.heap.size :: ob v) Y w8:=(Mods.of_below HBE.out).trans (Chg.of_grown hg8 hs8).1 (fun i hi=>.inl (List.mem_cons_of_mem _ hi));have hvw:Boxed w7 W.heap.size 33 v:=(HBE.out.block W.heap.size HV.out.lt).trans HV.out;have hrw9:=ownsRow_below HROWB.out HBE.out;obtain ⟨ao8,cap8,hv8,_⟩:=Rd.of_own ho8;subst hv8;obtain ⟨hbx,hkp,hbx2⟩:=KpF.app hvw (by decide) hrw9 hg8 hs8 ho8;have HKF:=hid ((KpF.ofBelow HV.out.lt HBE.out).trans hkp)
    have HKP:=hid (keeps_app (C:=W.heap.size+1+1+1) (u:=.slice ao8 (R.length+(s.hi - s.lo) * 64) cap8) HBE.out hvw hrw9 hg8 hbx);have HBX2:=hid hbx2;have HO8:=hid ho8;have HBX1:=hid hbx;have HM8:=hid hm8;clear hvw hrw9 hbx hkp hbx2 ho8 hb8 hg8 hs8 hn8 hm8;refine rd1 9 rfl fun K hK => ?_;have hc9:=HBX1.out.cell;have hf9:=HBX1.out.frozen;simp only [gE1,gE2,gE3];go_simp;refine hK.out _ _ ?_ (fun hHeld => ?_)
    ·exact HSS.out _ (HM8.out.setCell (p:=⟨W.heap.size,0,none⟩) (List.mem_cons_self ..) _)
    clear hK K;try simp only [Act.put,pE1,pE2,pE3]
    refine wpAnyH_done (by kernel_rfl) ⟨rfl,?_⟩ _;have HEND:=hid hHeld.2;have HSE:=hid hHeld.1;clear hHeld;clear HSE HSS
    gi_wp2
    refine ⟨?_,HKF.out,⟨_,HBX2.out,?_,trivial⟩,?_⟩
    ·have:=HKP.out
     simpa using this
    ·rw [HRS.out,List.length_append,HCL.out,show bV (R ++ cutB (blkAt x.1.m s.blk) s.lo s.hi)=bV R ++ bV (cutB (blkAt x.1.m s.blk) s.lo s.hi) from by unfold bV;rw [List.map_append]]
     exact ownsRow_at HO8.out (fun k hk=>Below.heap_setCell _ ⟨W.heap.size,0,none⟩ _ k (fun e=>by
      have e2:k=W.heap.size:=e;rw [e2] at hk;exact ob_tag HO8.out (show w8.heap[W.heap.size]? = some (.cells #[v] 33 (0,0)) from HBX1.out) (by decide) hk))
    ·exact HBY.out.trans (HEND.out.below (fun k hk=>by
      rcases List.mem_cons.1 hk with h | h
      ·omega
      ·exact ownsRow_ge HROWB.out k h) HBY.out.size)
  case done =>
   rintro D ys Y hD rfl ⟨⟨v,hv,hrow,_⟩,hB⟩ hK;obtain ⟨ao9,cap9,rfl,_,_,_,_⟩:=Rd.of_own hrow;have hvc:=hv.cell;have hxa:=(hB.block _ (hLT HA2.out)).trans HA2.out;have HXA:=hid hxa;have e0:=cellOf hxa 0 (v:=.int .i64 0) rfl;have e1:=cellOf hxa 1 (v:=.int .i64 0) rfl;have e2:=cellOf hxa 2 (v:=.slice none 0 0) rfl;have f0:=frozenOf hxa 0;have f1:=frozenOf hxa 1;have f2:=frozenOf hxa 2;have HBY:=hid hB;have HROWY:=hid hrow;have HDK:=hid hK;have HDS:=hid hD;clear hxa hB hrow hK b0 b2 c1 c2 hB0 hv;have HDK2:=hid HDK.out
   obtain ⟨n9,hn9⟩:∃ n9,(readM x.1.m (((List.range (pM pn cn)).map id).map fun i=>(gI pn cn i).2)).length=n9:=⟨_,rfl⟩
   rw [hn9] at hvc;have HN9:=hid hn9;clear hn9 hD;go_wp2_with fail;obtain ⟨hx4,hm4⟩:=set3 (x:=.int .i64 0) (y:=.int .i64 0) (z:=.slice ao9 n9 cap9) HXA.out;obtain ⟨Z,hZ⟩:∃ Z,(((Y.setCell ⟨w.heap.size+1,0,none⟩ (.int .i64 0)).setCell ⟨w.heap.size+1,1,none⟩ (.int .i64 0)).setCell ⟨w.heap.size+1,2,none⟩ (.slice ao9 n9 cap9))=Z:=⟨_,rfl⟩
   rw [hZ] at hx4 hm4 ⊢;have hDW:w.heap.size+1<D:=by have h1:=HDS.out;have h2:=HLW.out.1;simp at h1;omega
   have hK4:Z.heap[D]? = some (.deferred (some [])):=(hm4.block D (hLT HDK.out) (by simp;omega)).trans HDK.out;have hrow4:Z.ownsRow W.heap.size 5 1 (.slice ao9 n9 cap9) n9 (bV (readM x.1.m (pSpans pn cn))):=by
    have h1:=HROWY.out;rw [HN9.out,gI_all] at h1;refine ownsRow_at h1 (fun k hk=>hm4.block k (ownsRow_lt h1 k hk) (fun hh => ?_));have e:k=w.heap.size+1:=by simpa using hh
    have:=ownsRow_ge h1 k hk;have:=HLW.out.1;omega
   have HN9':Hid ((readM x.1.m (pSpans pn cn)).length=n9):=hid (by rw [← gI_all];exact HN9.out);refine ⟨by simp,.inl ⟨_,_,rfl,run_takeDeferred hK4,?_⟩⟩;refine ⟨_,resAns rfl _ _ (w.heap.size+1) _ _ _ rfl ((World.putObj_heap_other (by omega)).trans hx4),_,rfl,?_,?_⟩
   ·rw [HE.out,HN9'.out]
    exact ownsRow_base (ownsRow_putObj hrow4 _ hK4 rfl) (by have:=HLW.out.1;omega)
   ·have hBZ:Below w.heap.size w Z:=((bthen HBX.out.bel HBW.out).trans (HBY.out.mono (by have:=HLW.out.1;omega))).trans (hm4.below (fun k hk=>by have e:=List.mem_singleton.1 hk;omega) (by have h1:=HBY.out.size;have h2:=HLW.out.1;omega))
    exact hBZ.trans (belowK_b (w:=w) (Nat.le_refl _) Z D _ _ (by omega) hK4 rfl rfl)
  case stop =>
   rintro D c pre Y _ _ h _;exact h.elim
theorem dread_at (n0:Nat) (w:World) (B Ba:Nat) (l:List (Nat × (Vl × Nat))) (h:DevAt n0 w B Ba l) (o:Op0) (ao:Option Addr) (cap:Nat) (b:Int) (hn:o.data.length≤9223372036854775807) (hmay:mayO o=true) (hk:o.k=9) (x:Vl × Nat) (hg:getA o.vol l=some x)
  (hrow:o.pl+o.count≤4 * (x.1.size:Int)) :
  Calls Tryz.prog 47 #[.pointer (some ⟨B,0,none⟩),.agg (oC o (.slice ao o.data.length cap)),.int .i64 b] w fun e w'=>∃ sv,e = .returned (.agg #[.int .i64 0,.int .i64 0,sv]) ∧
   w'.ownsRow w.heap.size 5 1 sv (readM x.1.m (pSpansI o.pl o.count)).length (bV (readM x.1.m (pSpansI o.pl o.count)))∧Below w.heap.size w w' :=
 callsIn_wide.1 (dread_in n0 w B Ba l h o ao cap b hn hmay hk x hg hrow)
end Go.Proofs.YthkmihedkddnmaaGreat
