import Derived.Test.YthkmihedkddnmaaGreatUG2
import Derived.Test.YthkmihedkddnmaaGreatUG14
import Derived.Test.YthkmihedkddnmaaGreatUG11
import Derived.Test.YthkmihedkddnmaaGreatUG12
set_option linter.unusedVariables false
set_option linter.unusedSimpArgs false
set_option maxHeartbeats 6400000
set_option maxRecDepth 100000
namespace Go.Proofs.YthkmihedkddnmaaGreat
open Lib (hid)
open Go.RowKit Go.Maps Wire Cmd
theorem Rd.mods {w w':World} {size n:Nat} {v:Value} {xs:List Value} {F:List Nat} (h:Rd w size v n xs) (hm:Mods F w w') (hF:∀ f∈F,∃ es clock,w.heap[f]? = some (.map es clock)):Rd w' size v n xs:=by
 obtain ⟨ao,cap,hv,hl,hmx,hn,hc⟩:=h;refine ⟨ao,cap,hv,hl,hmx,hn,fun j u hj => ?_⟩;obtain ⟨b,off,ha,hlt,hcell⟩:=hc j u hj;refine ⟨b,off,ha,Nat.lt_of_lt_of_le hlt hm.size,(World.cell?_of_block (hm.block b hlt (fun hb => ?_))).trans hcell⟩;obtain ⟨es,clock,he⟩:=hF b hb;unfold World.cell? at hcell;rw [show (⟨b,off+j,none⟩:Addr).block=b from rfl,he] at hcell
 cases hcell
theorem zeroBlk (w:World):(zeroValue 50).run Tryz.prog w = .ok (bA zeroB) w:=by kernel_rfl
theorem MapL.blk {w:World} {b:Nat} {m:List (Nat × List UInt8)} (h:MapL w Tryz.prog 3 RBlk .i64 blkD b m) {n:Nat} (hn:n<9223372036854775808) :
  (Instr.lookup 82 (.map (some b)) (.int .i64 (n:Int)) false).run Tryz.prog w = .ok (bA (blkAt m n)) w:=by
 obtain ⟨v,ps,h1,h2⟩:=h.look undInt undBlks (zeroBlk w) (RBlk_mk (b:=zeroB) (by unfold zeroB;rw [List.length_replicate])) (wfI64 hn);have h3:RBlk v=some (blkD (blkAt m n),ps):=by
  rw [h2];unfold blkAt
  cases getA n m <;> rfl
 obtain ⟨_,rfl,_⟩:=RBlk_inv h3;exact h1
theorem made_zero (n:Nat):(madeCells (Value.int .u8 0).cells (n * 1)).toList=bV (List.replicate n 0):=by
 rw [Nat.mul_one];refine List.ext_getElem? fun i => ?_;have hs:(Value.int .u8 0).cells=#[.int .u8 0]:=rfl;rw [bV_get?];simp only [madeCells,hs]
 by_cases h:i<n
 ·simp [h,List.getElem?_replicate,Nat.mod_one]
 ·simp [h,List.getElem?_replicate]
theorem partSplit_any (a c:Int) (hc0 : -9223372036854775808≤c) (w:World) :
  Calls Tryz.prog 74 #[.int .i64 a,.int .i64 c] w fun e w'=>∃ v,e = .returned v ∧
   w'.ownsRow w.heap.size 100 3 v (pSpansI a c).length (spansCells (pSpansI a c))∧Below w.heap.size w w':=by
 refine (callsIn_wide.1 (partSplit_in a c hc0 w)).mono fun e w' ⟨v,h1,h2,h3⟩=>⟨v,h1,?_,h3⟩
 have e:(pItemsI a c).map (·.2)=pSpansI a c:=by
  unfold pItemsI pSpansI
  split
  ·unfold pItems pSpans pItem
   rw [List.map_map]
   rfl
  ·rfl
 rw [e] at h2;have e2:(pItemsI a c).length=(pSpansI a c).length:=by rw [← e,List.length_map]
 rw [e2] at h2;exact h2
def putR (n:Nat) (b:Int):Value:=if (n:Int)≤b then ansE 0 0 else ansE 8 (max b 0)
theorem dput_at (n0:Nat) (w:World) (B Ba:Nat) (l:List (Nat × (Vl × Nat))) (h:DevAt n0 w B Ba l) (o:Op0) (ao:Option Addr) (cap:Nat) (b:Int) (hd:Rd w 1 (.slice ao o.data.length cap) o.data.length (bV o.data)) (hmay:mayO o=true) (hk:o.k=5∨o.k=6) (x:Vl × Nat) (hg:getA o.vol l=some x)
  (hrow:o.pl+rowC o≤4 * (x.1.size:Int)) (hbb : -9223372036854775808≤b∧b≤9223372036854775807) :
  Calls Tryz.prog 45 #[.pointer (some ⟨B,0,none⟩),.agg (oC o (.slice ao o.data.length cap)),.int .i64 b] w fun e w'=>e = .returned (putR (pSpansI o.pl (rowC o)).length b) ∧
   DevAt n0 w' B Ba (putA o.vol (⟨x.1.size,putM o.pl (dataO o) x.1.m ((pSpansI o.pl (rowC o)).take b.toNat)⟩,x.2) l)∧Mods [x.2] w w':=by
 have hn:o.data.length≤9223372036854775807:=by obtain ⟨_,_,_,_,hm,_⟩:=hd;unfold maxLen at hm;omega
 have HDD:=hid hd;have HKK:=hid hk;have HH:=hid h;have HG:=hid hg;have HVOL:=hid (may_vol hmay (by omega));have hpl:=may_pl hmay (by omega);have hct:=may_rowC hmay (by omega);have HPL:=hid hpl;have HCT:=hid hct;have HROW:=hid hrow;have HBB:=hid hbb;have HMAY:=hid hmay;have HPV:Hid (partV o = .iface 136 (.agg #[.int .i64 o.pl,.int .i64 (rowC o)])):=hid (by
  unfold partV rowC;rw [if_neg (by omega),if_neg (by omega)]
  by_cases h55:o.k=5
  ·rw [if_pos h55,if_pos h55]
  ·rw [if_neg h55,if_pos (by omega),if_neg h55])
 obtain ⟨sl,hsl⟩:∃ s,Value.slice ao o.data.length cap=s:=⟨_,rfl⟩
 have CP:Hid (∀ X,Calls Tryz.prog 71 #[.agg (oC o sl)] X fun e w'=>e = .returned (.iface 136 (.agg #[.int .i64 o.pl,.int .i64 (rowC o)]))∧Below X.heap.size X w'):=hid (fun X=>by rw [← hsl,← HPV.out];exact part13_any o ao cap X hn);rw [hsl];rw [hsl] at HDD;have HSLE:=hid hsl;clear hsl hpl hct h hk hmay hn hg hrow hbb hd;obtain ⟨w2,hw2⟩:∃ W,(w.alloc (.cells #[.int .i64 o.k,.int .u64 (o.vol:Int),.int .u64 (o.to:Int),.int .i64 o.size,.int .i64 o.pl,.int .i64 o.count,sl] 40)).alloc (.cells #[.int .i64 0,.int .i64 0,.slice none 0 0] 35)=W:=⟨_,rfl⟩
 have HBX:Hid (Boxes w w2 (oC o sl)):=hid (by rw [← hw2];exact boxes w (oC o sl));have HD2:=hid (HH.out.below HBX.out.bel);have HX2:=hid HBX.out.op;have HLT:=hid (hLT HX2.out);have HLK:Hid (∀ X,Below w2.heap.size w2 X→(Instr.lookup 61 (.map (some Ba)) (.int .u64 (o.vol:Int)) false).run Tryz.prog X = .ok (.agg #[.int .i64 (x.1.size:Int),.map (some x.2)]) X):=hid (fun X hX=>((HD2.out.below hX).look (Nat.lt_trans HVOL.out.2 (by decide)) HG.out).2)
 rw [show (oC o sl)=#[.int .i64 o.k,.int .u64 (o.vol:Int),.int .u64 (o.to:Int),.int .i64 o.size,.int .i64 o.pl,.int .i64 o.count,sl] from rfl];have t1:=is_row
 go_enter Tryz.func45,Tryz.ntmps45
 go_upto_region 1 with fail
 (try rw [hw2])
 clear hw2
 go_cut [7,8] (fun p q wx=>∃ W b7 b8,W=wx∧p = .pointer (some ⟨b7,0,none⟩)∧q = .pointer (some ⟨b8,0,none⟩)∧w2.heap.size≤b7∧w2.heap.size≤b8∧b7≠b8∧Below w2.heap.size w2 W∧W.heap[b7]? = some (.cells #[.int .i64 (x.1.size:Int),.map (some x.2)] 84 (0,0))∧W.heap[b8]? = some (.cells #[.int .i64 o.pl,.int .i64 (rowC o)] 136 (0,0)))
 case first =>
  have HSS:Hid (∀ X,Below w2.heap.size w2 X→(X.cell? ⟨B,0,none⟩=some (.map (some Ba))∧X.cell? ⟨w.heap.size,0,none⟩=some (.int .i64 o.k)∧X.cell? ⟨w.heap.size,1,none⟩=some (.int .u64 (o.vol:Int))∧X.cell? ⟨w.heap.size,2,none⟩=some (.int .u64 (o.to:Int))∧X.cell? ⟨w.heap.size,3,none⟩=some (.int .i64 o.size)∧X.cell? ⟨w.heap.size,4,none⟩=some (.int .i64 o.pl)∧X.cell? ⟨w.heap.size,5,none⟩=some (.int .i64 o.count)∧X.cell? ⟨w.heap.size,6,none⟩=some (sl))∧Below w2.heap.size w2 X):=hid (fun X hb=>⟨⟨(World.cell?_of_block (hb.block _ (HD2.out.lt))).trans (HD2.out.cell),(World.cell?_of_block (hb.block _ (HLT.out))).trans (cellOf HX2.out 0 rfl),(World.cell?_of_block (hb.block _ (HLT.out))).trans (cellOf HX2.out 1 rfl),(World.cell?_of_block (hb.block _ (HLT.out))).trans (cellOf HX2.out 2 rfl),(World.cell?_of_block (hb.block _ (HLT.out))).trans (cellOf HX2.out 3 rfl),(World.cell?_of_block (hb.block _ (HLT.out))).trans (cellOf HX2.out 4 rfl),(World.cell?_of_block (hb.block _ (HLT.out))).trans (cellOf HX2.out 5 rfl),(World.cell?_of_block (hb.block _ (HLT.out))).trans (cellOf HX2.out 6 rfl)⟩,hb⟩)
  refine wp_region_held_drew (S:=fun X=>(X.cell? ⟨B,0,none⟩=some (.map (some Ba))∧X.cell? ⟨w.heap.size,0,none⟩=some (.int .i64 o.k)∧X.cell? ⟨w.heap.size,1,none⟩=some (.int .u64 (o.vol:Int))∧X.cell? ⟨w.heap.size,2,none⟩=some (.int .u64 (o.to:Int))∧X.cell? ⟨w.heap.size,3,none⟩=some (.int .i64 o.size)∧X.cell? ⟨w.heap.size,4,none⟩=some (.int .i64 o.pl)∧X.cell? ⟨w.heap.size,5,none⟩=some (.int .i64 o.count)∧X.cell? ⟨w.heap.size,6,none⟩=some (sl))∧Below w2.heap.size w2 X) (by kernel_rfl) (HSS.out _ (Below.refl _ _).drew) (fun hHeld => ?_)
  have hbe:Below w2.heap.size w2 w2.drew:=(Below.refl _ _).drew;obtain ⟨wd,hwd⟩:∃ y,w2.drew=y:=⟨_,rfl⟩
  rw [hwd] at hHeld hbe ⊢;have HBE:=hid hbe;have HS0:Hid (w2.heap.size≤wd.heap.size):=hid HBE.out.size;clear hwd hbe;refine tkA 0 rfl ?_;refine tkA 4 rfl ?_;refine tkA 7 rfl ?_;refine tkA 1 rfl ?_;refine tkA 5 rfl ?_;refine tkA 2 rfl ?_;refine tkA 3 rfl ?_;refine tkB 6 (.agg #[.int .i64 (x.1.size:Int),.map (some x.2)]) rfl ?_ ?_
  ·(intro w hSw;simp only [gE1,gE2,gE3];(have h6:=HLK.out w hSw.2;go_simp;first | done | with_reducible rfl))
  refine wpAnyH_ready (rs:=[8,10,11]) (by kernel_rfl) (by simp) ?_;refine AllReadyH.cons rfl (fun K hK => ?_) (AllReadyH.cons rfl (fun K hK => ?_) (AllReadyH.cons rfl (fun K hK => ?_) (AllReadyH.nil)))
  ·skip
   simp only [gE1,gE2,gE3];go_simp;refine (CP.out _).mono ?_;rintro e w3 ⟨rfl,hb3⟩;dsimp only;have HBE:=hid (bthen HBE.out hb3);clear hHeld;refine hK.out _ _ (HSS.out _ HBE.out) fun hHeld => ?_;clear hK K;try simp only [Act.put,pE1,pE2,pE3]
   have HC8:=hid hb3;clear hb3;refine tkA 9 rfl ?_;refine rd2 10 11 rfl rfl (fun K hK => ?_) fun K hK => ?_
   ·skip
    simp only [gE1,gE2,gE3];go_simp;obtain ⟨b10,y10,hw10,hy10,hx10,HN10⟩:=al w3 (.cells #[.int .i64 0,.map none] 84);rw [hy10,hw10];have HG10:Hid (w2.heap.size≤b10):=hid (by have:=HBE.out.size;omega);clear hy10 hw10;have HBE:=hid (bthen HBE.out hx10);clear hHeld;refine hK.out _ _ (HSS.out _ HBE.out) fun hHeld => ?_;clear hK K;try simp only [Act.put,pE1,pE2,pE3]
    clear hx10;refine rd1 11 rfl fun K hK => ?_;simp only [gE1,gE2,gE3];go_simp;obtain ⟨b11,y11,hw11,hy11,hx11,HN11⟩:=al y10 (.cells #[.int .i64 0,.int .i64 0] 136);rw [hy11,hw11];have HG11:Hid (w2.heap.size≤b11):=hid (by have:=HBE.out.size;omega);have HNE10_11:Hid (b10≠b11):=hid (by have:=(hLT HN10.out);omega);clear hy11 hw11;have HBE:=hid (bthen HBE.out hx11);clear hHeld;refine hK.out _ _ (HSS.out _ HBE.out) fun hHeld => ?_;clear hK K;try simp only [Act.put,pE1,pE2,pE3]
    have HN10:=hid (nX hx11 HN10.out);clear hx11;refine rd1 12 rfl fun K hK => ?_;obtain ⟨hc12_0,hf12_0,hc12_1,hf12_1⟩:=bx2 HN10.out;simp only [gE1,gE2,gE3];go_simp;obtain ⟨y12,hy12,hm12,hv12⟩:=st2 HN10.out (.int .i64 (x.1.size:Int)) (.map (some x.2));rw [hy12];clear hy12 hc12_0 hf12_0 hc12_1 hf12_1;have HBE:=hid (bM HBE.out hm12 HG10.out);clear hHeld;refine hK.out _ _ (HSS.out _ HBE.out) fun hHeld => ?_;clear hK K;try simp only [Act.put,pE1,pE2,pE3]
    have HN11:=hid (nMa hm12 HN11.out HNE10_11.out);have HN10:=hid hv12;clear hv12 hm12;refine rd1 13 rfl fun K hK => ?_;obtain ⟨hc13_0,hf13_0,hc13_1,hf13_1⟩:=bx2 HN11.out;simp only [gE1,gE2,gE3];go_simp;obtain ⟨y13,hy13,hm13,hv13⟩:=st2 HN11.out (.int .i64 o.pl) (.int .i64 (rowC o));rw [hy13];clear hy13 hc13_0 hf13_0 hc13_1 hf13_1;have HBE:=hid (bM HBE.out hm13 HG11.out);clear hHeld;refine hK.out _ _ (HSS.out _ HBE.out) fun hHeld => ?_;clear hK K;try simp only [Act.put,pE1,pE2,pE3]
    have HN10:=hid (nMb hm13 HN10.out HNE10_11.out);have HN11:=hid hv13;clear hv13 hm13;refine wpAnyH_done (by kernel_rfl) ?_ _;have HEND:=hid hHeld.2;have HSE:=hid hHeld.1;clear hHeld;clear HSE HSS;go_wp2_with fail;go_meet;exact ⟨_,_,_,rfl,rfl,rfl,HG10.out,HG11.out,HNE10_11.out,HEND.out,HN10.out,HN11.out⟩
   ·skip
    simp only [gE1,gE2,gE3];go_simp;obtain ⟨b11,y11,hw11,hy11,hx11,HN11⟩:=al w3 (.cells #[.int .i64 0,.int .i64 0] 136);rw [hy11,hw11];have HG11:Hid (w2.heap.size≤b11):=hid (by have:=HBE.out.size;omega);clear hy11 hw11;have HBE:=hid (bthen HBE.out hx11);clear hHeld;refine hK.out _ _ (HSS.out _ HBE.out) fun hHeld => ?_;clear hK K;try simp only [Act.put,pE1,pE2,pE3]
    clear hx11;refine rd1 10 rfl fun K hK => ?_;simp only [gE1,gE2,gE3];go_simp;obtain ⟨b10,y10,hw10,hy10,hx10,HN10⟩:=al y11 (.cells #[.int .i64 0,.map none] 84);rw [hy10,hw10];have HG10:Hid (w2.heap.size≤b10):=hid (by have:=HBE.out.size;omega);have HNE10_11:Hid (b10≠b11):=hid (by have:=(hLT HN11.out);omega);clear hy10 hw10;have HBE:=hid (bthen HBE.out hx10);clear hHeld;refine hK.out _ _ (HSS.out _ HBE.out) fun hHeld => ?_;clear hK K;try simp only [Act.put,pE1,pE2,pE3]
    have HN11:=hid (nX hx10 HN11.out);clear hx10;refine rd1 12 rfl fun K hK => ?_;obtain ⟨hc12_0,hf12_0,hc12_1,hf12_1⟩:=bx2 HN10.out;simp only [gE1,gE2,gE3];go_simp;obtain ⟨y12,hy12,hm12,hv12⟩:=st2 HN10.out (.int .i64 (x.1.size:Int)) (.map (some x.2));rw [hy12];clear hy12 hc12_0 hf12_0 hc12_1 hf12_1;have HBE:=hid (bM HBE.out hm12 HG10.out);clear hHeld;refine hK.out _ _ (HSS.out _ HBE.out) fun hHeld => ?_;clear hK K;try simp only [Act.put,pE1,pE2,pE3]
    have HN11:=hid (nMa hm12 HN11.out HNE10_11.out);have HN10:=hid hv12;clear hv12 hm12;refine rd1 13 rfl fun K hK => ?_;obtain ⟨hc13_0,hf13_0,hc13_1,hf13_1⟩:=bx2 HN11.out;simp only [gE1,gE2,gE3];go_simp;obtain ⟨y13,hy13,hm13,hv13⟩:=st2 HN11.out (.int .i64 o.pl) (.int .i64 (rowC o));rw [hy13];clear hy13 hc13_0 hf13_0 hc13_1 hf13_1;have HBE:=hid (bM HBE.out hm13 HG11.out);clear hHeld;refine hK.out _ _ (HSS.out _ HBE.out) fun hHeld => ?_;clear hK K;try simp only [Act.put,pE1,pE2,pE3]
    have HN10:=hid (nMb hm13 HN10.out HNE10_11.out);have HN11:=hid hv13;clear hv13 hm13;refine wpAnyH_done (by kernel_rfl) ?_ _;have HEND:=hid hHeld.2;have HSE:=hid hHeld.1;clear hHeld;clear HSE HSS;go_wp2_with fail;go_meet;exact ⟨_,_,_,rfl,rfl,rfl,HG10.out,HG11.out,HNE10_11.out,HEND.out,HN10.out,HN11.out⟩
  ·skip
   simp only [gE1,gE2,gE3];go_simp;obtain ⟨b10,y10,hw10,hy10,hx10,HN10⟩:=al wd (.cells #[.int .i64 0,.map none] 84);rw [hy10,hw10];have HG10:Hid (w2.heap.size≤b10):=hid (by have:=HBE.out.size;omega);clear hy10 hw10;have HBE:=hid (bthen HBE.out hx10);clear hHeld;refine hK.out _ _ (HSS.out _ HBE.out) fun hHeld => ?_;clear hK K;try simp only [Act.put,pE1,pE2,pE3]
   clear hx10;refine rd2 8 11 rfl rfl (fun K hK => ?_) fun K hK => ?_
   ·skip
    simp only [gE1,gE2,gE3];go_simp;refine (CP.out _).mono ?_;rintro e w3 ⟨rfl,hb3⟩;dsimp only;have HBE:=hid (bthen HBE.out hb3);clear hHeld;refine hK.out _ _ (HSS.out _ HBE.out) fun hHeld => ?_;clear hK K;try simp only [Act.put,pE1,pE2,pE3]
    have HN10:=hid (nX hb3 HN10.out);have HC8:=hid hb3;clear hb3;refine tkA 9 rfl ?_;refine rd1 11 rfl fun K hK => ?_;simp only [gE1,gE2,gE3];go_simp;obtain ⟨b11,y11,hw11,hy11,hx11,HN11⟩:=al w3 (.cells #[.int .i64 0,.int .i64 0] 136);rw [hy11,hw11];have HG11:Hid (w2.heap.size≤b11):=hid (by have:=HBE.out.size;omega);have HNE10_11:Hid (b10≠b11):=hid (by have:=(hLT HN10.out);omega);clear hy11 hw11;have HBE:=hid (bthen HBE.out hx11);clear hHeld;refine hK.out _ _ (HSS.out _ HBE.out) fun hHeld => ?_;clear hK K;try simp only [Act.put,pE1,pE2,pE3]
    have HN10:=hid (nX hx11 HN10.out);clear hx11;refine rd1 12 rfl fun K hK => ?_;obtain ⟨hc12_0,hf12_0,hc12_1,hf12_1⟩:=bx2 HN10.out;simp only [gE1,gE2,gE3];go_simp;obtain ⟨y12,hy12,hm12,hv12⟩:=st2 HN10.out (.int .i64 (x.1.size:Int)) (.map (some x.2));rw [hy12];clear hy12 hc12_0 hf12_0 hc12_1 hf12_1;have HBE:=hid (bM HBE.out hm12 HG10.out);clear hHeld;refine hK.out _ _ (HSS.out _ HBE.out) fun hHeld => ?_;clear hK K;try simp only [Act.put,pE1,pE2,pE3]
    have HN11:=hid (nMa hm12 HN11.out HNE10_11.out);have HN10:=hid hv12;clear hv12 hm12;refine rd1 13 rfl fun K hK => ?_;obtain ⟨hc13_0,hf13_0,hc13_1,hf13_1⟩:=bx2 HN11.out;simp only [gE1,gE2,gE3];go_simp;obtain ⟨y13,hy13,hm13,hv13⟩:=st2 HN11.out (.int .i64 o.pl) (.int .i64 (rowC o));rw [hy13];clear hy13 hc13_0 hf13_0 hc13_1 hf13_1;have HBE:=hid (bM HBE.out hm13 HG11.out);clear hHeld;refine hK.out _ _ (HSS.out _ HBE.out) fun hHeld => ?_;clear hK K;try simp only [Act.put,pE1,pE2,pE3]
    have HN10:=hid (nMb hm13 HN10.out HNE10_11.out);have HN11:=hid hv13;clear hv13 hm13;refine wpAnyH_done (by kernel_rfl) ?_ _;have HEND:=hid hHeld.2;have HSE:=hid hHeld.1;clear hHeld;clear HSE HSS;go_wp2_with fail;go_meet;exact ⟨_,_,_,rfl,rfl,rfl,HG10.out,HG11.out,HNE10_11.out,HEND.out,HN10.out,HN11.out⟩
   ·skip
    simp only [gE1,gE2,gE3];go_simp;obtain ⟨b11,y11,hw11,hy11,hx11,HN11⟩:=al y10 (.cells #[.int .i64 0,.int .i64 0] 136);rw [hy11,hw11];have HG11:Hid (w2.heap.size≤b11):=hid (by have:=HBE.out.size;omega);have HNE10_11:Hid (b10≠b11):=hid (by have:=(hLT HN10.out);omega);clear hy11 hw11;have HBE:=hid (bthen HBE.out hx11);clear hHeld;refine hK.out _ _ (HSS.out _ HBE.out) fun hHeld => ?_;clear hK K;try simp only [Act.put,pE1,pE2,pE3]
    have HN10:=hid (nX hx11 HN10.out);clear hx11;refine rd1 8 rfl fun K hK => ?_;simp only [gE1,gE2,gE3];go_simp;refine (CP.out _).mono ?_;rintro e w3 ⟨rfl,hb3⟩;dsimp only;have HBE:=hid (bthen HBE.out hb3);clear hHeld;refine hK.out _ _ (HSS.out _ HBE.out) fun hHeld => ?_;clear hK K;try simp only [Act.put,pE1,pE2,pE3]
    have HN10:=hid (nX hb3 HN10.out);have HN11:=hid (nX hb3 HN11.out);have HC8:=hid hb3;clear hb3;refine tkA 9 rfl ?_;refine rd1 12 rfl fun K hK => ?_;obtain ⟨hc12_0,hf12_0,hc12_1,hf12_1⟩:=bx2 HN10.out;simp only [gE1,gE2,gE3];go_simp;obtain ⟨y12,hy12,hm12,hv12⟩:=st2 HN10.out (.int .i64 (x.1.size:Int)) (.map (some x.2));rw [hy12];clear hy12 hc12_0 hf12_0 hc12_1 hf12_1;have HBE:=hid (bM HBE.out hm12 HG10.out);clear hHeld;refine hK.out _ _ (HSS.out _ HBE.out) fun hHeld => ?_;clear hK K;try simp only [Act.put,pE1,pE2,pE3]
    have HN11:=hid (nMa hm12 HN11.out HNE10_11.out);have HN10:=hid hv12;clear hv12 hm12;refine rd1 13 rfl fun K hK => ?_;obtain ⟨hc13_0,hf13_0,hc13_1,hf13_1⟩:=bx2 HN11.out;simp only [gE1,gE2,gE3];go_simp;obtain ⟨y13,hy13,hm13,hv13⟩:=st2 HN11.out (.int .i64 o.pl) (.int .i64 (rowC o));rw [hy13];clear hy13 hc13_0 hf13_0 hc13_1 hf13_1;have HBE:=hid (bM HBE.out hm13 HG11.out);clear hHeld;refine hK.out _ _ (HSS.out _ HBE.out) fun hHeld => ?_;clear hK K;try simp only [Act.put,pE1,pE2,pE3]
    have HN10:=hid (nMb hm13 HN10.out HNE10_11.out);have HN11:=hid hv13;clear hv13 hm13;refine wpAnyH_done (by kernel_rfl) ?_ _;have HEND:=hid hHeld.2;have HSE:=hid hHeld.1;clear hHeld;clear HSE HSS;go_wp2_with fail;go_meet;exact ⟨_,_,_,rfl,rfl,rfl,HG10.out,HG11.out,HNE10_11.out,HEND.out,HN10.out,HN11.out⟩
  ·skip
   simp only [gE1,gE2,gE3];go_simp;obtain ⟨b11,y11,hw11,hy11,hx11,HN11⟩:=al wd (.cells #[.int .i64 0,.int .i64 0] 136);rw [hy11,hw11];have HG11:Hid (w2.heap.size≤b11):=hid (by have:=HBE.out.size;omega);clear hy11 hw11;have HBE:=hid (bthen HBE.out hx11);clear hHeld;refine hK.out _ _ (HSS.out _ HBE.out) fun hHeld => ?_;clear hK K;try simp only [Act.put,pE1,pE2,pE3]
   clear hx11;refine rd2 8 10 rfl rfl (fun K hK => ?_) fun K hK => ?_
   ·skip
    simp only [gE1,gE2,gE3];go_simp;refine (CP.out _).mono ?_;rintro e w3 ⟨rfl,hb3⟩;dsimp only;have HBE:=hid (bthen HBE.out hb3);clear hHeld;refine hK.out _ _ (HSS.out _ HBE.out) fun hHeld => ?_;clear hK K;try simp only [Act.put,pE1,pE2,pE3]
    have HN11:=hid (nX hb3 HN11.out);have HC8:=hid hb3;clear hb3;refine tkA 9 rfl ?_;refine rd1 10 rfl fun K hK => ?_;simp only [gE1,gE2,gE3];go_simp;obtain ⟨b10,y10,hw10,hy10,hx10,HN10⟩:=al w3 (.cells #[.int .i64 0,.map none] 84);rw [hy10,hw10];have HG10:Hid (w2.heap.size≤b10):=hid (by have:=HBE.out.size;omega);have HNE10_11:Hid (b10≠b11):=hid (by have:=(hLT HN11.out);omega);clear hy10 hw10;have HBE:=hid (bthen HBE.out hx10);clear hHeld;refine hK.out _ _ (HSS.out _ HBE.out) fun hHeld => ?_;clear hK K;try simp only [Act.put,pE1,pE2,pE3]
    have HN11:=hid (nX hx10 HN11.out);clear hx10;refine rd1 12 rfl fun K hK => ?_;obtain ⟨hc12_0,hf12_0,hc12_1,hf12_1⟩:=bx2 HN10.out;simp only [gE1,gE2,gE3];go_simp;obtain ⟨y12,hy12,hm12,hv12⟩:=st2 HN10.out (.int .i64 (x.1.size:Int)) (.map (some x.2));rw [hy12];clear hy12 hc12_0 hf12_0 hc12_1 hf12_1;have HBE:=hid (bM HBE.out hm12 HG10.out);clear hHeld;refine hK.out _ _ (HSS.out _ HBE.out) fun hHeld => ?_;clear hK K;try simp only [Act.put,pE1,pE2,pE3]
    have HN11:=hid (nMa hm12 HN11.out HNE10_11.out);have HN10:=hid hv12;clear hv12 hm12;refine rd1 13 rfl fun K hK => ?_;obtain ⟨hc13_0,hf13_0,hc13_1,hf13_1⟩:=bx2 HN11.out;simp only [gE1,gE2,gE3];go_simp;obtain ⟨y13,hy13,hm13,hv13⟩:=st2 HN11.out (.int .i64 o.pl) (.int .i64 (rowC o));rw [hy13];clear hy13 hc13_0 hf13_0 hc13_1 hf13_1;have HBE:=hid (bM HBE.out hm13 HG11.out);clear hHeld;refine hK.out _ _ (HSS.out _ HBE.out) fun hHeld => ?_;clear hK K;try simp only [Act.put,pE1,pE2,pE3]
    have HN10:=hid (nMb hm13 HN10.out HNE10_11.out);have HN11:=hid hv13;clear hv13 hm13;refine wpAnyH_done (by kernel_rfl) ?_ _;have HEND:=hid hHeld.2;have HSE:=hid hHeld.1;clear hHeld;clear HSE HSS;go_wp2_with fail;go_meet;exact ⟨_,_,_,rfl,rfl,rfl,HG10.out,HG11.out,HNE10_11.out,HEND.out,HN10.out,HN11.out⟩
   ·skip
    simp only [gE1,gE2,gE3];go_simp;obtain ⟨b10,y10,hw10,hy10,hx10,HN10⟩:=al y11 (.cells #[.int .i64 0,.map none] 84);rw [hy10,hw10];have HG10:Hid (w2.heap.size≤b10):=hid (by have:=HBE.out.size;omega);have HNE10_11:Hid (b10≠b11):=hid (by have:=(hLT HN11.out);omega);clear hy10 hw10;have HBE:=hid (bthen HBE.out hx10);clear hHeld;refine hK.out _ _ (HSS.out _ HBE.out) fun hHeld => ?_;clear hK K;try simp only [Act.put,pE1,pE2,pE3]
    have HN11:=hid (nX hx10 HN11.out);clear hx10;refine rd1 8 rfl fun K hK => ?_;simp only [gE1,gE2,gE3];go_simp;refine (CP.out _).mono ?_;rintro e w3 ⟨rfl,hb3⟩;dsimp only;have HBE:=hid (bthen HBE.out hb3);clear hHeld;refine hK.out _ _ (HSS.out _ HBE.out) fun hHeld => ?_;clear hK K;try simp only [Act.put,pE1,pE2,pE3]
    have HN11:=hid (nX hb3 HN11.out);have HN10:=hid (nX hb3 HN10.out);have HC8:=hid hb3;clear hb3;refine tkA 9 rfl ?_;refine rd1 12 rfl fun K hK => ?_;obtain ⟨hc12_0,hf12_0,hc12_1,hf12_1⟩:=bx2 HN10.out;simp only [gE1,gE2,gE3];go_simp;obtain ⟨y12,hy12,hm12,hv12⟩:=st2 HN10.out (.int .i64 (x.1.size:Int)) (.map (some x.2));rw [hy12];clear hy12 hc12_0 hf12_0 hc12_1 hf12_1;have HBE:=hid (bM HBE.out hm12 HG10.out);clear hHeld;refine hK.out _ _ (HSS.out _ HBE.out) fun hHeld => ?_;clear hK K;try simp only [Act.put,pE1,pE2,pE3]
    have HN11:=hid (nMa hm12 HN11.out HNE10_11.out);have HN10:=hid hv12;clear hv12 hm12;refine rd1 13 rfl fun K hK => ?_;obtain ⟨hc13_0,hf13_0,hc13_1,hf13_1⟩:=bx2 HN11.out;simp only [gE1,gE2,gE3];go_simp;obtain ⟨y13,hy13,hm13,hv13⟩:=st2 HN11.out (.int .i64 o.pl) (.int .i64 (rowC o));rw [hy13];clear hy13 hc13_0 hf13_0 hc13_1 hf13_1;have HBE:=hid (bM HBE.out hm13 HG11.out);clear hHeld;refine hK.out _ _ (HSS.out _ HBE.out) fun hHeld => ?_;clear hK K;try simp only [Act.put,pE1,pE2,pE3]
    have HN10:=hid (nMb hm13 HN10.out HNE10_11.out);have HN11:=hid hv13;clear hv13 hm13;refine wpAnyH_done (by kernel_rfl) ?_ _;have HEND:=hid hHeld.2;have HSE:=hid hHeld.1;clear hHeld;clear HSE HSS;go_wp2_with fail;go_meet;exact ⟨_,_,_,rfl,rfl,rfl,HG10.out,HG11.out,HNE10_11.out,HEND.out,HN10.out,HN11.out⟩
 case rest =>
  obtain ⟨W,b7,b8,rfl,rfl,rfl,hg7,hg8,hne,hbw,hn7,hn8⟩:=hcut;have HBW:=hid hbw;have HN7:=hid hn7;have HN8:=hid hn8;have HDW:=hid (HD2.out.below hbw);have HG7:=hid hg7;have HG8:=hid hg8;have HML:=hid (HDW.out.vol _ (getA_some HG.out));have HXB:Hid (x.2<w.heap.size):=hid ((HH.out.vol _ (getA_some HG.out)).lt);have HA2:=hid ((hbw.block _ (hLT HBX.out.ans)).trans HBX.out.ans);have HXW:=hid ((hbw.block _ (hLT HX2.out)).trans HX2.out);have HSW:=hid HBX.out.sz;have HDDW:=hid (HDD.out.below (bthen HBX.out.bel hbw))
  obtain ⟨c0,c1,c2,c3,c4,c5,c6⟩:=op7 HXW.out;have c81:=cellOf hn8 1 (v:=.int .i64 (rowC o)) rfl;have hr1:=HCT.out.1;have hr2:=HCT.out.2;clear hbw hn7 hn8 hg7 hg8 hne HLK HX2 HLT t1
  go_upto_if 26 with fail
  go_cut [9] (fun d wx=>∃ Y dv,Y=wx∧d=dv∧Rd Y 1 dv (dataO o).length (bV (dataO o))∧Below W.heap.size W Y)
  case first =>
   by_cases h6:o.k=6
   ·have g6:(o.k == 6)=true:=by simp [h6]
    have HE:Hid (dataO o=List.replicate (64 * (rowC o)).toNat 0):=hid (by unfold dataO rowC;rw [if_pos h6,if_neg (by omega)]);clear h6;obtain ⟨rc,hrc⟩:∃ rc:Nat,rowC o=(rc:Int):=⟨(rowC o).toNat,by omega⟩
    have HRC:=hid hrc;rw [hrc] at c81 hr1 hr2;have hr3:rc≤1024:=by omega
    clear hrc
    go_wp2_with (at_make;go_must (refine wpList_mk rfl _ _ 33 rfl W.heap.size 5 (.int .u8 0) 1 1 Tryz.underlying33 infoByte (by decide) _ _ _ _ (rc * 64) rfl rfl (by go_num) (by go_num) (by omega) (Nat.le_refl _) ?_);intro w1 ho1 hb1)
    go_meet;refine ⟨_,_,rfl,rfl,?_,hb1⟩;rw [HE.out,HRC.out,show (64 * (rc:Int)).toNat=rc * 64 from by omega,List.length_replicate];rw [made_zero] at ho1;exact Rd.of_own ho1
   ·have g6:=bneI h6
    have HE:Hid (dataO o=o.data):=hid (by unfold dataO;rw [if_neg h6]);clear h6;go_wp2_with fail;go_meet;exact ⟨_,_,rfl,rfl,by rw [HE.out];exact HDDW.out,Below.refl _ _⟩
  case rest =>
   clear c0 c1 c2 c3 c4 c5 c6 c81;obtain ⟨Y,dv,rfl,rfl,hrd,hby⟩:=hcut;have HRD:=hid hrd;have HBY:=hid hby;have HNY7:=hid ((hby.block b7 (hLT HN7.out)).trans HN7.out);have HNY8:=hid ((hby.block b8 (hLT HN8.out)).trans HN8.out);have HAY:=hid ((hby.block _ (hLT HA2.out)).trans HA2.out);have HDY:=hid (HDW.out.below hby);have c80:=cellOf HNY8.out 0 (v:=.int .i64 o.pl) rfl;have c81:=cellOf HNY8.out 1 (v:=.int .i64 (rowC o)) rfl;have CS:=partSplit_any o.pl (rowC o) (by omega) Y
   have HSPI:Hid (∀ s∈pSpansI o.pl (rowC o),SpIn x.1.size s):=hid (spans_in HROW.out);have HSN:Hid (1≤(pSpansI o.pl (rowC o)).length∧(pSpansI o.pl (rowC o)).length≤1024):=hid (by
    have h1:=HPL.out;have h2:=HCT.out;have ho:pOk o.pl (rowC o)=true:=by simp only [pOk,Bool.and_eq_true,decide_eq_true_eq];omega
    unfold pSpansI;rw [if_pos ho,pSpans_len];have h3:=pM_pos (a:=o.pl.toNat) (c:=(rowC o).toNat) (by omega);have h4 := @pM_le o.pl.toNat (rowC o).toNat
    omega)
   obtain ⟨sp,hsp⟩:∃ sp,pSpansI o.pl (rowC o)=sp:=⟨_,rfl⟩
   rw [hsp] at CS HSPI HSN;have HSP:=hid hsp;clear hsp hrd hby;go_wp2_with fail;refine CS.mono ?_;rintro e w4 ⟨sv,rfl,hso,hb4⟩;have HRS:=hid (Rd.of_own hso);have HS4:=hid (Rd.of_own hso);obtain ⟨ag,cg,rfl,_,_,⟨_,hcg1,hcg2⟩,_⟩:=HS4.out;clear HS4 hso;unfold maxLen at hcg2;have HB4:=hid hb4;have HN47:=hid ((hb4.block b7 (hLT HNY7.out)).trans HNY7.out);have HN48:=hid ((hb4.block b8 (hLT HNY8.out)).trans HNY8.out);have HA4:=hid ((hb4.block _ (hLT HAY.out)).trans HAY.out);have HD4:=hid (HDY.out.below hb4);have HRD4:=hid (HRD.out.below hb4)
   have HM4:=hid (HD4.out.vol _ (getA_some HG.out));have HB24:Hid (Below w2.heap.size w2 w4):=hid (bthen (bthen HBW.out HBY.out) hb4);obtain ⟨n,hnn⟩:∃ n,sp.length=n:=⟨_,rfl⟩
   rw [hnn] at HRS HSN hcg1 ⊢;have HNN:=hid hnn;have hn1:=HSN.out.2;clear hnn hb4 CS c80 c81 hr1 hr2;go_wp2_with fail
   go_loopw [37] (fun i wr=>∃ k:Nat,k≤n∧(k:Int)≤max b 0∧i = .int .i64 (k:Int)∧MapL wr Tryz.prog 3 RBlk .i64 blkD x.2 (putM o.pl (dataO o) x.1.m (sp.take k))∧Mods [x.2] w4 wr) (fun i _=>n - (intOf i).toNat)
   case atStart=>exact ⟨0,Nat.zero_le _,by omega,rfl,HM4.out,Mods.refl _ _⟩
   case round =>
    obtain ⟨k,hk,hkb,rfl,hml,hmod⟩:=hrel;have HM:=hid hml;have HMO:=hid hmod;have HKB:=hid hkb;have hnx:∀ i,w.heap.size≤i→i∉[x.2]:=fun i hi hh=>by
     have h1:=HXB.out;have h2:i=x.2:=by simpa using hh
     omega
    have HNX:=hid hnx;have HMAPS:Hid (∀ f∈[x.2],∃ es clock,w4.heap[f]? = some (.map es clock)):=hid (fun f hf=>by obtain rfl:=List.mem_singleton.1 hf;exact HM4.out.isMap);have HR7:=hid ((hmod.block b7 (hLT HN47.out) (hnx _ (by have:=HG7.out;have:=HSW.out;omega))).trans HN47.out);have HR8:=hid ((hmod.block b8 (hLT HN48.out) (hnx _ (by have:=HG8.out;have:=HSW.out;omega))).trans HN48.out);have HRA:=hid ((hmod.block _ (hLT HA4.out) (hnx _ (by omega))).trans HA4.out);have HRR:=hid (HRS.out.mods hmod HMAPS.out);have HRDR:=hid (HRD4.out.mods hmod HMAPS.out)
    have HWR:Hid (w.heap.size≤wr.heap.size):=hid (by have h1:=hmod.size;have h2:=HB24.out.size;have h3:=HSW.out;omega);clear hml hmod hkb hnx
    by_cases hlt:k<n
    ·obtain ⟨s,hs⟩:∃ s,sp[k]? = some s:=⟨_,List.getElem?_eq_getElem (by rw [HNN.out];exact hlt)⟩
     have HS:=hid hs;have HSI:=hid (HSPI.out s (List.mem_of_getElem? hs));obtain ⟨_,_,he,_,_,_,hcells⟩:=HRR.out;obtain ⟨rfl,_,rfl⟩:=Value.slice.inj he;obtain ⟨g,off,rfl,hgl,s0,s1,s2⟩:=rd_span hcells hs;clear he hcells hs;obtain ⟨w8,hw8⟩:∃ y,wr.alloc (.cells #[.int .i64 (s.blk:Int),.int .i64 (s.lo:Int),.int .i64 (s.hi:Int)] 100)=y:=⟨_,rfl⟩
     have HB8:Hid (Below wr.heap.size wr w8):=hid (by rw [← hw8];exact balloc (Below.refl _ _) _);have HX8:Hid (w8.heap[wr.heap.size]? = some (.cells #[.int .i64 (s.blk:Int),.int .i64 (s.lo:Int),.int .i64 (s.hi:Int)] 100 (0,0))):=hid (by rw [← hw8];exact heap_alloc_new wr _)
     by_cases hmost:b≤(k:Int)
     ·have hmx:max b 0=(k:Int):=by have:=HKB.out;omega
      have HE:Hid (putR (pSpansI o.pl (rowC o)).length b=ansE 8 (k:Int)):=hid (by unfold putR;rw [HSP.out,HNN.out,if_neg (by omega),hmx]);have HT:Hid (b.toNat=k):=hid (by omega);have hxa:=(HB8.out.block _ (hLT HRA.out)).trans HRA.out;have HXA:=hid hxa;have e0:=cellOf hxa 0 (v:=.int .i64 0) rfl;have e1:=cellOf hxa 1 (v:=.int .i64 0) rfl;have e2:=cellOf hxa 2 (v:=.slice none 0 0) rfl;have f0:=frozenOf hxa 0;have f1:=frozenOf hxa 1;have f2:=frozenOf hxa 2;clear hxa;go_wp2_with fail;clear hw8
      obtain ⟨hx4,hm4⟩:=set3 (x:=.int .i64 8) (y:=.int .i64 (k:Int)) (z:=.slice none 0 0) HXA.out;have HD5:=((HD4.out.volAt (n:=o.vol) (v:=x.1) (b:=x.2) HG.out HM.out HMO.out (putM_ok o.pl (dataO o) _ _ (HD4.out.ok.vol (o.vol,x.1) (by unfold strip mapA;exact List.mem_map.2 ⟨_,getA_some HG.out,rfl⟩)) (fun s hs=>HSPI.out s (List.mem_of_mem_take hs)))).below HB8.out).kept hm4 (fun hh=>by
       have:B=w.heap.size+1:=by simpa using hh
       have:=HH.out.lt
       omega) (fun i hi hh=>by
       have e:i=w.heap.size+1:=by simpa using hh
       subst e
       rcases List.mem_cons.1 hi with e2 | hi2
       ·have:=HH.out.all.lt
        omega
       ·obtain ⟨p,hp,he⟩:=List.mem_map.1 hi2
        rcases mem_putA hp with rfl | hp
        ·have he2:x.2=w.heap.size+1:=he
         have:=HXB.out;omega
        ·have:=(HH.out.vol p hp).lt
         omega)
      refine bodyPost_ret (v:=ansE 8 (k:Int)) (resAns rfl _ _ _ _ _ _ rfl hx4) rfl ⟨by rw [HE.out],by rw [HSP.out,HT.out];exact HD5,?_⟩;exact ((((Mods.of_below (bthen HBX.out.bel HB24.out)).trans HMO.out (fun i hi=>.inl hi))).thenBelow HB8.out).trans hm4 (fun i hi=>.inr (by
       have:i=w.heap.size+1:=by simpa using hi
       omega))
     ·have HNM:=hid hmost
      have HM8:=hid (HM.out.below HB8.out);have HMK:=hid (putM_ok o.pl (dataO o) (sp.take k) _ (HD4.out.ok.vol (o.vol,x.1) (by unfold strip mapA;exact List.mem_map.2 ⟨_,getA_some HG.out,rfl⟩)) (fun s hs=>HSPI.out s (List.mem_of_mem_take hs)));have HT:Hid (putM o.pl (dataO o) x.1.m (sp.take (k+1))=putP o.pl (dataO o) (putM o.pl (dataO o) x.1.m (sp.take k)) s):=hid (by
       have:sp.take (k+1)=sp.take k ++ [s]:=by rw [List.take_add_one,HS.out];rfl
       rw [this,putM_snoc])
      obtain ⟨M,hM⟩:∃ M,putM o.pl (dataO o) x.1.m (sp.take k)=M:=⟨_,rfl⟩
      rw [hM] at HM8 HMK HT;clear hM;have HBK:=hid (blkAt_len (m:=M) HMK.out.blk s.blk);have HSI1:Hid (s.blk<256∧s.lo<s.hi∧s.hi≤4):=hid (by have h1:=HSI.out;have h2:x.1.size≤256:=HMK.out.size;unfold SpIn at h1;omega);have HDI:=hid (dataI_hi (dataO o) s.blk o.pl s.lo s.hi (by have:=HSI1.out;omega));have HR87:=hid ((HB8.out.block b7 (hLT HR7.out)).trans HR7.out);have HR88:=hid ((HB8.out.block b8 (hLT HR8.out)).trans HR8.out);have HDL:Hid ((dataO o).length≤140737488355328):=hid (by
       have h2:=HCT.out;unfold dataO
       split
       ·rename_i h6
        unfold rowC at h2;rw [if_neg (by omega)] at h2;rw [List.length_replicate];omega
       ·rename_i h6
        have:=may_data HMAY.out (by have:=HKK.out;omega)
        omega)
      go_wp2_with fail
      (try rw [hw8])
      clear hw8 s0 s1 s2
      have HSS:Hid (∀ X,Mods [x.2] w8 X→(X.cell? ⟨b7,1,none⟩=some (.map (some x.2))∧X.cell? ⟨wr.heap.size,0,none⟩=some (.int .i64 (s.blk:Int))∧X.cell? ⟨wr.heap.size,1,none⟩=some (.int .i64 (s.lo:Int))∧X.cell? ⟨wr.heap.size,2,none⟩=some (.int .i64 (s.hi:Int))∧X.cell? ⟨b8,0,none⟩=some (.int .i64 o.pl))∧Mods [x.2] w8 X):=hid (fun X hb=>⟨⟨(World.cell?_of_block (hb.block _ ((hLT HR87.out)) (HNX.out _ (by have:=HG7.out;have:=HSW.out;show w.heap.size≤b7;omega)))).trans (cellOf HR87.out 1 rfl),(World.cell?_of_block (hb.block _ ((hLT HX8.out)) (HNX.out _ HWR.out))).trans (cellOf HX8.out 0 rfl),(World.cell?_of_block (hb.block _ ((hLT HX8.out)) (HNX.out _ HWR.out))).trans (cellOf HX8.out 1 rfl),(World.cell?_of_block (hb.block _ ((hLT HX8.out)) (HNX.out _ HWR.out))).trans (cellOf HX8.out 2 rfl),(World.cell?_of_block (hb.block _ ((hLT HR88.out)) (HNX.out _ (by have:=HG8.out;have:=HSW.out;show w.heap.size≤b8;omega)))).trans (cellOf HR88.out 0 rfl)⟩,hb⟩)
      refine wp_region_held_drew (S:=fun X=>(X.cell? ⟨b7,1,none⟩=some (.map (some x.2))∧X.cell? ⟨wr.heap.size,0,none⟩=some (.int .i64 (s.blk:Int))∧X.cell? ⟨wr.heap.size,1,none⟩=some (.int .i64 (s.lo:Int))∧X.cell? ⟨wr.heap.size,2,none⟩=some (.int .i64 (s.hi:Int))∧X.cell? ⟨b8,0,none⟩=some (.int .i64 o.pl))∧Mods [x.2] w8 X) (by kernel_rfl) (HSS.out _ (Mods.of_below (Below.refl _ _).drew)) (fun hHeld => ?_);have hbe:Below w8.heap.size w8 w8.drew:=(Below.refl _ _).drew;obtain ⟨wd,hwd⟩:∃ y,w8.drew=y:=⟨_,rfl⟩
      rw [hwd] at hHeld hbe ⊢;have HBE:=hid hbe;have HS0:Hid (w8.heap.size≤wd.heap.size):=hid HBE.out.size;clear hwd hbe;refine tkA 0 rfl ?_;refine tkA 2 rfl ?_;refine tkA 4 rfl ?_;refine tkA 6 rfl ?_;refine tkA 9 rfl ?_;refine tkA 11 rfl ?_;refine tkA 12 rfl ?_;refine tkA 14 rfl ?_;refine tkA 1 rfl ?_;refine tkA 3 rfl ?_;refine tkA 5 rfl ?_;refine tkA 7 rfl ?_;refine tkA 10 rfl ?_;refine tkA 13 rfl ?_;refine rd2 8 15 rfl rfl (fun K hK => ?_) fun K hK => ?_
      ·skip
       have hrd:=(HM8.out.below HBE.out).blk (n:=s.blk) (by have:=HSI1.out;omega);simp only [gE1,gE2,gE3];go_simp;clear hrd;refine hK.out _ _ ?_ (fun hHeld => ?_)
       ·exact (by first | exact HSS.out _ (Mods.of_below HBE.out) | exact HSS.out _ HMD.out)
       clear hK K;try simp only [Act.put,pE1,pE2,pE3]
       refine rd1 15 rfl fun K hK => ?_;simp only [gE1,gE2,gE3];go_simp;refine (partData_any s.blk s.lo s.hi o.pl u9 _ (dataO o) _ (HRDR.out.below (bthen HB8.out HBE.out)) HDL.out).mono ?_;rintro e w15 ⟨v15,rfl,ho15,hb15⟩;dsimp only;have HBE:=hid (bthen HBE.out hb15);clear hHeld;refine hK.out _ _ (HSS.out _ (Mods.of_below HBE.out)) fun hHeld => ?_;clear hK K;try simp only [Act.put,pE1,pE2,pE3]
       have HC15:=hid hb15;clear hb15;refine rd1 16 rfl fun K hK => ?_;simp only [gE1,gE2,gE3];go_simp;refine (merge_ok (blkAt M s.blk) HBK.out s.lo (by have:=HSI1.out;omega) v15 _ (dataI (dataO o) s.blk o.pl s.lo s.hi) _ (Rd.of_own ho15) HDI.out.2 (by have:=HDI.out.1;have:=HSI1.out;omega)).mono ?_;rintro e w16 ⟨rfl,hb16⟩;dsimp only;have HBE:=hid (bthen HBE.out hb16);clear hHeld;refine hK.out _ _ (HSS.out _ (Mods.of_below HBE.out)) fun hHeld => ?_;clear hK K;try simp only [Act.put,pE1,pE2,pE3]
       have HC16:=hid hb16;clear hb16;refine tkA 17 rfl ?_;refine tkA 18 rfl ?_;refine tkA 19 rfl ?_;refine rd1 20 rfl fun K hK => ?_;obtain ⟨w20,hup,hml,hmod⟩:=(HM8.out.below HBE.out).put undInt undBlks (by have:=HMK.out.len;unfold maxLen;dsimp only at this;omega) (wfI64 (n:=s.blk) (by have:=HSI1.out;omega)) (RBlk_mk (b:=mergeB (blkAt M s.blk) s.lo (dataI (dataO o) s.blk o.pl s.lo s.hi)) (by rw [mergeB_len (by rw [HBK.out];have:=HDI.out.1;have:=HSI1.out;omega),HBK.out]));simp only [gE1,gE2,gE3];go_simp;refine hK.out _ _ ?_ (fun hHeld => ?_)
       ·exact HSS.out _ ((Mods.of_below HBE.out).trans hmod (fun i hi=>.inl hi))
       clear hK K;try simp only [Act.put,pE1,pE2,pE3]
       have HM20:=hid hml;have HO20:=hid ((Mods.of_below (F:=[x.2]) HBE.out).trans hmod (fun i hi=>.inl hi));clear hml hmod hup;refine wpAnyH_done (by kernel_rfl) ?_ _;have HEND:=hid hHeld.2;have HSE:=hid hHeld.1;clear hHeld;clear HEND HSE HSS HBE;go_wp2_with fail;go_round
       case rel=>exact ⟨k+1,by omega,by have:=HNM.out;omega,by go_num,by rw [HT.out];exact HM20.out,(HMO.out.thenBelow HB8.out).trans HO20.out (fun i hi=>.inl hi)⟩
       case measure=>simp [intOf];omega
      ·skip
       simp only [gE1,gE2,gE3];go_simp;refine (partData_any s.blk s.lo s.hi o.pl u9 _ (dataO o) _ (HRDR.out.below (bthen HB8.out HBE.out)) HDL.out).mono ?_;rintro e w15 ⟨v15,rfl,ho15,hb15⟩;dsimp only;have HBE:=hid (bthen HBE.out hb15);clear hHeld;refine hK.out _ _ (HSS.out _ (Mods.of_below HBE.out)) fun hHeld => ?_;clear hK K;try simp only [Act.put,pE1,pE2,pE3]
       have HC15:=hid hb15;clear hb15;refine rd1 8 rfl fun K hK => ?_;have hrd:=(HM8.out.below HBE.out).blk (n:=s.blk) (by have:=HSI1.out;omega);simp only [gE1,gE2,gE3];go_simp;clear hrd;refine hK.out _ _ ?_ (fun hHeld => ?_)
       ·exact (by first | exact HSS.out _ (Mods.of_below HBE.out) | exact HSS.out _ HMD.out)
       clear hK K;try simp only [Act.put,pE1,pE2,pE3]
       refine rd1 16 rfl fun K hK => ?_;simp only [gE1,gE2,gE3];go_simp;refine (merge_ok (blkAt M s.blk) HBK.out s.lo (by have:=HSI1.out;omega) v15 _ (dataI (dataO o) s.blk o.pl s.lo s.hi) _ (Rd.of_own ho15) HDI.out.2 (by have:=HDI.out.1;have:=HSI1.out;omega)).mono ?_;rintro e w16 ⟨rfl,hb16⟩;dsimp only;have HBE:=hid (bthen HBE.out hb16);clear hHeld;refine hK.out _ _ (HSS.out _ (Mods.of_below HBE.out)) fun hHeld => ?_;clear hK K;try simp only [Act.put,pE1,pE2,pE3]
       have HC16:=hid hb16;clear hb16;refine tkA 17 rfl ?_;refine tkA 18 rfl ?_;refine tkA 19 rfl ?_;refine rd1 20 rfl fun K hK => ?_;obtain ⟨w20,hup,hml,hmod⟩:=(HM8.out.below HBE.out).put undInt undBlks (by have:=HMK.out.len;unfold maxLen;dsimp only at this;omega) (wfI64 (n:=s.blk) (by have:=HSI1.out;omega)) (RBlk_mk (b:=mergeB (blkAt M s.blk) s.lo (dataI (dataO o) s.blk o.pl s.lo s.hi)) (by rw [mergeB_len (by rw [HBK.out];have:=HDI.out.1;have:=HSI1.out;omega),HBK.out]));simp only [gE1,gE2,gE3];go_simp;refine hK.out _ _ ?_ (fun hHeld => ?_)
       ·exact HSS.out _ ((Mods.of_below HBE.out).trans hmod (fun i hi=>.inl hi))
       clear hK K;try simp only [Act.put,pE1,pE2,pE3]
       have HM20:=hid hml;have HO20:=hid ((Mods.of_below (F:=[x.2]) HBE.out).trans hmod (fun i hi=>.inl hi));clear hml hmod hup;refine wpAnyH_done (by kernel_rfl) ?_ _;have HEND:=hid hHeld.2;have HSE:=hid hHeld.1;clear hHeld;clear HEND HSE HSS HBE;go_wp2_with fail;go_round
       case rel=>exact ⟨k+1,by omega,by have:=HNM.out;omega,by go_num,by rw [HT.out];exact HM20.out,(HMO.out.thenBelow HB8.out).trans HO20.out (fun i hi=>.inl hi)⟩
       case measure=>simp [intOf];omega
    ·obtain rfl:k=n:=by omega
     have HE:Hid (putR (pSpansI o.pl (rowC o)).length b=ansE 0 0):=hid (by
      have:=HKB.out;have:=HSN.out;unfold putR;rw [HSP.out,HNN.out,if_pos (by omega)])
     have HT:Hid (sp.take b.toNat=sp.take k):=hid (by
      have:=HKB.out;have:=HSN.out;rw [List.take_of_length_le (by rw [HNN.out];omega),List.take_of_length_le (by rw [HNN.out];omega)])
     have hxa:=HRA.out;have e0:=cellOf hxa 0 (v:=.int .i64 0) rfl;have e1:=cellOf hxa 1 (v:=.int .i64 0) rfl;have e2:=cellOf hxa 2 (v:=.slice none 0 0) rfl;have f0:=frozenOf hxa 0;have f1:=frozenOf hxa 1;have f2:=frozenOf hxa 2;clear hxa;go_wp2_with fail;obtain ⟨hx4,hm4⟩:=set3 (x:=.int .i64 0) (y:=.int .i64 0) (z:=.slice none 0 0) HRA.out
     have HD5:=(HD4.out.volAt (n:=o.vol) (v:=x.1) (b:=x.2) HG.out HM.out HMO.out (putM_ok o.pl (dataO o) _ _ (HD4.out.ok.vol (o.vol,x.1) (by unfold strip mapA;exact List.mem_map.2 ⟨_,getA_some HG.out,rfl⟩)) (fun s hs=>HSPI.out s (List.mem_of_mem_take hs)))).kept hm4 (fun hh=>by
       have:B=w.heap.size+1:=by simpa using hh
       have:=HH.out.lt
       omega) (fun i hi hh=>by
       have e:i=w.heap.size+1:=by simpa using hh
       subst e
       rcases List.mem_cons.1 hi with e2 | hi2
       ·have:=HH.out.all.lt
        omega
       ·obtain ⟨p,hp,he⟩:=List.mem_map.1 hi2
        rcases mem_putA hp with rfl | hp
        ·have he2:x.2=w.heap.size+1:=he
         have:=HXB.out;omega
        ·have:=(HH.out.vol p hp).lt
         omega)
     refine bodyPost_ret (v:=ansE 0 0) (resAns rfl _ _ _ _ _ _ rfl hx4) rfl ⟨by rw [HE.out],by rw [HSP.out,HT.out];exact HD5,?_⟩;exact (((Mods.of_below (bthen HBX.out.bel HB24.out)).trans HMO.out (fun i hi=>.inl hi))).trans hm4 (fun i hi=>.inr (by
       have:i=w.heap.size+1:=by simpa using hi
       omega))
end Go.Proofs.YthkmihedkddnmaaGreat
