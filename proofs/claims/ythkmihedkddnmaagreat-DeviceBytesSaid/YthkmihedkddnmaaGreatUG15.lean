import Derived.Test.YthkmihedkddnmaaGreatUG2
import Derived.Shelf.SlMaps.Clone
import Derived.Lib.SlMapFilter
import Derived.Maps.RangeWalk
import Derived.Deep.LoopGhost
import Derived.Test.YthkmihedkddnmaaGreatUG14
import Derived.Test.YthkmihedkddnmaaGreatUG12
set_option linter.unusedVariables false
set_option linter.unusedSimpArgs false
set_option maxHeartbeats 4000000
set_option maxRecDepth 100000
namespace Go.Proofs.YthkmihedkddnmaaGreat
open Lib (hid)
open Go.RowKit Go.Maps Wire Cmd
theorem clone_blk (w:World) (b:Nat) (m:List (Nat × List UInt8)) (h:MapL w Tryz.prog 3 RBlk .i64 blkD b m) :
  Calls Tryz.prog 58 #[.map (some b)] w fun e w'=>e = .returned (.map (some w.heap.size))∧MapL w' Tryz.prog 3 RBlk .i64 blkD w.heap.size m∧Below w.heap.size w w':=by
 obtain ⟨es,clock,hb,hrest⟩:=h;have HR:=hid hrest;clear hrest;have hq:=fun w=>run_eql_map_nil_sl (P:=Tryz.prog) w 82 _ _ (some b) undBlks
 go_enter Tryz.func58,Tryz.ntmps58
 go_wp2;rw [run_callFunc_extern Tryz.func84 (by kernel_rfl) (by kernel_rfl) (by kernel_rfl) (e:=Extern.MapsClone.clone) (by kernel_rfl),run_maps_clone_sl w 82 hb];simp only [Result.andThen];rw [Oper.upon_value];go_wp2;rw [run_typeAssert_map_sl _ 82 _ _ _ _ undBlks];simp only [Result.andThen];rw [Oper.upon_value];go_wp2;go_ret;refine ⟨rfl,⟨es,clock,(MapKept.heap_alloc w _).1,HR.out⟩,balloc (Below.refl _ _) _⟩
theorem dsize1_any (w:World) (p:Nat) (sz:Int) (mv:Value) (hp:w.heap[p]? = some (.cells #[.int .i64 sz,mv] 84 (0,0))) (k:Int) (c:List UInt8) (hc:c.length=256) :
  Calls Tryz.prog 73 #[.int .i64 k,bA c,.pointer (some ⟨p,0,none⟩)] w fun e w'=>e = .returned (.bool (decide (sz≤k)))∧Below w.heap.size w w':=by
 have hxs:(bV c).toArray.size=256:=by simp [bV_len,hc]
 have c0:=cellOf hp 0 (v:=.int .i64 sz) rfl;have hl:=(hLT hp)
 clear hp hc;unfold bA
 generalize (bV c).toArray=X at *
 by_cases hk:sz≤k
 ·have HD:Hid (decide (sz≤k)=true):=hid (decide_eq_true hk)
  go_enter Tryz.func73,Tryz.ntmps73
  go_wp2_with fail;go_ret;exact ⟨by rw [HD.out];rfl,balloc (Below.refl _ _) _⟩
 ·have HD:Hid (decide (sz≤k)=false):=hid (decide_eq_false hk)
  go_enter Tryz.func73,Tryz.ntmps73
  go_wp2_with fail;go_ret;exact ⟨by rw [HD.out];rfl,balloc (Below.refl _ _) _⟩
theorem RBlk_shape {v:Value} {y:DataW Unit × List MemPlace} (h:RBlk v=some y):∃ c:{c:List UInt8 // c.length=256},v=bA c.1:=by
 unfold RBlk at h
 split at h
 ·rename_i hx
  exact ⟨⟨hx.choose,hx.choose_spec.1⟩,hx.choose_spec.2⟩
 ·cases h
def pdS (sz:Int) (kl:Lit) (_:DataW Unit):Bool:=match kl with
 | .int _ k=>decide (sz≤k)
 | _=>false
theorem pdS_enc (sz:Int) (m:List (Nat × List UInt8)):Lib.deleteFuncD (pdS sz) (encM .i64 blkD m)=encM .i64 blkD (m.filter fun q=>decide ((q.1:Int)<sz)):=by
 show DataW.map (List.filter _ (encA .i64 blkD m))=DataW.map (encA .i64 blkD _)
 unfold encA;rw [List.filter_map]
 congr 2
 refine List.filter_congr fun q _ => ?_;simp only [Function.comp,pdS];rw [Bool.eq_iff_iff]
 simp
theorem delf_blk (w:World) (b:Nat) (m:List (Nat × List UInt8)) (h:MapL w Tryz.prog 3 RBlk .i64 blkD b m) (p:Nat) (sz:Int) (mv:Value) (hp:w.heap[p]? = some (.cells #[.int .i64 sz,mv] 84 (0,0))) (hpb:p≠b) :
  Calls Tryz.prog 72 #[.map (some b),.func (.func 73) #[] #[.pointer (some ⟨p,0,none⟩)]] w fun e w'=>e = .returned (.tuple #[])∧MapL w' Tryz.prog 3 RBlk .i64 blkD b (m.filter fun q=>decide ((q.1:Int)<sz))∧Mods [b] w w':=by
 have hown:w.ownsMap Tryz.prog 3 RBlk b m.length (encM .i64 blkD m):=h;have K:Keyed Tryz.prog 3:=int_keyed undInt;have HP:=hid hp;have HPB:=hid hpb;have HPD:=hid (pdS_enc sz m);have HLT:=hid h.lt;clear h hp hpb;obtain ⟨es0,hes,hap,hkeys⟩:=hown.entries K;rw [hes] at hown;have HES:=hid hes;have HZ:Hid (∀ (X:World) (c:List UInt8),c.length=256→(storeCells ⟨X.heap.size,0,none⟩ (bV c)).run Tryz.prog (X.alloc (.cells Tryz.zeroCells50 50)) = .ok () (X.alloc (.cells (bV c).toArray 50))):=hid (fun X c hc=>by
  have:=run_storeNew (P:=Tryz.prog) X 50 Tryz.zeroCells50 (bV c).toArray (by rw [zszM];simp [bV_len,hc]) (by simpa using bV_one c)
  simpa using this)
 clear hes
 go_enter Tryz.func72,Tryz.ntmps72
 go_wp2_with (at_range;refine wpList_range_own _ rfl _ 82 rfl 3 50 K undBlks RBlk b _ _ rfl hown ?_;intro w0 hrg0 hg0 hs0)
 go_frame
 go_loopw [9] (fun _ wr=>∃ (left:Lit→Bool) (cnt:Nat),wr.ranges Tryz.prog 3 RBlk b w.heap.size m.length (Fk (pdS sz) es0 left) left cnt∧w.grownBy wr (some b)) (fun _ wr=>wr.rangeLeft b w.heap.size)
 case atStart=>exact ⟨_,_,by rw [Fk_start hkeys];exact hrg0,hg0.but _⟩
 case round =>
  obtain ⟨left,cnt,hrg,hgw⟩:=hrel
  go_wp2_with (at_next;refine wpList_next_ranges _ rfl _ rfl 3 K RBlk (Value.int .i64) (fun c:{c:List UInt8 // c.length=256}=>bA c.1) (fun key kl hkey=>by obtain ⟨x,rfl,_⟩:=Maps.keyOf_int_inv undInt hkey;exact ⟨x,rfl⟩) (fun v y hv=>RBlk_shape hv) b w.heap.size _ _ _ _ rfl hrg ?_ ?_)
  ·intro _ hl0
   go_wp2
   go_end0
   refine ⟨rfl,mapL_of (n:=m.length) ?_,⟨hgw.os,hgw.tape,hgw.output,hgw.size,fun k hk hn=>hgw.block k hk (fun e=>hn (by simp [Option.some.inj e]))⟩⟩;rw [← HPD.out,HES.out,← Fk_end hl0];exact hrg.owns
  ·intro x c hcl kl yd yp w1 cnt1 hkey hlx hv hat hrg1 hlt hg1 hs1 hen
   obtain ⟨x',ex,rfl,hwx⟩:=Maps.keyOf_int_inv undInt hkey
   cases ex
   have hgw1:=hgw.andThen hg1 (fun j hj=>by cases hj;exact Or.inl (Nat.le_refl _));have HG1:=hid hgw1;have HRG1:=hid hrg1;have HP1:=hid ((hgw1.block p (hLT HP.out) (fun e=>HPB.out (Option.some.inj e))).trans HP.out);have hst:=HZ.out w1 c hcl;have HX2:Hid ((w1.alloc (.cells (bV c).toArray 50)).rangeAt w1.heap.size 0 (bV c)∧(Tryz.prog.info? 50).map (·.size)=some (bV c).length):=hid ⟨fun j u hj=>by
    rw [Nat.zero_add];exact cellOf' (heap_alloc_new w1 _) j (by simpa using hj),by rw [bV_len,hcl];exact infoBlk⟩
   have HCL:=hid hcl;have HK:=hid hkey;have HLX:=hid hlx;have HAT:=hid hat;have HCN:=hid hlt;have HLE:=hid (And.intro hrg1.left_eq hrg.left_eq);have hcs:(bV c).toArray.size=256:=by simp [bV_len,hcl]
   clear hkey hlx hat hlt hcl hgw1 hrg1 hgw hrg hg1 hv hwx hs1;unfold bA at hen ⊢;go_wp2_with fail;clear hst hen;have HB2:=balloc (Below.refl _ w1) (.cells (bV c).toArray 50);have hx2:=HX2.out;obtain ⟨w2,hw2⟩:∃ W,w1.alloc (.cells (bV c).toArray 50)=W:=⟨_,rfl⟩
   rw [hw2] at HB2 hx2 ⊢;clear hw2;have HX3:=hid hx2;have HBW2:=hid HB2;have hg2:w1.grownBy w2 none:=⟨HB2.os,HB2.tape,HB2.output,HB2.size,fun k hk _=>HB2.block k hk⟩
   have HRG2:=hid (HRG1.out.kept hg2 (by simp) (by simp));have HP2:=hid ((HB2.block p (hLT HP1.out)).trans HP1.out);have HGW2:=hid (HG1.out.andThen hg2 (fun j hj=>by cases hj));have hc:=dsize1_any w2 p sz mv HP2.out x c HCL.out;clear HB2 hx2 hg2 hcs;refine wp_load_mid (P:=Tryz.prog) 50 _ rfl w1.heap.size 0 rfl (bV c) _ HX3.out.1 Tryz.underlying50 rfl HX3.out.2 ?_;go_wp2_with fail;refine hc.mono ?_;rintro e w3 ⟨rfl,hb3⟩;dsimp only;have hg3:w2.grownBy w3 none:=⟨hb3.os,hb3.tape,hb3.output,hb3.size,fun k hk _=>hb3.block k hk⟩
   have hrg3:=HRG2.out.kept hg3 (by simp) (by simp);have HGW3:=hid (HGW2.out.andThen hg3 (fun j hj=>by cases hj));clear hc hb3 hg3;obtain ⟨q,hq⟩:∃ q,decide (sz≤x)=q:=⟨_,rfl⟩
   have HPQ:Hid (pdS sz (.int .i64 x) yd=q):=hid hq;rw [hq];clear hq
   cases q with
   | false =>
    have HRG3:=hid hrg3;clear hrg3;go_wp2_with fail;go_roundw
    case rel=>exact ⟨_,cnt1,by rw [← Fk_stays hap (K.key HK.out) HLX.out HPQ.out HAT.out];exact HRG3.out,HGW3.out⟩
    case measure=>rw [HRG3.out.left_eq,HLE.out.2];exact HCN.out
   | true =>
    have HKK:=HK.out
    go_wp2_with (at_delete;refine wpList_delete_ranges _ rfl _ _ 82 3 rfl 50 K undBlks RBlk b w.heap.size _ _ _ _ rfl hrg3 _ _ rfl HKK ?_;intro w4 cnt4 hrg4 hle hturn;go_frame)
    rw [strike_twice] at hrg4;go_roundw
    case rel=>exact ⟨_,cnt4,by rw [← Fk_struck hap (K.key HK.out) HLX.out HPQ.out HAT.out];exact hrg4,HGW3.out.andThen hturn.grown (fun j hj=>by cases hj;exact Or.inr rfl)⟩
    case measure=>rw [hrg4.left_eq,HLE.out.2];have:=HCN.out;omega
end Go.Proofs.YthkmihedkddnmaaGreat
namespace Go.Proofs.YthkmihedkddnmaaGreat
open Lib (hid)
open Go.RowKit Go.Maps Wire Cmd
theorem dsnap_at (n0:Nat) (w:World) (B Ba:Nat) (l:List (Nat × (Vl × Nat))) (h:DevAt n0 w B Ba l) (o:Op0) (ao:Option Addr) (cap:Nat) (b:Int) (hn:o.data.length≤9223372036854775807) (hmay:mayO o=true) (hk:o.k=4) (x:Vl × Nat) (hg:getA o.vol l=some x) :
  Calls Tryz.prog 44 #[.pointer (some ⟨B,0,none⟩),.agg (oC o (.slice ao o.data.length cap)),.int .i64 b] w fun e w'=>e = .returned (ansE 0 0)∧∃ b',DevAt n0 w' B Ba (putA o.to (x.1,b') l)∧Mods [Ba] w w'∧w.heap.size≤b':=by
 have HH:=hid h;have HG:=hid hg;have HVOL:=hid (may_vol hmay (by omega));have HTO:=hid (may_to hmay hk);have HVOK:=hid (h.ok.vol (o.vol,x.1) (by unfold strip mapA;exact List.mem_map.2 ⟨_,getA_some hg,rfl⟩));have HPV:Hid (partV o = .iface 134 (.agg #[.int .u64 (o.vol:Int),.int .u64 (o.to:Int)])):=hid (by unfold partV;rw [if_neg (by omega),if_pos hk]);obtain ⟨sl,hsl⟩:∃ s,Value.slice ao o.data.length cap=s:=⟨_,rfl⟩
 have CP:Hid (∀ X,Calls Tryz.prog 71 #[.agg (oC o sl)] X fun e w'=>e = .returned (.iface 134 (.agg #[.int .u64 (o.vol:Int),.int .u64 (o.to:Int)]))∧Below X.heap.size X w'):=hid (fun X=>by rw [← hsl,← HPV.out];exact part13_any o ao cap X hn);rw [hsl];clear hsl h hk hmay hn hg;obtain ⟨w2,hw2⟩:∃ W,(w.alloc (.cells #[.int .i64 o.k,.int .u64 (o.vol:Int),.int .u64 (o.to:Int),.int .i64 o.size,.int .i64 o.pl,.int .i64 o.count,sl] 40)).alloc (.cells #[.int .i64 0,.int .i64 0,.slice none 0 0] 35)=W:=⟨_,rfl⟩
 have HBX:Hid (Boxes w w2 (oC o sl)):=hid (by rw [← hw2];exact boxes w (oC o sl));have HD2:=hid (HH.out.below HBX.out.bel);have HX2:=hid HBX.out.op;have HLT:=hid (hLT HX2.out);have HLK:Hid (∀ X,Below w2.heap.size w2 X→(Instr.lookup 61 (.map (some Ba)) (.int .u64 (o.vol:Int)) false).run Tryz.prog X = .ok (.agg #[.int .i64 (x.1.size:Int),.map (some x.2)]) X):=hid (fun X hX=>((HD2.out.below hX).look (Nat.lt_trans HVOL.out.2 (by decide)) HG.out).2)
 rw [show (oC o sl)=#[.int .i64 o.k,.int .u64 (o.vol:Int),.int .u64 (o.to:Int),.int .i64 o.size,.int .i64 o.pl,.int .i64 o.count,sl] from rfl];have t1:=is_fork
 go_enter Tryz.func44,Tryz.ntmps44
 go_upto_region 1 with fail
 (try rw [hw2])
 clear hw2
 go_cut [7,8] (fun p q wx=>∃ W b7 b8,W=wx∧p = .pointer (some ⟨b7,0,none⟩)∧q = .pointer (some ⟨b8,0,none⟩)∧w2.heap.size≤b7∧w2.heap.size≤b8∧b7≠b8∧Below w2.heap.size w2 W∧W.heap[b7]? = some (.cells #[.int .i64 (x.1.size:Int),.map (some x.2)] 84 (0,0))∧W.heap[b8]? = some (.cells #[.int .u64 (o.vol:Int),.int .u64 (o.to:Int)] 134 (0,0)))
 case first =>
  have HSS:Hid (∀ X,Below w2.heap.size w2 X→(X.cell? ⟨B,0,none⟩=some (.map (some Ba))∧X.cell? ⟨w.heap.size,0,none⟩=some (.int .i64 o.k)∧X.cell? ⟨w.heap.size,1,none⟩=some (.int .u64 (o.vol:Int))∧X.cell? ⟨w.heap.size,2,none⟩=some (.int .u64 (o.to:Int))∧X.cell? ⟨w.heap.size,3,none⟩=some (.int .i64 o.size)∧X.cell? ⟨w.heap.size,4,none⟩=some (.int .i64 o.pl)∧X.cell? ⟨w.heap.size,5,none⟩=some (.int .i64 o.count)∧X.cell? ⟨w.heap.size,6,none⟩=some (sl))∧Below w2.heap.size w2 X):=hid (fun X hb=>⟨⟨(World.cell?_of_block (hb.block _ (HD2.out.lt))).trans (HD2.out.cell),(World.cell?_of_block (hb.block _ (HLT.out))).trans (cellOf HX2.out 0 rfl),(World.cell?_of_block (hb.block _ (HLT.out))).trans (cellOf HX2.out 1 rfl),(World.cell?_of_block (hb.block _ (HLT.out))).trans (cellOf HX2.out 2 rfl),(World.cell?_of_block (hb.block _ (HLT.out))).trans (cellOf HX2.out 3 rfl),(World.cell?_of_block (hb.block _ (HLT.out))).trans (cellOf HX2.out 4 rfl),(World.cell?_of_block (hb.block _ (HLT.out))).trans (cellOf HX2.out 5 rfl),(World.cell?_of_block (hb.block _ (HLT.out))).trans (cellOf HX2.out 6 rfl)⟩,hb⟩)
  refine wp_region_held_drew (S:=fun X=>(X.cell? ⟨B,0,none⟩=some (.map (some Ba))∧X.cell? ⟨w.heap.size,0,none⟩=some (.int .i64 o.k)∧X.cell? ⟨w.heap.size,1,none⟩=some (.int .u64 (o.vol:Int))∧X.cell? ⟨w.heap.size,2,none⟩=some (.int .u64 (o.to:Int))∧X.cell? ⟨w.heap.size,3,none⟩=some (.int .i64 o.size)∧X.cell? ⟨w.heap.size,4,none⟩=some (.int .i64 o.pl)∧X.cell? ⟨w.heap.size,5,none⟩=some (.int .i64 o.count)∧X.cell? ⟨w.heap.size,6,none⟩=some (sl))∧Below w2.heap.size w2 X) (by kernel_rfl) (HSS.out _ (Below.refl _ _).drew) (fun hHeld => ?_)
  have hbe:Below w2.heap.size w2 w2.drew:=(Below.refl _ _).drew;obtain ⟨wd,hwd⟩:∃ y,w2.drew=y:=⟨_,rfl⟩
  rw [hwd] at hHeld hbe ⊢;have HBE:=hid hbe;have HS0:Hid (w2.heap.size≤wd.heap.size):=hid HBE.out.size;clear hwd hbe;refine tkA 0 rfl ?_;refine tkA 4 rfl ?_;refine tkA 7 rfl ?_;refine tkA 1 rfl ?_;refine tkA 5 rfl ?_;refine tkA 2 rfl ?_;refine tkA 3 rfl ?_;refine tkB 6 (.agg #[.int .i64 (x.1.size:Int),.map (some x.2)]) rfl ?_ ?_
  ·(intro w hSw;simp only [gE1,gE2,gE3];(have h6:=HLK.out w hSw.2;go_simp;first | done | with_reducible rfl))
  refine wpAnyH_ready (rs:=[8,10,11]) (by kernel_rfl) (by simp) ?_;refine AllReadyH.cons rfl (fun K hK => ?_) (AllReadyH.cons rfl (fun K hK => ?_) (AllReadyH.cons rfl (fun K hK => ?_) (AllReadyH.nil)))
  ·skip
   simp only [gE1,gE2,gE3];go_simp;refine (CP.out _).mono ?_;rintro e w3 ⟨rfl,hb3⟩;dsimp only;have HBE:=hid (bthen HBE.out hb3);clear hHeld;refine hK.out _ _ (HSS.out _ HBE.out) fun hHeld => ?_;clear hK K;try simp only [Act.put,pE1,pE2,pE3]
   have HC8:=hid hb3;clear hb3;refine tkA 9 rfl ?_;refine rd2 10 11 rfl rfl (fun K hK => ?_) fun K hK => ?_
   ·skip
    simp only [gE1,gE2,gE3];go_simp;obtain ⟨b10,y10,hw10,hy10,hx10,HN10⟩:=al w3 (.cells #[.int .i64 0,.map none] 84);rw [hy10,hw10];have HG10:Hid (w2.heap.size≤b10):=hid (by have:=HBE.out.size;omega);clear hy10 hw10;have HBE:=hid (bthen HBE.out hx10);clear hHeld;refine hK.out _ _ (HSS.out _ HBE.out) fun hHeld => ?_;clear hK K;try simp only [Act.put,pE1,pE2,pE3]
    clear hx10;refine rd1 11 rfl fun K hK => ?_;simp only [gE1,gE2,gE3];go_simp;obtain ⟨b11,y11,hw11,hy11,hx11,HN11⟩:=al y10 (.cells #[.int .u64 0,.int .u64 0] 134);rw [hy11,hw11];have HG11:Hid (w2.heap.size≤b11):=hid (by have:=HBE.out.size;omega);have HNE10_11:Hid (b10≠b11):=hid (by have:=(hLT HN10.out);omega);clear hy11 hw11;have HBE:=hid (bthen HBE.out hx11);clear hHeld;refine hK.out _ _ (HSS.out _ HBE.out) fun hHeld => ?_;clear hK K;try simp only [Act.put,pE1,pE2,pE3]
    have HN10:=hid (nX hx11 HN10.out);clear hx11;refine rd1 12 rfl fun K hK => ?_;obtain ⟨hc12_0,hf12_0,hc12_1,hf12_1⟩:=bx2 HN10.out;simp only [gE1,gE2,gE3];go_simp;obtain ⟨y12,hy12,hm12,hv12⟩:=st2 HN10.out (.int .i64 (x.1.size:Int)) (.map (some x.2));rw [hy12];clear hy12 hc12_0 hf12_0 hc12_1 hf12_1;have HBE:=hid (bM HBE.out hm12 HG10.out);clear hHeld;refine hK.out _ _ (HSS.out _ HBE.out) fun hHeld => ?_;clear hK K;try simp only [Act.put,pE1,pE2,pE3]
    have HN11:=hid (nMa hm12 HN11.out HNE10_11.out);have HN10:=hid hv12;clear hv12 hm12;refine rd1 13 rfl fun K hK => ?_;obtain ⟨hc13_0,hf13_0,hc13_1,hf13_1⟩:=bx2 HN11.out;simp only [gE1,gE2,gE3];go_simp;obtain ⟨y13,hy13,hm13,hv13⟩:=st2 HN11.out (.int .u64 (o.vol:Int)) (.int .u64 (o.to:Int));rw [hy13];clear hy13 hc13_0 hf13_0 hc13_1 hf13_1;have HBE:=hid (bM HBE.out hm13 HG11.out);clear hHeld;refine hK.out _ _ (HSS.out _ HBE.out) fun hHeld => ?_;clear hK K;try simp only [Act.put,pE1,pE2,pE3]
    have HN10:=hid (nMb hm13 HN10.out HNE10_11.out);have HN11:=hid hv13;clear hv13 hm13;refine wpAnyH_done (by kernel_rfl) ?_ _;have HEND:=hid hHeld.2;have HSE:=hid hHeld.1;clear hHeld;clear HSE HSS;go_wp2_with fail;go_meet;exact ⟨_,_,_,rfl,rfl,rfl,HG10.out,HG11.out,HNE10_11.out,HEND.out,HN10.out,HN11.out⟩
   ·skip
    simp only [gE1,gE2,gE3];go_simp;obtain ⟨b11,y11,hw11,hy11,hx11,HN11⟩:=al w3 (.cells #[.int .u64 0,.int .u64 0] 134);rw [hy11,hw11];have HG11:Hid (w2.heap.size≤b11):=hid (by have:=HBE.out.size;omega);clear hy11 hw11;have HBE:=hid (bthen HBE.out hx11);clear hHeld;refine hK.out _ _ (HSS.out _ HBE.out) fun hHeld => ?_;clear hK K;try simp only [Act.put,pE1,pE2,pE3]
    clear hx11;refine rd1 10 rfl fun K hK => ?_;simp only [gE1,gE2,gE3];go_simp;obtain ⟨b10,y10,hw10,hy10,hx10,HN10⟩:=al y11 (.cells #[.int .i64 0,.map none] 84);rw [hy10,hw10];have HG10:Hid (w2.heap.size≤b10):=hid (by have:=HBE.out.size;omega);have HNE10_11:Hid (b10≠b11):=hid (by have:=(hLT HN11.out);omega);clear hy10 hw10;have HBE:=hid (bthen HBE.out hx10);clear hHeld;refine hK.out _ _ (HSS.out _ HBE.out) fun hHeld => ?_;clear hK K;try simp only [Act.put,pE1,pE2,pE3]
    have HN11:=hid (nX hx10 HN11.out);clear hx10;refine rd1 12 rfl fun K hK => ?_;obtain ⟨hc12_0,hf12_0,hc12_1,hf12_1⟩:=bx2 HN10.out;simp only [gE1,gE2,gE3];go_simp;obtain ⟨y12,hy12,hm12,hv12⟩:=st2 HN10.out (.int .i64 (x.1.size:Int)) (.map (some x.2));rw [hy12];clear hy12 hc12_0 hf12_0 hc12_1 hf12_1;have HBE:=hid (bM HBE.out hm12 HG10.out);clear hHeld;refine hK.out _ _ (HSS.out _ HBE.out) fun hHeld => ?_;clear hK K;try simp only [Act.put,pE1,pE2,pE3]
    have HN11:=hid (nMa hm12 HN11.out HNE10_11.out);have HN10:=hid hv12;clear hv12 hm12;refine rd1 13 rfl fun K hK => ?_;obtain ⟨hc13_0,hf13_0,hc13_1,hf13_1⟩:=bx2 HN11.out;simp only [gE1,gE2,gE3];go_simp;obtain ⟨y13,hy13,hm13,hv13⟩:=st2 HN11.out (.int .u64 (o.vol:Int)) (.int .u64 (o.to:Int));rw [hy13];clear hy13 hc13_0 hf13_0 hc13_1 hf13_1;have HBE:=hid (bM HBE.out hm13 HG11.out);clear hHeld;refine hK.out _ _ (HSS.out _ HBE.out) fun hHeld => ?_;clear hK K;try simp only [Act.put,pE1,pE2,pE3]
    have HN10:=hid (nMb hm13 HN10.out HNE10_11.out);have HN11:=hid hv13;clear hv13 hm13;refine wpAnyH_done (by kernel_rfl) ?_ _;have HEND:=hid hHeld.2;have HSE:=hid hHeld.1;clear hHeld;clear HSE HSS;go_wp2_with fail;go_meet;exact ⟨_,_,_,rfl,rfl,rfl,HG10.out,HG11.out,HNE10_11.out,HEND.out,HN10.out,HN11.out⟩
  ·skip
   simp only [gE1,gE2,gE3];go_simp;obtain ⟨b10,y10,hw10,hy10,hx10,HN10⟩:=al wd (.cells #[.int .i64 0,.map none] 84);rw [hy10,hw10];have HG10:Hid (w2.heap.size≤b10):=hid (by have:=HBE.out.size;omega);clear hy10 hw10;have HBE:=hid (bthen HBE.out hx10);clear hHeld;refine hK.out _ _ (HSS.out _ HBE.out) fun hHeld => ?_;clear hK K;try simp only [Act.put,pE1,pE2,pE3]
   clear hx10;refine rd2 8 11 rfl rfl (fun K hK => ?_) fun K hK => ?_
   ·skip
    simp only [gE1,gE2,gE3];go_simp;refine (CP.out _).mono ?_;rintro e w3 ⟨rfl,hb3⟩;dsimp only;have HBE:=hid (bthen HBE.out hb3);clear hHeld;refine hK.out _ _ (HSS.out _ HBE.out) fun hHeld => ?_;clear hK K;try simp only [Act.put,pE1,pE2,pE3]
    have HN10:=hid (nX hb3 HN10.out);have HC8:=hid hb3;clear hb3;refine tkA 9 rfl ?_;refine rd1 11 rfl fun K hK => ?_;simp only [gE1,gE2,gE3];go_simp;obtain ⟨b11,y11,hw11,hy11,hx11,HN11⟩:=al w3 (.cells #[.int .u64 0,.int .u64 0] 134);rw [hy11,hw11];have HG11:Hid (w2.heap.size≤b11):=hid (by have:=HBE.out.size;omega);have HNE10_11:Hid (b10≠b11):=hid (by have:=(hLT HN10.out);omega);clear hy11 hw11;have HBE:=hid (bthen HBE.out hx11);clear hHeld;refine hK.out _ _ (HSS.out _ HBE.out) fun hHeld => ?_;clear hK K;try simp only [Act.put,pE1,pE2,pE3]
    have HN10:=hid (nX hx11 HN10.out);clear hx11;refine rd1 12 rfl fun K hK => ?_;obtain ⟨hc12_0,hf12_0,hc12_1,hf12_1⟩:=bx2 HN10.out;simp only [gE1,gE2,gE3];go_simp;obtain ⟨y12,hy12,hm12,hv12⟩:=st2 HN10.out (.int .i64 (x.1.size:Int)) (.map (some x.2));rw [hy12];clear hy12 hc12_0 hf12_0 hc12_1 hf12_1;have HBE:=hid (bM HBE.out hm12 HG10.out);clear hHeld;refine hK.out _ _ (HSS.out _ HBE.out) fun hHeld => ?_;clear hK K;try simp only [Act.put,pE1,pE2,pE3]
    have HN11:=hid (nMa hm12 HN11.out HNE10_11.out);have HN10:=hid hv12;clear hv12 hm12;refine rd1 13 rfl fun K hK => ?_;obtain ⟨hc13_0,hf13_0,hc13_1,hf13_1⟩:=bx2 HN11.out;simp only [gE1,gE2,gE3];go_simp;obtain ⟨y13,hy13,hm13,hv13⟩:=st2 HN11.out (.int .u64 (o.vol:Int)) (.int .u64 (o.to:Int));rw [hy13];clear hy13 hc13_0 hf13_0 hc13_1 hf13_1;have HBE:=hid (bM HBE.out hm13 HG11.out);clear hHeld;refine hK.out _ _ (HSS.out _ HBE.out) fun hHeld => ?_;clear hK K;try simp only [Act.put,pE1,pE2,pE3]
    have HN10:=hid (nMb hm13 HN10.out HNE10_11.out);have HN11:=hid hv13;clear hv13 hm13;refine wpAnyH_done (by kernel_rfl) ?_ _;have HEND:=hid hHeld.2;have HSE:=hid hHeld.1;clear hHeld;clear HSE HSS;go_wp2_with fail;go_meet;exact ⟨_,_,_,rfl,rfl,rfl,HG10.out,HG11.out,HNE10_11.out,HEND.out,HN10.out,HN11.out⟩
   ·skip
    simp only [gE1,gE2,gE3];go_simp;obtain ⟨b11,y11,hw11,hy11,hx11,HN11⟩:=al y10 (.cells #[.int .u64 0,.int .u64 0] 134);rw [hy11,hw11];have HG11:Hid (w2.heap.size≤b11):=hid (by have:=HBE.out.size;omega);have HNE10_11:Hid (b10≠b11):=hid (by have:=(hLT HN10.out);omega);clear hy11 hw11;have HBE:=hid (bthen HBE.out hx11);clear hHeld;refine hK.out _ _ (HSS.out _ HBE.out) fun hHeld => ?_;clear hK K;try simp only [Act.put,pE1,pE2,pE3]
    have HN10:=hid (nX hx11 HN10.out);clear hx11;refine rd1 8 rfl fun K hK => ?_;simp only [gE1,gE2,gE3];go_simp;refine (CP.out _).mono ?_;rintro e w3 ⟨rfl,hb3⟩;dsimp only;have HBE:=hid (bthen HBE.out hb3);clear hHeld;refine hK.out _ _ (HSS.out _ HBE.out) fun hHeld => ?_;clear hK K;try simp only [Act.put,pE1,pE2,pE3]
    have HN10:=hid (nX hb3 HN10.out);have HN11:=hid (nX hb3 HN11.out);have HC8:=hid hb3;clear hb3;refine tkA 9 rfl ?_;refine rd1 12 rfl fun K hK => ?_;obtain ⟨hc12_0,hf12_0,hc12_1,hf12_1⟩:=bx2 HN10.out;simp only [gE1,gE2,gE3];go_simp;obtain ⟨y12,hy12,hm12,hv12⟩:=st2 HN10.out (.int .i64 (x.1.size:Int)) (.map (some x.2));rw [hy12];clear hy12 hc12_0 hf12_0 hc12_1 hf12_1;have HBE:=hid (bM HBE.out hm12 HG10.out);clear hHeld;refine hK.out _ _ (HSS.out _ HBE.out) fun hHeld => ?_;clear hK K;try simp only [Act.put,pE1,pE2,pE3]
    have HN11:=hid (nMa hm12 HN11.out HNE10_11.out);have HN10:=hid hv12;clear hv12 hm12;refine rd1 13 rfl fun K hK => ?_;obtain ⟨hc13_0,hf13_0,hc13_1,hf13_1⟩:=bx2 HN11.out;simp only [gE1,gE2,gE3];go_simp;obtain ⟨y13,hy13,hm13,hv13⟩:=st2 HN11.out (.int .u64 (o.vol:Int)) (.int .u64 (o.to:Int));rw [hy13];clear hy13 hc13_0 hf13_0 hc13_1 hf13_1;have HBE:=hid (bM HBE.out hm13 HG11.out);clear hHeld;refine hK.out _ _ (HSS.out _ HBE.out) fun hHeld => ?_;clear hK K;try simp only [Act.put,pE1,pE2,pE3]
    have HN10:=hid (nMb hm13 HN10.out HNE10_11.out);have HN11:=hid hv13;clear hv13 hm13;refine wpAnyH_done (by kernel_rfl) ?_ _;have HEND:=hid hHeld.2;have HSE:=hid hHeld.1;clear hHeld;clear HSE HSS;go_wp2_with fail;go_meet;exact ⟨_,_,_,rfl,rfl,rfl,HG10.out,HG11.out,HNE10_11.out,HEND.out,HN10.out,HN11.out⟩
  ·skip
   simp only [gE1,gE2,gE3];go_simp;obtain ⟨b11,y11,hw11,hy11,hx11,HN11⟩:=al wd (.cells #[.int .u64 0,.int .u64 0] 134);rw [hy11,hw11];have HG11:Hid (w2.heap.size≤b11):=hid (by have:=HBE.out.size;omega);clear hy11 hw11;have HBE:=hid (bthen HBE.out hx11);clear hHeld;refine hK.out _ _ (HSS.out _ HBE.out) fun hHeld => ?_;clear hK K;try simp only [Act.put,pE1,pE2,pE3]
   clear hx11;refine rd2 8 10 rfl rfl (fun K hK => ?_) fun K hK => ?_
   ·skip
    simp only [gE1,gE2,gE3];go_simp;refine (CP.out _).mono ?_;rintro e w3 ⟨rfl,hb3⟩;dsimp only;have HBE:=hid (bthen HBE.out hb3);clear hHeld;refine hK.out _ _ (HSS.out _ HBE.out) fun hHeld => ?_;clear hK K;try simp only [Act.put,pE1,pE2,pE3]
    have HN11:=hid (nX hb3 HN11.out);have HC8:=hid hb3;clear hb3;refine tkA 9 rfl ?_;refine rd1 10 rfl fun K hK => ?_;simp only [gE1,gE2,gE3];go_simp;obtain ⟨b10,y10,hw10,hy10,hx10,HN10⟩:=al w3 (.cells #[.int .i64 0,.map none] 84);rw [hy10,hw10];have HG10:Hid (w2.heap.size≤b10):=hid (by have:=HBE.out.size;omega);have HNE10_11:Hid (b10≠b11):=hid (by have:=(hLT HN11.out);omega);clear hy10 hw10;have HBE:=hid (bthen HBE.out hx10);clear hHeld;refine hK.out _ _ (HSS.out _ HBE.out) fun hHeld => ?_;clear hK K;try simp only [Act.put,pE1,pE2,pE3]
    have HN11:=hid (nX hx10 HN11.out);clear hx10;refine rd1 12 rfl fun K hK => ?_;obtain ⟨hc12_0,hf12_0,hc12_1,hf12_1⟩:=bx2 HN10.out;simp only [gE1,gE2,gE3];go_simp;obtain ⟨y12,hy12,hm12,hv12⟩:=st2 HN10.out (.int .i64 (x.1.size:Int)) (.map (some x.2));rw [hy12];clear hy12 hc12_0 hf12_0 hc12_1 hf12_1;have HBE:=hid (bM HBE.out hm12 HG10.out);clear hHeld;refine hK.out _ _ (HSS.out _ HBE.out) fun hHeld => ?_;clear hK K;try simp only [Act.put,pE1,pE2,pE3]
    have HN11:=hid (nMa hm12 HN11.out HNE10_11.out);have HN10:=hid hv12;clear hv12 hm12;refine rd1 13 rfl fun K hK => ?_;obtain ⟨hc13_0,hf13_0,hc13_1,hf13_1⟩:=bx2 HN11.out;simp only [gE1,gE2,gE3];go_simp;obtain ⟨y13,hy13,hm13,hv13⟩:=st2 HN11.out (.int .u64 (o.vol:Int)) (.int .u64 (o.to:Int));rw [hy13];clear hy13 hc13_0 hf13_0 hc13_1 hf13_1;have HBE:=hid (bM HBE.out hm13 HG11.out);clear hHeld;refine hK.out _ _ (HSS.out _ HBE.out) fun hHeld => ?_;clear hK K;try simp only [Act.put,pE1,pE2,pE3]
    have HN10:=hid (nMb hm13 HN10.out HNE10_11.out);have HN11:=hid hv13;clear hv13 hm13;refine wpAnyH_done (by kernel_rfl) ?_ _;have HEND:=hid hHeld.2;have HSE:=hid hHeld.1;clear hHeld;clear HSE HSS;go_wp2_with fail;go_meet;exact ⟨_,_,_,rfl,rfl,rfl,HG10.out,HG11.out,HNE10_11.out,HEND.out,HN10.out,HN11.out⟩
   ·skip
    simp only [gE1,gE2,gE3];go_simp;obtain ⟨b10,y10,hw10,hy10,hx10,HN10⟩:=al y11 (.cells #[.int .i64 0,.map none] 84);rw [hy10,hw10];have HG10:Hid (w2.heap.size≤b10):=hid (by have:=HBE.out.size;omega);have HNE10_11:Hid (b10≠b11):=hid (by have:=(hLT HN11.out);omega);clear hy10 hw10;have HBE:=hid (bthen HBE.out hx10);clear hHeld;refine hK.out _ _ (HSS.out _ HBE.out) fun hHeld => ?_;clear hK K;try simp only [Act.put,pE1,pE2,pE3]
    have HN11:=hid (nX hx10 HN11.out);clear hx10;refine rd1 8 rfl fun K hK => ?_;simp only [gE1,gE2,gE3];go_simp;refine (CP.out _).mono ?_;rintro e w3 ⟨rfl,hb3⟩;dsimp only;have HBE:=hid (bthen HBE.out hb3);clear hHeld;refine hK.out _ _ (HSS.out _ HBE.out) fun hHeld => ?_;clear hK K;try simp only [Act.put,pE1,pE2,pE3]
    have HN11:=hid (nX hb3 HN11.out);have HN10:=hid (nX hb3 HN10.out);have HC8:=hid hb3;clear hb3;refine tkA 9 rfl ?_;refine rd1 12 rfl fun K hK => ?_;obtain ⟨hc12_0,hf12_0,hc12_1,hf12_1⟩:=bx2 HN10.out;simp only [gE1,gE2,gE3];go_simp;obtain ⟨y12,hy12,hm12,hv12⟩:=st2 HN10.out (.int .i64 (x.1.size:Int)) (.map (some x.2));rw [hy12];clear hy12 hc12_0 hf12_0 hc12_1 hf12_1;have HBE:=hid (bM HBE.out hm12 HG10.out);clear hHeld;refine hK.out _ _ (HSS.out _ HBE.out) fun hHeld => ?_;clear hK K;try simp only [Act.put,pE1,pE2,pE3]
    have HN11:=hid (nMa hm12 HN11.out HNE10_11.out);have HN10:=hid hv12;clear hv12 hm12;refine rd1 13 rfl fun K hK => ?_;obtain ⟨hc13_0,hf13_0,hc13_1,hf13_1⟩:=bx2 HN11.out;simp only [gE1,gE2,gE3];go_simp;obtain ⟨y13,hy13,hm13,hv13⟩:=st2 HN11.out (.int .u64 (o.vol:Int)) (.int .u64 (o.to:Int));rw [hy13];clear hy13 hc13_0 hf13_0 hc13_1 hf13_1;have HBE:=hid (bM HBE.out hm13 HG11.out);clear hHeld;refine hK.out _ _ (HSS.out _ HBE.out) fun hHeld => ?_;clear hK K;try simp only [Act.put,pE1,pE2,pE3]
    have HN10:=hid (nMb hm13 HN10.out HNE10_11.out);have HN11:=hid hv13;clear hv13 hm13;refine wpAnyH_done (by kernel_rfl) ?_ _;have HEND:=hid hHeld.2;have HSE:=hid hHeld.1;clear hHeld;clear HSE HSS;go_wp2_with fail;go_meet;exact ⟨_,_,_,rfl,rfl,rfl,HG10.out,HG11.out,HNE10_11.out,HEND.out,HN10.out,HN11.out⟩
 case rest =>
  obtain ⟨W,b7,b8,rfl,rfl,rfl,hg7,hg8,hne,hbw,hn7,hn8⟩:=hcut;have HBW:=hid hbw;have HN7:=hid hn7;have HN8:=hid hn8;have HDW:=hid (HD2.out.below hbw);have HG7:=hid hg7;have HG8:=hid hg8;have HML:=hid (HDW.out.vol _ (getA_some HG.out));have HA2:=hid ((hbw.block _ (hLT HBX.out.ans)).trans HBX.out.ans);have HSW:=hid HBX.out.sz;have HNF:Hid (∀ i,w.heap.size≤i→i∉[Ba]):=hid (fun i hi hh=>by
   have h1:i=Ba:=by simpa using hh
   have:=HH.out.all.lt
   omega)
  clear hbw hn7 hn8 hg7 hg8 hne HLK HX2 HLT t1;go_wp2_with fail
  have HSS:Hid (∀ X,Mods [Ba] W X→(X.cell? ⟨B,0,none⟩=some (.map (some Ba))∧X.cell? ⟨b8,1,none⟩=some (.int .u64 (o.to:Int))∧X.cell? ⟨b7,0,none⟩=some (.int .i64 (x.1.size:Int))∧X.cell? ⟨b7,1,none⟩=some (.map (some x.2)))∧Mods [Ba] W X):=hid (fun X hb=>⟨⟨(World.cell?_of_block (hb.block _ (HDW.out.lt) (by simpa using HDW.out.B_ne))).trans (HDW.out.cell),(World.cell?_of_block (hb.block _ ((hLT HN8.out)) (HNF.out _ (by have:=HG8.out;have:=HSW.out;show w.heap.size≤b8;omega)))).trans (cellOf HN8.out 1 rfl),(World.cell?_of_block (hb.block _ ((hLT HN7.out)) (HNF.out _ (by have:=HG7.out;have:=HSW.out;show w.heap.size≤b7;omega)))).trans (cellOf HN7.out 0 rfl),(World.cell?_of_block (hb.block _ ((hLT HN7.out)) (HNF.out _ (by have:=HG7.out;have:=HSW.out;show w.heap.size≤b7;omega)))).trans (cellOf HN7.out 1 rfl)⟩,hb⟩)
  refine wp_region_held_drew (S:=fun X=>(X.cell? ⟨B,0,none⟩=some (.map (some Ba))∧X.cell? ⟨b8,1,none⟩=some (.int .u64 (o.to:Int))∧X.cell? ⟨b7,0,none⟩=some (.int .i64 (x.1.size:Int))∧X.cell? ⟨b7,1,none⟩=some (.map (some x.2)))∧Mods [Ba] W X) (by kernel_rfl) (HSS.out _ (Mods.of_below (Below.refl _ _).drew)) (fun hHeld => ?_);have hbe:Below W.heap.size W W.drew:=(Below.refl _ _).drew;obtain ⟨wd,hwd⟩:∃ y,W.drew=y:=⟨_,rfl⟩
  rw [hwd] at hHeld hbe ⊢;have HBE:=hid hbe;have HS0:Hid (W.heap.size≤wd.heap.size):=hid HBE.out.size;clear hwd hbe;refine tkA 0 rfl ?_;refine tkA 4 rfl ?_;refine tkA 6 rfl ?_;refine tkA 8 rfl ?_;refine tkA 1 rfl ?_;refine tkA 5 rfl ?_;refine tkA 7 rfl ?_;refine tkA 9 rfl ?_;refine tkA 2 rfl ?_;refine tkA 3 rfl ?_;refine rd1 10 rfl fun K hK => ?_;simp only [gE1,gE2,gE3];go_simp;refine (clone_blk _ x.2 x.1.m (HML.out.below HBE.out)).mono ?_;rintro e w3 ⟨rfl,hm3,hb3⟩;dsimp only;have HBE:=hid (bthen HBE.out hb3);clear hHeld
  refine hK.out _ _ (HSS.out _ (Mods.of_below HBE.out)) fun hHeld => ?_;clear hK K;try simp only [Act.put,pE1,pE2,pE3]
  have HC10:=hid hb3;clear hb3;refine tkA 11 rfl ?_;refine rd1 12 rfl fun K hK => ?_;have HWD:=HS0;obtain ⟨w4,hup,hml,hmod⟩:=(HDW.out.below HBE.out).all.put undU64 undAll HH.out.short (wfU (Nat.lt_trans HTO.out.2 (by decide))) (a:=(x.1,wd.heap.size)) (RVol_mk (x.1.size:Int) (some wd.heap.size));simp only [gE1,gE2,gE3];go_simp;refine hK.out _ _ ?_ (fun hHeld => ?_)
  ·exact HSS.out _ ((Mods.of_below HBE.out).trans hmod (fun i hi=>.inl hi))
  clear hK K;try simp only [Act.put,pE1,pE2,pE3]
  have HD4:Hid (DevAt n0 w4 B Ba (putA o.to (x.1,wd.heap.size) l)):=hid ((HDW.out.below HBE.out).putAt hml (hm3.mods hmod (by have:=HWD.out;have:=HDW.out.all.lt;simp;omega)) hmod HTO.out HVOK.out (by have:=HWD.out;have:=HDW.out.lt;have:=HDW.out.ge.1;omega) (by have:=HWD.out;have:=HDW.out.all.lt;omega) (fun p hp e=>absurd e (by have:=HWD.out;have:=(HDW.out.vol p hp).lt;omega)));clear hml hmod hup;refine wpAnyH_done (by kernel_rfl) ?_ _;have HEND:=hid hHeld.2;have HSE:=hid hHeld.1;clear hHeld;have HMZ:=hid HEND.out;clear HEND HSE HSS HBE
  have hxa:=(HMZ.out.block (w.heap.size+1) (by have:=HSW.out;have:=HBW.out.size;omega) (HNF.out _ (Nat.le_succ _))).trans HA2.out;have HXA:=hid hxa;have e0:=cellOf hxa 0 (v:=.int .i64 0) rfl;have e1:=cellOf hxa 1 (v:=.int .i64 0) rfl;have e2:=cellOf hxa 2 (v:=.slice none 0 0) rfl;have f0:=frozenOf hxa 0;have f1:=frozenOf hxa 1;have f2:=frozenOf hxa 2;clear hxa;go_wp2_with fail;obtain ⟨hx4,hm4⟩:=set3 (x:=.int .i64 0) (y:=.int .i64 0) (z:=.slice none 0 0) HXA.out
  refine bodyPost_ret (v:=ansE 0 0) (resAns rfl _ _ _ _ _ _ rfl hx4) rfl ⟨rfl,wd.heap.size,HD4.out.kept hm4 (fun hh => ?_) (fun k hk hh => ?_),?_,?_⟩
  ·have:B=w.heap.size+1:=by simpa using hh
   have:=HH.out.lt;omega
  ·have e:k=w.heap.size+1:=by simpa using hh
   subst e
   rcases List.mem_cons.1 hk with e2 | hk2
   ·have:=HH.out.all.lt
    omega
   ·obtain ⟨p,hp,he⟩:=List.mem_map.1 hk2
    rcases mem_putA hp with rfl | hp
    ·have he2:wd.heap.size=w.heap.size+1:=he
     have:=HWD.out;have:=HSW.out;have:=HBW.out.size;omega
    ·have:=(HH.out.vol p hp).lt
     omega
  ·exact ((Mods.of_below (bthen HBX.out.bel HBW.out)).trans HMZ.out (fun i hi=>.inl hi)).trans hm4 (fun i hi=>.inr (by
    have:i=w.heap.size+1:=by simpa using hi
    omega))
  ·have:=HWD.out
   have:=HSW.out;have:=HBW.out.size;omega
end Go.Proofs.YthkmihedkddnmaaGreat
