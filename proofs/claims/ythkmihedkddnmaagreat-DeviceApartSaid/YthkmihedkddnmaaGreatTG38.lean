import Derived.Test.YthkmihedkddnmaaGreatTG2
import Derived.Test.YthkmihedkddnmaaGreatTG19
import Derived.Test.YthkmihedkddnmaaGreatTG37
import Derived.Test.YthkmihedkddnmaaGreatTG10
import Derived.Test.YthkmihedkddnmaaGreatTG11
import Derived.Test.YthkmihedkddnmaaGreatTG28
set_option linter.unusedVariables false
set_option linter.unusedSimpArgs false
set_option maxHeartbeats 6400000
set_option maxRecDepth 100000
namespace Go.Proofs.YthkmihedkddnmaaGreat
open Lib (hid)
open Go.RowKit Go.Maps Wire Cmd
structure OInv (n j:Nat) (b0:List UInt8) (l:List (Nat × Vl)) (last:Nat) (r:List UInt8):Prop where
 le:∀ p∈l,p.1≤last
 bd:last<4294967296
 len:l.length=j
 eq:ofVols n 0 b0=(ofVols (n - j) last r).map fun s=>(l ++ s.1,s.2)
theorem OInv.start (n:Nat) (b0:List UInt8):OInv n 0 b0 [] 0 b0:=⟨fun p hp=>(by cases hp),by omega,rfl,by simp⟩
theorem OInv.no {n j last:Nat} {b0 r:List UInt8} {l:List (Nat × Vl)} (h:OInv n j b0 l last r) (hj:j<n) (hf:ofVol r=none∨∃ s,ofVol r=some s∧s.1.1≤last):ofVols n 0 b0=none:=by
 rw [h.eq,show n - j=(n - j - 1)+1 by omega,ofVols]
 rcases hf with hf | ⟨s,hs,hle⟩
 ·rw [hf];rfl
 ·rw [hs]
  simp only [Option.bind_some];rw [if_pos hle]
  rfl
theorem OInv.fin {n last:Nat} {b0 r:List UInt8} {l:List (Nat × Vl)} (h:OInv n n b0 l last r):ofVols n 0 b0=some (l,r):=by
 rw [h.eq,Nat.sub_self,ofVols]
 simp
theorem OInv.next {n j last:Nat} {b0 r:List UInt8} {l:List (Nat × Vl)} {s:(Nat × Vl) × List UInt8} (h:OInv n j b0 l last r) (hj:j<n) (hs:ofVol r=some s) (hf:last<s.1.1):OInv n (j+1) b0 (l ++ [s.1]) s.1.1 s.2:=by
 refine ⟨fun p hp => ?_,(vol_of hs).2.2,by rw [List.length_append,h.len];rfl,?_⟩
 ·rcases List.mem_append.1 hp with hp | hp
  ·have:=h.le p hp
   omega
  ·rw [List.mem_singleton.1 hp]
   exact Nat.le_refl _
 ·rw [h.eq,show n - j=(n - (j+1))+1 by omega,ofVols,hs]
  simp only [Option.bind_some];rw [if_neg (by omega),Option.map_map]
  congr 1
  funext z
  simp
theorem ofD_eq {bs:List UInt8} {n:Nat} (h:4≤bs.length) (hn:sum (bs.take 4)=n):ofD bs=(ofVols n 0 (bs.drop 4)).bind fun r=>if r.2=[] then some r.1 else none:=by
 unfold ofD;rw [if_neg (by omega),hn]
def OfDP (w:World) (bs:List UInt8) (e:Ending) (w':World):Prop :=
 Below w.heap.size w w'∧((ofD bs=none∧e = .returned (.tuple #[.pointer none,.int .i64 4])) ∨
  ∃ l B Ba,ofD bs=some (strip l)∧e = .returned (.tuple #[.pointer (some ⟨B,0,none⟩),.int .i64 0])∧DevAt w.heap.size w' B Ba l)
def OfR (w:World) (m n:Nat) (bs:List UInt8) (B Ba:Nat) (j:Nat) (v0 v5 v7:Value) (wr:World):Prop :=
 Below w.heap.size w wr∧((v5 = .bool true∧∃ l lst r,v7 = .int .u64 ((lst:Nat):Int)∧Rd w 1 v0 r.length (bV r)∧r.length≤m∧DevAt w.heap.size wr B Ba l∧OInv n j (bs.drop 4) (strip l) lst r)∨(v5 = .bool false∧ofD bs=none))
theorem dof_any (w:World) (v:Value) (m:Nat) (bs:List UInt8) (hrd:Rd w 1 v m (bV bs)) (hm:m≤100000000) :
  Calls Tryz.prog 30 #[v] w fun e w'=>OfDP w bs e w':=by
 have HRD:=hid hrd;have HLB:Hid (bs.length=m):=hid (by obtain ⟨_,_,_,hl,_⟩:=hrd;simpa [bV_len] using hl);have CN:=dnum_any 1 (by omega) w w (Below.refl _ _) v m bs hrd hm;obtain ⟨av,cv,rfl,hcv1,hcv2⟩:=rd_slice' hrd;unfold maxLen at hcv2;clear hrd;change Calls _ _ #[_,.int .i64 1] _ _ at CN
 go_enter Tryz.func30,Tryz.ntmps30
 go_wp2_with fail;refine CN.mono ?_;rintro e w1 ⟨hb1,hcase⟩;have HB1:=hid hb1;have CW:=dnew_any w.heap.size w1 hb1.size;clear CN hb1
 rcases hcase with ⟨hm3,rfl⟩ | ⟨hm3,vl,vr,rfl,hrow,hvr⟩
 ·have HNO:Hid (ofD bs=none):=hid (by unfold ofD;rw [if_pos (by rw [HLB.out];omega)])
  dsimp only;clear hm3;go_wp2_with fail;refine CW.mono ?_;rintro e w2 ⟨B,Ba,rfl,_,hb2,_,_⟩;have HB2:=hid (bthen HB1.out hb2);clear CW hb2;go_wp2_with fail
  go_loopw [5,8] (fun v5 i wr=>v5 = .bool false∧i = .int .i64 0∧wr=w2) (fun _ _ _=>0)
  case atStart=>exact ⟨rfl,rfl,rfl⟩
  case round =>
   obtain ⟨rfl,rfl,rfl⟩:=hrel;go_wp2_with fail
   go_ret2
   exact ⟨HB2.out,.inl ⟨HNO.out,rfl⟩⟩
 ·dsimp only
  obtain ⟨n0,hn0⟩:∃ x,sum (bs.take 4)=x:=⟨_,rfl⟩
  have hnv:numV bs 1=[.int .i64 (n0:Int)]:=by rw [← hn0];rfl
  have hb0:n0<4294967296:=by rw [← hn0];exact sum4_lt _
  have HN0:=hid hn0;rw [hnv] at hrow;obtain ⟨gl,cl,curl,rfl,_,hglh,g0,hcl,_⟩:=row_cell hrow (i:=0) (x:=.int .i64 (n0:Int)) rfl;have HGL:=hid hglh;have HG0:=hid g0;have HVR:=hid hvr;have HM4:Hid (4≤m):=hid (by omega);have HOD:Hid (ofD bs=(ofVols n0 0 (bs.drop 4)).bind fun r=>if r.2=[] then some r.1 else none):=hid (ofD_eq (by rw [HLB.out];exact HM4.out) HN0.out);have HLR:Hid ((bs.drop 4).length=m - 4 * 1):=hid (by rw [List.length_drop,HLB.out]);clear hn0 hnv hrow hglh g0 hvr hm3;go_wp2_with fail;refine CW.mono ?_
  rintro e w2 ⟨B,Ba,rfl,hd2,hb2,hB1,hBa1⟩;have HB2:=hid (bthen HB1.out hb2);have HD2:=hid hd2;have HGLX:Hid (∀ X,Below w1.heap.size w1 X→X.cell? ⟨gl,0,none⟩=some (.int .i64 (n0:Int))):=hid (fun X hX=>cellOf ((hX.block gl (hLT HGL.out)).trans HGL.out) 0 HG0.out);have HB12:=hid hb2;have HBG:Hid (w1.heap.size≤B∧w1.heap.size≤Ba):=hid ⟨hB1,hBa1⟩;clear CW hd2 hb2 hB1 hBa1;go_wp2_with fail
  go_loopw [0,5,7,8] (fun v0 v5 v7 i wr=>∃ j:Nat,j≤n0∧i = .int .i64 (j:Int)∧Below w1.heap.size w1 wr∧OfR w m n0 bs B Ba j v0 v5 v7 wr) (fun _ _ _ i _=>n0 - (Go.Proofs.intOf i).toNat)
  case atStart=>exact ⟨0,Nat.zero_le _,rfl,HB12.out,HB2.out,.inl ⟨rfl,[],0,bs.drop 4,rfl,by rw [HLR.out];exact HVR.out,by rw [HLR.out];omega,HD2.out,OInv.start _ _⟩⟩
  case round =>
   obtain ⟨j,hj,rfl,hb1w,hbw,hc⟩:=hrel;have HBW:=hid hbw;have HB1W:=hid hb1w;have cg:=HGLX.out _ hb1w;clear hbw hb1w
   rcases hc with ⟨rfl,l,lst,r,rfl,hrd0,hrl,hda,hinv⟩ | ⟨rfl,hno⟩
   ·have HDA:=hid hda
    have HINV:=hid hinv;have HRD0:=hid hrd0;obtain ⟨ao,cap,rfl,hc1,hc2⟩:=rd_slice' hrd0;have hlb:=hinv.bd;have HRL:=hid hrl;clear hrd0 hda hinv
    by_cases hlt:j<n0
    ·have q0:decide (j<n0)=true:=decide_eq_true hlt
     obtain ⟨w3,hw3⟩:∃ y,wr.alloc (.cells #[.int .i64 0,.map none] 84)=y:=⟨_,rfl⟩
     have hb3:Below wr.heap.size wr w3:=by rw [← hw3];exact balloc (Below.refl _ _) _
     have HX3:Hid (w3.heap[wr.heap.size]? = some (.cells #[.int .i64 0,.map none] 84 (0,0))):=hid (by rw [← hw3];exact heap_alloc_new _ _);have HB3:=hid (bthen HBW.out hb3);have CV:=dvolOf_any w w3 HB3.out _ r.length r HRD0.out (by omega);have HB13:=hid (bthen HB1W.out hb3);have HBR3:=hid hb3;clear hb3;go_wp2_with fail
     (try rw [hw3])
     clear hw3 q0 cg;refine CV.mono ?_;rintro e w4 ⟨hb4,hcase4⟩;have HB4:=hid (bthen HB3.out hb4);have HB14:=hid (bthen HB13.out hb4);have HBR4:=hid (bthen HBR3.out hb4);have HX4:=hid ((hb4.block _ (hLT HX3.out)).trans HX3.out);have HS34:=hid hb4.size;have HXB:Hid (w1.heap.size≤wr.heap.size∧w.heap.size≤wr.heap.size∧wr.heap.size<w3.heap.size):=hid ⟨HB1W.out.size,HBW.out.size,(hLT HX3.out)⟩;obtain ⟨bx,hbx⟩:∃ b,wr.heap.size=b:=⟨_,rfl⟩
     have HBXE:=hid hbx;rw [hbx] at HX4 HXB ⊢;have c0:=cellOf HX4.out 0 (v:=.int .i64 0) rfl;have c1:=cellOf HX4.out 1 (v:=.map none) rfl;have f0:=frozenOf HX4.out 0;have f1:=frozenOf HX4.out 1;clear CV hb4 hbx
     rcases hcase4 with ⟨hvn,qa,qb,rfl⟩ | ⟨s,blk,vr2,hs,rfl,hml,hblk,hr2⟩
     ·have HNO:Hid (ofD bs=none):=hid (by rw [HOD.out,HINV.out.no hlt (.inl hvn)];rfl)
      dsimp only;clear hvn;go_wp2_with fail;obtain ⟨hx5,hm5⟩:=set2 (x:=.int .i64 qa) (y:=.map qb) HX4.out;have HFB:Hid (Below w1.heap.size w1 ((w4.setCell ⟨bx,0,none⟩ (.int .i64 qa)).setCell ⟨bx,1,none⟩ (.map qb))∧Below w.heap.size w ((w4.setCell ⟨bx,0,none⟩ (.int .i64 qa)).setCell ⟨bx,1,none⟩ (.map qb))):=hid ⟨HB14.out.trans (hm5.below (fun k hk=>by rw [List.mem_singleton.1 hk];exact HXB.out.1) HB14.out.size),HB4.out.trans (hm5.below (fun k hk=>by rw [List.mem_singleton.1 hk];exact HXB.out.2.1) HB4.out.size)⟩;clear c0 c1 f0 f1 hx5 hm5;go_roundw
      case rel=>exact ⟨j+1,by omega,by go_num,HFB.out.1,HFB.out.2,.inr ⟨rfl,HNO.out⟩⟩
      case measure=>simp [Go.Proofs.intOf];omega
     ·dsimp only
      obtain ⟨⟨nn,vl⟩,r2⟩:=s;dsimp only at hml hr2;have HVO:=hid (vol_of hs);have hnb:nn<4294967296:=HVO.out.2.2;have HSV:=hid hs;have HR2:=hid hr2;have HMLB:=hid hml;have HBLK:=hid hblk;obtain ⟨sz,hsz⟩:∃ x,vl.size=x:=⟨_,rfl⟩
      have HSZ:=hid hsz;rw [hsz];obtain ⟨hx5,hm5⟩:=set2 (x:=.int .i64 (sz:Int)) (y:=.map (some blk)) HX4.out;have HX5:=hid hx5;have HM5:=hid hm5;obtain ⟨av2,cv2,rfl,_,_⟩:=rd_slice' hr2;have HRL2:Hid (r2.length≤m):=hid (by
       have h1:(volB (nn,vl) ++ r2).length=r.length:=congrArg List.length HVO.out.2.1;rw [List.length_append] at h1;have h2:=HRL.out
       omega)
      clear hml hblk hr2 hs hsz hx5 hm5
      by_cases hgt:lst<nn
      ·have q1:decide (lst<nn)=true:=decide_eq_true hgt
       have HGT:=hid hgt;clear hgt;go_wp2_with fail;clear c0 c1 f0 f1 q1;obtain ⟨w5,hw5⟩:∃ y,(w4.setCell ⟨bx,0,none⟩ (.int .i64 (sz:Int))).setCell ⟨bx,1,none⟩ (.map (some blk))=y:=⟨_,rfl⟩
       rw [hw5] at HX5 HM5 ⊢;clear hw5;have HDA5:Hid (DevAt w.heap.size w5 B Ba l):=hid ((HDA.out.below HBR4.out).kept HM5.out (fun hh=>by have h1:=HDA.out.lt;rw [List.mem_singleton,← HBXE.out] at hh;omega) (fun k hk hh=>by have h1:=HDA.out.lt_all k hk;rw [List.mem_singleton,← HBXE.out] at hh;omega));have HMLB5:=hid (HMLB.out.mods HM5.out (fun hh=>by have h1:=HBLK.out;have h2:=HXB.out.2.2;rw [List.mem_singleton] at hh;omega))
       have HB5:Hid (Below w1.heap.size w1 w5∧Below w.heap.size w w5):=hid ⟨HB14.out.trans (HM5.out.below (fun k hk=>by rw [List.mem_singleton.1 hk];exact HXB.out.1) HB14.out.size),HB4.out.trans (HM5.out.below (fun k hk=>by rw [List.mem_singleton.1 hk];exact HXB.out.2.1) HB4.out.size)⟩
       have HNBa:Hid (B≠Ba∧bx≠Ba∧blk≠Ba):=hid ⟨HDA.out.B_ne,(fun hh=>by have h1:=HDA.out.lt_all Ba (List.mem_cons_self ..);rw [HBXE.out] at h1;omega),(fun hh=>by have h1:=HDA.out.lt_all Ba (List.mem_cons_self ..);have h2:=HBLK.out;have h3:=HXB.out.2.2;rw [HBXE.out] at h1;omega)⟩;have HBL5:Hid (B<w5.heap.size∧bx<w5.heap.size):=hid ⟨HDA5.out.lt,(hLT HX5.out)⟩
       have HSS:Hid (∀ X,Mods [Ba] w5 X→(X.cell? ⟨B,0,none⟩=some (.map (some Ba))∧X.cell? ⟨bx,0,none⟩=some (.int .i64 (sz:Int))∧X.cell? ⟨bx,1,none⟩=some (.map (some blk)))∧Mods [Ba] w5 X):=hid (fun X hb=>⟨⟨(World.cell?_of_block (hb.block _ (HBL5.out.1) ((fun hh=>HNBa.out.1 (by simpa using hh))))).trans (HDA5.out.cell),(World.cell?_of_block (hb.block _ (HBL5.out.2) ((fun hh=>HNBa.out.2.1 (by simpa using hh))))).trans (cellOf HX5.out 0 rfl),(World.cell?_of_block (hb.block _ (HBL5.out.2) ((fun hh=>HNBa.out.2.1 (by simpa using hh))))).trans (cellOf HX5.out 1 rfl)⟩,hb⟩)
       refine wp_region_held_drew (S:=fun X=>(X.cell? ⟨B,0,none⟩=some (.map (some Ba))∧X.cell? ⟨bx,0,none⟩=some (.int .i64 (sz:Int))∧X.cell? ⟨bx,1,none⟩=some (.map (some blk)))∧Mods [Ba] w5 X) (by kernel_rfl) (HSS.out _ (Mods.of_below (Below.refl _ _).drew)) (fun hHeld => ?_);have hbe:Below w5.heap.size w5 w5.drew:=(Below.refl _ _).drew;obtain ⟨wd,hwd⟩:∃ y,w5.drew=y:=⟨_,rfl⟩
       rw [hwd] at hHeld hbe ⊢;have HBE:=hid hbe;have HS0:Hid (w5.heap.size≤wd.heap.size):=hid HBE.out.size;clear hwd hbe;refine tkP 0 rfl ?_;refine tkP 4 rfl ?_;refine tkP 5 rfl ?_;refine tkP 6 rfl ?_;refine tkP 1 rfl ?_;refine tkP 2 rfl ?_;refine tkP 3 rfl ?_;refine rd1 7 rfl fun K hK => ?_;obtain ⟨v0,st,w11,o1,hme,hmo1,ho1,hnext⟩:=(HDA5.out.below HBE.out).all.entry undU64 undAll zeroVol HDA.out.short (n:=nn) (wfU (by omega));simp only [gE1,gE2,gE3];go_simp;refine hK.out _ _ ?_ (fun hHeld => ?_)
       ·exact HSS.out _ ((Mods.of_below HBE.out).trans hmo1 (fun i hi=>.inl hi))
       clear hK K;try simp only [Act.put,pE1,pE2,pE3]
       obtain ⟨w13,hes,hml13,hmo13⟩:=hnext w11 (.agg #[.int .i64 (sz:Int),.map (some blk)]) (vl,blk) _ ho1 (by rw [← HSZ.out];exact RVol_mk _ _);have HES:=hid hes;have HML13:=hid hml13;have HMD13:Hid (Mods [Ba] wd w13):=hid (hmo1.trans hmo13 (fun i hi=>.inl hi));have HM13:Hid (Mods [Ba] w5 w13):=hid ((Mods.of_below HBE.out).trans HMD13.out (fun i hi=>.inl hi));have HDAD:=hid (HDA5.out.below HBE.out);have HMLBD:=hid (HMLB5.out.below HBE.out);clear hme hmo1 ho1 hnext hes hml13 hmo13;refine tkP 8 rfl ?_;refine rd1 9 rfl fun K hK => ?_;have hes:=HES.out
       simp only [gE1,gE2,gE3];go_simp;refine hK.out _ _ ?_ (fun hHeld => ?_)
       ·exact HSS.out _ HM13.out
       clear hK K;try simp only [Act.put,pE1,pE2,pE3]
       clear hes;refine tkP 10 rfl ?_;refine wpAnyH_done (by kernel_rfl) ?_ _;have HEND:=hid hHeld.2;have HSE:=hid hHeld.1;clear hHeld;clear HSE HSS HEND;have HSP:Hid (strip (putA nn (vl,blk) l)=strip l ++ [(nn,vl)]):=hid (by
        have h1:strip (putA nn (vl,blk) l)=putA nn vl (strip l):=(putA_map (fun x:Vl × Nat=>x.1) nn (vl,blk) l).symm;rw [h1];exact putA_end (fun q hq=>by have h2:=HINV.out.le q hq;have h3:=HGT.out;omega))
       have HNX:Hid (OInv n0 (j+1) (bs.drop 4) (strip (putA nn (vl,blk) l)) nn r2):=hid (by
        have h1:=HINV.out.next hlt HSV.out HGT.out;rw [HSP.out];exact h1)
       have HD13:Hid (DevAt w.heap.size w13 B Ba (putA nn (vl,blk) l)):=hid (HDAD.out.putAt (n:=nn) (v:=vl) (b:=blk) HML13.out (HMLBD.out.mods HMD13.out (fun hh=>HNBa.out.2.2 (by simpa using hh))) HMD13.out (by have:=HGT.out;omega) HVO.out.1 (by have h1:=HBLK.out;have h2:=HXB.out.2;omega) HNBa.out.2.2 (fun p hp e=>by
        have h1:=HDA.out.lt_all p.2.2 (List.mem_cons_of_mem _ (List.mem_map.2 ⟨p,hp,rfl⟩));have h2:=HBLK.out;have h3:=HXB.out.2.2;rw [HBXE.out] at h1
        omega))
       have HFB:Hid (Below w1.heap.size w1 w13∧Below w.heap.size w w13):=hid ⟨HB5.out.1.trans (HM13.out.below (fun k hk=>by rw [List.mem_singleton.1 hk];exact HBG.out.2) HB5.out.1.size),HB5.out.2.trans (HM13.out.below (fun k hk=>by rw [List.mem_singleton.1 hk];exact HDA.out.ge.2.1) HB5.out.2.size)⟩;go_wp2_with fail;go_roundw
       case rel=>exact ⟨j+1,by omega,by go_num,HFB.out.1,HFB.out.2,.inl ⟨rfl,_,nn,r2,rfl,HR2.out,HRL2.out,HD13.out,HNX.out⟩⟩
       case measure=>simp [Go.Proofs.intOf];omega
      ·have q1:decide (lst<nn)=false:=decide_eq_false hgt
       have HNO:Hid (ofD bs=none):=hid (by rw [HOD.out,HINV.out.no hlt (.inr ⟨_,HSV.out,Nat.le_of_not_lt hgt⟩)];rfl);clear hgt;go_wp2_with fail;clear c0 c1 f0 f1 q1;obtain ⟨w5,hw5⟩:∃ y,(w4.setCell ⟨bx,0,none⟩ (.int .i64 (sz:Int))).setCell ⟨bx,1,none⟩ (.map (some blk))=y:=⟨_,rfl⟩
       rw [hw5] at HX5 HM5 ⊢;clear hw5;have HDA5:Hid (DevAt w.heap.size w5 B Ba l):=hid ((HDA.out.below HBR4.out).kept HM5.out (fun hh=>by have h1:=HDA.out.lt;rw [List.mem_singleton,← HBXE.out] at hh;omega) (fun k hk hh=>by have h1:=HDA.out.lt_all k hk;rw [List.mem_singleton,← HBXE.out] at hh;omega));have HMLB5:=hid (HMLB.out.mods HM5.out (fun hh=>by have h1:=HBLK.out;have h2:=HXB.out.2.2;rw [List.mem_singleton] at hh;omega))
       have HB5:Hid (Below w1.heap.size w1 w5∧Below w.heap.size w w5):=hid ⟨HB14.out.trans (HM5.out.below (fun k hk=>by rw [List.mem_singleton.1 hk];exact HXB.out.1) HB14.out.size),HB4.out.trans (HM5.out.below (fun k hk=>by rw [List.mem_singleton.1 hk];exact HXB.out.2.1) HB4.out.size)⟩
       have HNBa:Hid (B≠Ba∧bx≠Ba∧blk≠Ba):=hid ⟨HDA.out.B_ne,(fun hh=>by have h1:=HDA.out.lt_all Ba (List.mem_cons_self ..);rw [HBXE.out] at h1;omega),(fun hh=>by have h1:=HDA.out.lt_all Ba (List.mem_cons_self ..);have h2:=HBLK.out;have h3:=HXB.out.2.2;rw [HBXE.out] at h1;omega)⟩;have HBL5:Hid (B<w5.heap.size∧bx<w5.heap.size):=hid ⟨HDA5.out.lt,(hLT HX5.out)⟩
       have HSS:Hid (∀ X,Mods [Ba] w5 X→(X.cell? ⟨B,0,none⟩=some (.map (some Ba))∧X.cell? ⟨bx,0,none⟩=some (.int .i64 (sz:Int))∧X.cell? ⟨bx,1,none⟩=some (.map (some blk)))∧Mods [Ba] w5 X):=hid (fun X hb=>⟨⟨(World.cell?_of_block (hb.block _ (HBL5.out.1) ((fun hh=>HNBa.out.1 (by simpa using hh))))).trans (HDA5.out.cell),(World.cell?_of_block (hb.block _ (HBL5.out.2) ((fun hh=>HNBa.out.2.1 (by simpa using hh))))).trans (cellOf HX5.out 0 rfl),(World.cell?_of_block (hb.block _ (HBL5.out.2) ((fun hh=>HNBa.out.2.1 (by simpa using hh))))).trans (cellOf HX5.out 1 rfl)⟩,hb⟩)
       refine wp_region_held_drew (S:=fun X=>(X.cell? ⟨B,0,none⟩=some (.map (some Ba))∧X.cell? ⟨bx,0,none⟩=some (.int .i64 (sz:Int))∧X.cell? ⟨bx,1,none⟩=some (.map (some blk)))∧Mods [Ba] w5 X) (by kernel_rfl) (HSS.out _ (Mods.of_below (Below.refl _ _).drew)) (fun hHeld => ?_);have hbe:Below w5.heap.size w5 w5.drew:=(Below.refl _ _).drew;obtain ⟨wd,hwd⟩:∃ y,w5.drew=y:=⟨_,rfl⟩
       rw [hwd] at hHeld hbe ⊢;have HBE:=hid hbe;have HS0:Hid (w5.heap.size≤wd.heap.size):=hid HBE.out.size;clear hwd hbe;refine tkP 0 rfl ?_;refine tkP 4 rfl ?_;refine tkP 5 rfl ?_;refine tkP 6 rfl ?_;refine tkP 1 rfl ?_;refine tkP 2 rfl ?_;refine tkP 3 rfl ?_;refine rd1 7 rfl fun K hK => ?_;obtain ⟨v0,st,w11,o1,hme,hmo1,ho1,hnext⟩:=(HDA5.out.below HBE.out).all.entry undU64 undAll zeroVol HDA.out.short (n:=nn) (wfU (by omega));simp only [gE1,gE2,gE3];go_simp;refine hK.out _ _ ?_ (fun hHeld => ?_)
       ·exact HSS.out _ ((Mods.of_below HBE.out).trans hmo1 (fun i hi=>.inl hi))
       clear hK K;try simp only [Act.put,pE1,pE2,pE3]
       obtain ⟨w13,hes,hml13,hmo13⟩:=hnext w11 (.agg #[.int .i64 (sz:Int),.map (some blk)]) (vl,blk) _ ho1 (by rw [← HSZ.out];exact RVol_mk _ _);have HES:=hid hes;have HML13:=hid hml13;have HMD13:Hid (Mods [Ba] wd w13):=hid (hmo1.trans hmo13 (fun i hi=>.inl hi));have HM13:Hid (Mods [Ba] w5 w13):=hid ((Mods.of_below HBE.out).trans HMD13.out (fun i hi=>.inl hi));have HDAD:=hid (HDA5.out.below HBE.out);have HMLBD:=hid (HMLB5.out.below HBE.out);clear hme hmo1 ho1 hnext hes hml13 hmo13;refine tkP 8 rfl ?_;refine rd1 9 rfl fun K hK => ?_;have hes:=HES.out
       simp only [gE1,gE2,gE3];go_simp;refine hK.out _ _ ?_ (fun hHeld => ?_)
       ·exact HSS.out _ HM13.out
       clear hK K;try simp only [Act.put,pE1,pE2,pE3]
       clear hes;refine tkP 10 rfl ?_;refine wpAnyH_done (by kernel_rfl) ?_ _;have HEND:=hid hHeld.2;have HSE:=hid hHeld.1;clear hHeld;clear HSE HSS HEND;have HFB:Hid (Below w1.heap.size w1 w13∧Below w.heap.size w w13):=hid ⟨HB5.out.1.trans (HM13.out.below (fun k hk=>by rw [List.mem_singleton.1 hk];exact HBG.out.2) HB5.out.1.size),HB5.out.2.trans (HM13.out.below (fun k hk=>by rw [List.mem_singleton.1 hk];exact HDA.out.ge.2.1) HB5.out.2.size)⟩;go_wp2_with fail;go_roundw
       case rel=>exact ⟨j+1,by omega,by go_num,HFB.out.1,HFB.out.2,.inr ⟨rfl,HNO.out⟩⟩
       case measure=>simp [Go.Proofs.intOf];omega
    ·obtain rfl:j=n0:=by omega
     have q0:decide (j<j)=false:=decide_eq_false (by omega)
     by_cases hr0:r=[]
     ·subst hr0
      have HYES:Hid (ofD bs=some (strip l)):=hid (by rw [HOD.out,HINV.out.fin];rfl);go_wp2_with fail
      go_ret2
      exact ⟨HBW.out,.inr ⟨l,B,Ba,HYES.out,rfl,HDA.out⟩⟩
     ·have HNO:Hid (ofD bs=none):=hid (by rw [HOD.out,HINV.out.fin];simp [hr0])
      have hrp:0<r.length:=List.length_pos_iff.2 hr0;have q1:decide (0<r.length)=true:=decide_eq_true hrp;have q2:decide ((0:Int)<(r.length:Int))=true:=decide_eq_true (by omega);clear hr0;go_wp2_with fail
      go_ret2
      exact ⟨HBW.out,.inl ⟨HNO.out,rfl⟩⟩
   ·have HNO:=hid hno
    clear hno;go_wp2_with fail
    go_ret2
    exact ⟨HBW.out,.inl ⟨HNO.out,rfl⟩⟩
end Go.Proofs.YthkmihedkddnmaaGreat
namespace Go.Proofs.YthkmihedkddnmaaGreat
open Lib (hid)
open Go.RowKit Wire Cmd
theorem row_blocks {W:World} {B n size:Nat} {e:TypeId} {v:Value} {xs:List Value} (h:W.ownsRow B e size v n xs):∀ k∈ob v,∃ cs,W.heap[k]? = some (.cells cs e (0,0)):=by
 intro k hk
 rcases h.2 with ⟨rfl,_⟩ | ⟨g,cap,cur,rfl,_,hh,_⟩
 ·cases hk
 ·rw [ob_some] at hk
  rw [List.mem_singleton.1 hk];exact ⟨cur,hh⟩
theorem RDevAt.taken {n0:Nat} {W:World} {B:Nat} {sv sv':Value} {l:List (Nat × (Vl × Value))} (hbox:W.heap[B]? = some (.cells #[sv] 30 (0,0))) (hn:n0≤B) (hr:W.ownsRow n0 58 3 sv' l.length (rvolC l))
  (hb:∀ p∈l,W.ownsRow n0 107 257 p.2.2 p.2.1.m.length (rblkC p.2.1.m)):RDevAt n0 (W.setCell ⟨B,0,none⟩ sv') B sv' l:=by
 have hs:=setOf hbox 0 sv';refine ⟨by simpa using hs,ownsRow_at hr (fun k hk=>Below.heap_setCell W ⟨B,0,none⟩ sv' k (fun e => ?_)),fun p hp=>ownsRow_at (hb p hp) (fun k hk=>Below.heap_setCell W ⟨B,0,none⟩ sv' k (fun e => ?_)),hn⟩
 ·have e2:k=B:=e
  subst e2;exact ob_tag hr hbox (by decide) hk
 ·have e2:k=B:=e
  subst e2;exact ob_tag (hb p hp) hbox (by decide) hk
def RCop (w:World) (vs:List (Nat × Vl)) (e:Ending) (w':World):Prop :=
 ∃ sv l,e = .returned (.pointer (some ⟨w.heap.size,0,none⟩))∧RDevAt w.heap.size w' w.heap.size sv l∧mapA (·.1) l=vs∧Below w.heap.size w w'
def RCi (w wr:World) (sv:Value) (l':List (Nat × (Vl × Value))) (vs:List (Nat × Vl)):Prop:=RDevAt w.heap.size wr w.heap.size sv l'∧mapA (·.1) l'=vs∧Below w.heap.size w wr
theorem rci_next {w wr W8 w9:World} {l l':List (Nat × (Vl × Value))} {k pn ps ml c3 c7 c9:Nat} {a3 a7 a9:Option Addr} {p:Nat × (Vl × Value)} (hp:l[k]? = some p) (hpn:p.1=pn) (hps:p.2.1.size=ps) (hml:p.2.1.m.length=ml) (hlen:l'.length=k) (hmp:mapA (·.1) l'=(mapA (·.1) l).take k) (hbw:Below w.heap.size w wr) (hbb:Below wr.heap.size wr W8)
  (h8:RDevAt w.heap.size W8 w.heap.size (.slice a3 k c3) l') (hx9:w9.heap[w.heap.size]? = some (.cells #[.slice a3 k c3] 30 (0,0))) (h9:w9.ownsRow w.heap.size 58 3 (.slice a9 (k+1) c9) (k+1) (rvolC l' ++ [.int .u64 (pn:Int),.int .i64 (ps:Int),.slice a7 ml c7]))
  (hm9:Mods (ob (.slice a3 k c3)) W8 w9) (hb9:Below w.heap.size W8 w9) (hmv:W8.ownsRow w.heap.size 107 257 (.slice a7 ml c7) ml (rblkC p.2.1.m)) (hro:W8.ownsRow w.heap.size 58 3 (.slice a3 k c3) k (rvolC l')) :
  ∃ sv' l',RCi w (w9.setCell ⟨w.heap.size,0,none⟩ (.slice a9 (k+1) c9)) sv' l' ((mapA (·.1) l).take (k+1)):=by
 refine ⟨.slice a9 (k+1) c9,l' ++ [(p.1,(p.2.1,.slice a7 ml c7))],?_⟩;have hl2:(l' ++ [(p.1,(p.2.1,Value.slice a7 ml c7))]).length=k+1:=by simp [hlen]
 have hb:∀ (v:Value) (x:Nat) (xs:List Value),W8.ownsRow w.heap.size 107 257 v x xs→w9.ownsRow w.heap.size 107 257 v x xs:=fun v x xs hv=>ownsRow_at hv (fun j hj=>hm9.block j (ownsRow_lt hv j hj) (by
  obtain ⟨cs,hcs⟩:=row_blocks hv j hj;exact ob_tag hro hcs (by decide)))
 refine ⟨RDevAt.taken hx9 (Nat.le_refl _) ?_ (fun q hq => ?_),?_,(hbw.trans ((hbb.mono hbw.size).trans hb9)).setCell (p:=⟨w.heap.size,0,none⟩) (Nat.le_refl _) _⟩
 ·rw [hl2,rvolC_app]
  simp only [rvolC,hpn,hps];exact h9
 ·rcases List.mem_append.1 hq with hq | hq
  ·exact hb _ _ _ (h8.blk q hq)
  ·obtain rfl:=List.mem_singleton.1 hq
   have h1:=hb _ _ _ hmv;rw [← hml] at h1;rw [← hml];exact h1
 ·have hp2:(mapA (·.1) l)[k]? = some (p.1,p.2.1):=by unfold mapA;rw [List.getElem?_map,hp];rfl
  rw [List.take_add_one,hp2,← hmp];unfold mapA;rw [List.map_append]
  rfl
theorem rcopy_any (n0:Nat) (w:World) (B:Nat) (sv:Value) (l:List (Nat × (Vl × Value))) (h:RDevAt n0 w B sv l) (hd:DevOk (mapA (·.1) l)) (hll:l.length≤100000) :
  Calls Tryz.prog 32 #[.pointer (some ⟨B,0,none⟩)] w fun e w'=>RCop w (mapA (·.1) l) e w':=by
 obtain ⟨av,cv,rfl⟩:=row_slice h.row;have HH:=hid h;have HDO:=hid hd;obtain ⟨n,hn⟩:∃ n,l.length=n:=⟨_,rfl⟩
 have HN:=hid hn;rw [hn] at HH hll;obtain ⟨w1,hw1⟩:∃ W,w.alloc (.cells #[.slice none 0 0] 30)=W:=⟨_,rfl⟩
 have hb1:Below w.heap.size w w1:=by rw [← hw1];exact balloc (Below.refl _ _) _
 have HX1:Hid (w1.heap[w.heap.size]? = some (.cells #[.slice none 0 0] 30 (0,0))):=hid (by rw [← hw1];exact heap_alloc_new _ _);have HR1:Hid (RCi w w1 (.slice none 0 0) [] ((mapA (·.1) l).take 0)):=hid ⟨⟨HX1.out,World.ownsRow_nil _ _ _ _,fun p hp=>(by cases hp),Nat.le_refl _⟩,rfl,hb1⟩;clear h hd hn hb1
 go_enter Tryz.func32,Tryz.ntmps32
 go_wp2_with fail
 (try rw [hw1])
 clear hw1
 go_loopw [4] (fun i wr=>∃ k:Nat,k≤n∧i = .int .i64 (k:Int)∧∃ sv' l',RCi w wr sv' l' ((mapA (·.1) l).take k)) (fun i _=>n - (Go.Proofs.intOf i).toNat)
 case atStart=>exact ⟨0,Nat.zero_le _,rfl,_,_,HR1.out⟩
 case round =>
  obtain ⟨k,hk,rfl,sv',l',hci⟩:=hrel;obtain ⟨a3,c3,hsv⟩:=row_slice hci.1.row;have HLEN:Hid (l'.length=k):=hid (by
   have h1:=congrArg List.length hci.2.1;rw [mapA_len,List.length_take,mapA_len,HN.out] at h1
   omega)
  rw [HLEN.out] at hsv;subst hsv;have HCI:=hid hci.1;have HMP:=hid hci.2.1;have HBW:=hid hci.2.2;have HDW:=hid (HH.out.below hci.2.2);clear hci
  by_cases hlt:k<n
  ·obtain ⟨p,hp⟩:∃ p,l[k]? = some p:=⟨_,List.getElem?_eq_getElem (by rw [HN.out];exact hlt)⟩
   have HP:=hid hp;obtain ⟨g,cap,hv,hc1,hc2,e0,e1,e2⟩:=HDW.out.at_ hp;obtain ⟨rfl,hnl,rfl⟩:=Value.slice.inj hv;clear hnl;have hbc:=HDW.out.cell;have hrow:=HDW.out.blk p (List.mem_of_getElem? hp);obtain ⟨am,cm,hm⟩:=row_slice hrow;rw [hm] at e2 hrow;clear hv hp hm;obtain ⟨pn,hpn⟩:∃ x,p.1=x:=⟨_,rfl⟩
   obtain ⟨ps,hps⟩:∃ x,p.2.1.size=x:=⟨_,rfl⟩
   obtain ⟨ml,hml⟩:∃ x,p.2.1.m.length=x:=⟨_,rfl⟩
   rw [hpn] at e0;rw [hps] at e1;rw [hml] at e2 hrow;have HPN:=hid hpn;have HPS:=hid hps;have HML:=hid hml;have HMB:Hid (ml≤256):=hid (by
    have hm2:(p.1,p.2.1)∈mapA (·.1) l:=List.mem_map.2 ⟨p,List.mem_of_getElem? HP.out,rfl⟩;rw [← hml];exact (HDO.out.vol _ hm2).len)
   clear hpn hps hml;obtain ⟨q5,hq5⟩:∃ q,wr.heap.size=q:=⟨_,rfl⟩
   have HQ5:=hid hq5
   go_upto_region 6 with fail
   obtain ⟨W6,hW6⟩:∃ W,wr.alloc (.cells #[.int .u64 (pn:Int),.int .i64 (ps:Int),.slice am ml cm] 58)=W:=⟨_,rfl⟩
   have hb6:Below wr.heap.size wr W6:=by rw [← hW6];exact balloc (Below.refl _ _) _
   have HX6:Hid (W6.heap[q5]? = some (.cells #[.int .u64 (pn:Int),.int .i64 (ps:Int),.slice am ml cm] 58 (0,0))):=hid (by rw [← hW6,← hq5];exact heap_alloc_new _ _);rw [hW6];have HRM:=hid (ownsRow_below hrow hb6);have HB6:=hid hb6;clear hW6 hb6 hrow e0 e1 e2 hbc hq5;have f2:=cellOf HX6.out 2 (v:=.slice am ml cm) rfl;have HW0:Hid (w.heap.size≤W6.heap.size):=hid (Nat.le_trans HBW.out.size HB6.out.size)
   go_wp2_with (at_builtin;go_must (refine wpList_apps rfl _ _ 56 rfl W6.heap.size 107 _ 257 264 Tryz.underlying56 infoR4 zaggR (by decide) (by decide) (.slice none 0 0) 0 [] (by rfl) (World.ownsRow_nil _ _ _ _) _ ml _ (by rfl) (Rd.of_own HRM.out) (rblkC_ones p.2.1.m) (by have:=HMB.out;omega) (Nat.le_refl _) ?_);intro v7 w7 ho7 hb7 hg7 hs7 hn7;refine Hid.out ?_)
   rw [List.nil_append,Nat.zero_add] at ho7;obtain ⟨a7,c7,hv7⟩:=row_slice ho7;subst hv7;have HO7:=hid (ownsRow_base ho7 HW0.out);have HB7:=hid hb7;have HX7:=hid ((hb7.block _ (hLT HX6.out)).trans HX6.out);have hf2:=frozenOf HX7.out 2;have d2:=cellOf HX7.out 2 (v:=.slice am ml cm) rfl;clear ho7 hb7 hg7 hs7 hn7 f2;refine hid ?_;go_wp2_with fail;obtain ⟨W8,hW8⟩:∃ W,w7.setCell ⟨q5,2,none⟩ (.slice a7 ml c7)=W:=⟨_,rfl⟩
   have HX8:Hid (W8.heap[q5]? = some (.cells #[.int .u64 (pn:Int),.int .i64 (ps:Int),.slice a7 ml c7] 58 (0,0))):=hid (by rw [← hW8];exact setOf HX7.out 2 _);have HBB:Hid (Below wr.heap.size wr W8):=hid (by rw [← hW8];exact (bthen HB6.out HB7.out).setCell (p:=⟨q5,2,none⟩) (Nat.le_of_eq HQ5.out) _);have HMV:Hid (W8.ownsRow w.heap.size 107 257 (.slice a7 ml c7) ml (rblkC p.2.1.m)):=hid (by rw [← hW8];exact ownsRow_at HO7.out (fun j hj=>Below.heap_setCell w7 ⟨q5,2,none⟩ _ j (fun e=>by
    have e2:j=q5:=e;subst e2;exact ob_tag HO7.out HX7.out (by decide) hj)))
   rw [hW8];clear hW8 d2 hf2;have HC8:=hid (HCI.out.below HBB.out);have HRO:Hid (W8.ownsRow w.heap.size 58 3 (.slice a3 k c3) k (rvolC l')):=hid (by have h1:=HC8.out.row;rw [HLEN.out] at h1;exact h1);have HX8L:=hid (hLT HX8.out);have HWL:Hid (w.heap.size≤W8.heap.size):=hid (Nat.le_trans HBW.out.size HBB.out.size);have HBL:Hid (w.heap.size<W8.heap.size):=hid HC8.out.lt;have HQB:Hid (wr.heap.size=q5):=HQ5;have HNF:Hid (q5∉(w.heap.size :: ob (.slice a3 k c3))):=hid (fun hh=>by
    rcases List.mem_cons.1 hh with e | hh
    ·have h1:=HCI.out.lt
     have h2:=HQ5.out;omega
    ·have h1:=ownsRow_lt HCI.out.row q5 hh
     have h2:=HQ5.out
     omega)
   have HCB:Hid (W8.cell? ⟨w.heap.size,0,none⟩=some (.slice a3 k c3)):=hid HC8.out.cell;have hkl:k≤100000:=by omega
   go_wp2_with fail;have HSS:Hid (∀ X,Mods (w.heap.size :: ob (.slice a3 k c3)) W8 X→(X.cell? ⟨q5,0,none⟩=some (.int .u64 (pn:Int))∧X.cell? ⟨q5,1,none⟩=some (.int .i64 (ps:Int))∧X.cell? ⟨q5,2,none⟩=some (.slice a7 ml c7))∧Mods (w.heap.size :: ob (.slice a3 k c3)) W8 X):=hid (fun X hb=>⟨⟨(World.cell?_of_block (hb.block _ (HX8L.out) (HNF.out))).trans (cellOf HX8.out 0 rfl),(World.cell?_of_block (hb.block _ (HX8L.out) (HNF.out))).trans (cellOf HX8.out 1 rfl),(World.cell?_of_block (hb.block _ (HX8L.out) (HNF.out))).trans (cellOf HX8.out 2 rfl)⟩,hb⟩)
   refine wp_region_held_drew (S:=fun X=>(X.cell? ⟨q5,0,none⟩=some (.int .u64 (pn:Int))∧X.cell? ⟨q5,1,none⟩=some (.int .i64 (ps:Int))∧X.cell? ⟨q5,2,none⟩=some (.slice a7 ml c7))∧Mods (w.heap.size :: ob (.slice a3 k c3)) W8 X) (by kernel_rfl) (HSS.out _ (Mods.of_below (Below.refl _ _).drew)) (fun hHeld => ?_);have hbe:Below W8.heap.size W8 W8.drew:=(Below.refl _ _).drew;obtain ⟨wd,hwd⟩:∃ y,W8.drew=y:=⟨_,rfl⟩
   rw [hwd] at hHeld hbe ⊢;have HBE:=hid hbe;have HS0:Hid (W8.heap.size≤wd.heap.size):=hid HBE.out.size;clear hwd hbe;refine tkP 0 rfl ?_;refine tkP 1 rfl ?_;refine tkP 5 rfl ?_;refine tkP 2 rfl ?_;refine tkP 3 rfl ?_;refine rd2 4 6 rfl rfl (fun K hK => ?_) fun K hK => ?_
   ·skip
    have hrd:=(show wd.cell? ⟨w.heap.size,0,none⟩=some (.slice a3 k c3) from (HBE.out.cell (p:=⟨w.heap.size,0,none⟩) HBL.out).trans HCB.out)
    simp only [gE1,gE2,gE3];go_simp;clear hrd;refine hK.out _ _ ?_ (fun hHeld => ?_)
    ·exact (by first | exact HSS.out _ (Mods.of_below HBE.out) | exact HSS.out _ HMD.out)
    clear hK K;try simp only [Act.put,pE1,pE2,pE3]
    refine rd1 6 rfl fun K hK => ?_;simp only [gE1,gE2,gE3];go_simp;obtain ⟨b6,y6,hw6,hy6,hx6,HN6⟩:=al wd (.cells #[.int .u64 (pn:Int),.int .i64 (ps:Int),.slice a7 ml c7] 58);rw [hy6,hw6];have HG6:Hid (W8.heap.size≤b6):=hid (by have:=HBE.out.size;omega);clear hy6 hw6;have HBE:=hid (bthen HBE.out hx6);clear hHeld;refine hK.out _ _ (HSS.out _ (Mods.of_below HBE.out)) fun hHeld => ?_;clear hK K;try simp only [Act.put,pE1,pE2,pE3]
    clear hx6;refine rd1 7 rfl fun K hK => ?_;simp only [gE1,gE2,gE3];rw [if_pos (by rfl)];refine wp_apps _ _ 28 rfl w.heap.size 58 _ 3 40 Tryz.underlying28 infoVols rfl (by decide) (by decide) (.slice a3 k c3) k _ (by rfl) (ownsRow_below HRO.out HBE.out) _ 1 _ (by rfl) (rd_cells HN6.out rfl (by omega)) (by simp [Value.oneCell']) (by omega) (Nat.le_trans HWL.out HBE.out.size) ?_;intro v9 w9 ho9 hb9 hg9 hs9 hn9;refine hK.out _ _ ?_ (fun hHeld => ?_)
    ·exact HSS.out _ ((Mods.of_below HBE.out).trans (Chg.of_grown hg9 hs9).1 (fun i hi=>.inl (List.mem_cons_of_mem _ hi)))
    clear hK K;try simp only [Act.put,pE1,pE2,pE3]
    have HM9:Hid (Mods (ob (.slice a3 k c3)) W8 w9):=hid ((Mods.of_below HBE.out).trans (Chg.of_grown hg9 hs9).1 (fun i hi=>.inl hi));have HB9:Hid (Below w.heap.size W8 w9):=hid ((HBE.out.mono HWL.out).trans hb9);obtain ⟨a9,c9,hv9⟩:=row_slice ho9;subst hv9;have HO9:=hid ho9;clear ho9 hb9 hg9 hs9 hn9;refine tkP 8 rfl ?_;refine tkP 9 rfl ?_;refine rd1 10 rfl fun K hK => ?_;have HX9:Hid (w9.heap[w.heap.size]? = some (.cells #[.slice a3 k c3] 30 (0,0))):=hid ((HM9.out.block w.heap.size HBL.out (ob_tag HRO.out HC8.out.box (by decide))).trans HC8.out.box)
    have hc9:=cellOf HX9.out 0 (v:=.slice a3 k c3) rfl;have hf9:=frozenOf HX9.out 0;simp only [gE1,gE2,gE3];go_simp;refine hK.out _ _ ?_ (fun hHeld => ?_)
    ·exact HSS.out _ ((HM9.out.mono (fun i hi=>List.mem_cons_of_mem _ hi)).setCell (p:=⟨w.heap.size,0,none⟩) (List.mem_cons_self ..) _)
    clear hK K;try simp only [Act.put,pE1,pE2,pE3]
    refine wpAnyH_done (by kernel_rfl) ?_ _;have HEND:=hid hHeld.2;have HSE:=hid hHeld.1;clear hHeld;clear HSE HSS;have HFIN:=hid (rci_next HP.out HPN.out HPS.out HML.out HLEN.out HMP.out HBW.out HBB.out HC8.out HX9.out HO9.out HM9.out HB9.out HMV.out HRO.out);go_wp2_with fail;go_roundw
    case rel=>exact ⟨k+1,by omega,by go_num,HFIN.out⟩
    case measure=>simp [Go.Proofs.intOf];omega
   ·skip
    simp only [gE1,gE2,gE3];go_simp;obtain ⟨b6,y6,hw6,hy6,hx6,HN6⟩:=al wd (.cells #[.int .u64 (pn:Int),.int .i64 (ps:Int),.slice a7 ml c7] 58);rw [hy6,hw6];have HG6:Hid (W8.heap.size≤b6):=hid (by have:=HBE.out.size;omega);clear hy6 hw6;have HBE:=hid (bthen HBE.out hx6);clear hHeld;refine hK.out _ _ (HSS.out _ (Mods.of_below HBE.out)) fun hHeld => ?_;clear hK K;try simp only [Act.put,pE1,pE2,pE3]
    clear hx6;refine rd1 4 rfl fun K hK => ?_;have hrd:=(show y6.cell? ⟨w.heap.size,0,none⟩=some (.slice a3 k c3) from (HBE.out.cell (p:=⟨w.heap.size,0,none⟩) HBL.out).trans HCB.out)
    simp only [gE1,gE2,gE3];go_simp;clear hrd;refine hK.out _ _ ?_ (fun hHeld => ?_)
    ·exact (by first | exact HSS.out _ (Mods.of_below HBE.out) | exact HSS.out _ HMD.out)
    clear hK K;try simp only [Act.put,pE1,pE2,pE3]
    refine rd1 7 rfl fun K hK => ?_;simp only [gE1,gE2,gE3];rw [if_pos (by rfl)];refine wp_apps _ _ 28 rfl w.heap.size 58 _ 3 40 Tryz.underlying28 infoVols rfl (by decide) (by decide) (.slice a3 k c3) k _ (by rfl) (ownsRow_below HRO.out HBE.out) _ 1 _ (by rfl) (rd_cells HN6.out rfl (by omega)) (by simp [Value.oneCell']) (by omega) (Nat.le_trans HWL.out HBE.out.size) ?_;intro v9 w9 ho9 hb9 hg9 hs9 hn9;refine hK.out _ _ ?_ (fun hHeld => ?_)
    ·exact HSS.out _ ((Mods.of_below HBE.out).trans (Chg.of_grown hg9 hs9).1 (fun i hi=>.inl (List.mem_cons_of_mem _ hi)))
    clear hK K;try simp only [Act.put,pE1,pE2,pE3]
    have HM9:Hid (Mods (ob (.slice a3 k c3)) W8 w9):=hid ((Mods.of_below HBE.out).trans (Chg.of_grown hg9 hs9).1 (fun i hi=>.inl hi));have HB9:Hid (Below w.heap.size W8 w9):=hid ((HBE.out.mono HWL.out).trans hb9);obtain ⟨a9,c9,hv9⟩:=row_slice ho9;subst hv9;have HO9:=hid ho9;clear ho9 hb9 hg9 hs9 hn9;refine tkP 8 rfl ?_;refine tkP 9 rfl ?_;refine rd1 10 rfl fun K hK => ?_;have HX9:Hid (w9.heap[w.heap.size]? = some (.cells #[.slice a3 k c3] 30 (0,0))):=hid ((HM9.out.block w.heap.size HBL.out (ob_tag HRO.out HC8.out.box (by decide))).trans HC8.out.box)
    have hc9:=cellOf HX9.out 0 (v:=.slice a3 k c3) rfl;have hf9:=frozenOf HX9.out 0;simp only [gE1,gE2,gE3];go_simp;refine hK.out _ _ ?_ (fun hHeld => ?_)
    ·exact HSS.out _ ((HM9.out.mono (fun i hi=>List.mem_cons_of_mem _ hi)).setCell (p:=⟨w.heap.size,0,none⟩) (List.mem_cons_self ..) _)
    clear hK K;try simp only [Act.put,pE1,pE2,pE3]
    refine wpAnyH_done (by kernel_rfl) ?_ _;have HEND:=hid hHeld.2;have HSE:=hid hHeld.1;clear hHeld;clear HSE HSS;have HFIN:=hid (rci_next HP.out HPN.out HPS.out HML.out HLEN.out HMP.out HBW.out HBB.out HC8.out HX9.out HO9.out HM9.out HB9.out HMV.out HRO.out);go_wp2_with fail;go_roundw
    case rel=>exact ⟨k+1,by omega,by go_num,HFIN.out⟩
    case measure=>simp [Go.Proofs.intOf];omega
  ·obtain rfl:k=n:=by omega
   have hbc:=HDW.out.cell;go_wp2_with fail;go_ret;refine ⟨_,l',rfl,HCI.out,?_,HBW.out⟩;rw [HMP.out,List.take_of_length_le (by rw [mapA_len,HN.out];exact Nat.le_refl _)]
end Go.Proofs.YthkmihedkddnmaaGreat
