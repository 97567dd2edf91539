import Derived.Test.YthkmihedkddnmaaGreatTG25
import Derived.Test.YthkmihedkddnmaaGreatTG6
import Derived.Test.YthkmihedkddnmaaGreatTG2
set_option linter.unusedVariables false
set_option linter.unusedSimpArgs false
set_option maxHeartbeats 6400000
set_option maxRecDepth 100000
namespace Go.Proofs.YthkmihedkddnmaaGreat
open Lib (hid)
open Go.RowKit Wire Cmd
theorem infoRBlk:(Tryz.prog.info? 107).map (fun i=>i.size)=some 257:=by kernel_rfl
structure RVolAt (n0:Nat) (w:World) (g o:Nat) (v:Value) (m:List (Nat × List UInt8)):Prop where
 cell:w.cell? ⟨g,o+2,none⟩=some v
 row:w.ownsRow n0 107 257 v m.length (rblkC m)
 lt:g<w.heap.size
theorem RVolAt.below {n0:Nat} {w w':World} {g o:Nat} {v:Value} {m:List (Nat × List UInt8)} (h:RVolAt n0 w g o v m) (hb:Below w.heap.size w w'):RVolAt n0 w' g o v m :=
 ⟨(hb.cell (p:=⟨g,o+2,none⟩) h.lt).trans h.cell,ownsRow_below h.row hb,Nat.lt_of_lt_of_le h.lt hb.size⟩
theorem getA_found {α:Type} {m:List (Nat × α)} (hr:Ris m) {j k:Nat} {q:Nat × α} (hq:m[j]? = some q) (he:q.1=k):getA k m=some q.2:=by rw [← he];exact getA_at hr hq
theorem getA_nowhere {α:Type} {m:List (Nat × α)} {k:Nat} (h:∀ (j:Nat) (q:Nat × α),m[j]? = some q→q.1≠k):getA k m=none:=by
 unfold getA;rw [Option.map_eq_none_iff,List.find?_eq_none];intro q hq;obtain ⟨j,hj⟩:=List.getElem?_of_mem hq;have:=h j q hj
 simpa using this
theorem rget_any (n0:Nat) (w:World) (g o:Nat) (v:Value) (m:List (Nat × List UInt8)) (h:RVolAt n0 w g o v m) (hm:∀ q∈m,q.2.length=256) (hr:Ris m) (hl:m.length≤1000000) (k:Int) :
  Calls Tryz.prog 36 #[.pointer (some ⟨g,o,none⟩),.int .i64 k] w fun e w'=>e = .returned (.tuple #[bA ((getI k m).getD zeroB),.bool (getI k m).isSome])∧Below w.heap.size w w':=by
 obtain ⟨w1,hw1⟩:∃ W,w.alloc (.cells Tryz.zeroCells50 50)=W:=⟨_,rfl⟩
 have hb1:Below w.heap.size w w1:=by rw [← hw1];exact balloc (Below.refl _ _) _
 have HZ1:Hid (w1.heap[w.heap.size]? = some (.cells Tryz.zeroCells50 50 (0,0))):=hid (by rw [← hw1];exact heap_alloc_new w _);have h1:=h.below hb1;have HB1:=hid hb1;have HV:=hid h1;have HM:=hid hm;have HR:=hid hr;obtain ⟨av,cv,rfl⟩:=row_slice h.row;obtain ⟨n,hn⟩:∃ n,m.length=n:=⟨_,rfl⟩
 have HN:=hid hn;have hc:=HV.out.cell;rw [hn] at hc hl;clear h h1 hb1 hm hr hn
 go_enter Tryz.func36,Tryz.ntmps36
 go_wp2_with fail
 (try rw [hw1])
 clear hw1
 go_loop [6] (fun i=>∃ j:Nat,j≤n∧i = .int .i64 (j:Int)∧∀ (q:Nat) (p:Nat × List UInt8),q<j→m[q]? = some p→(p.1:Int)≠k) (fun i=>n - (Go.Proofs.intOf i).toNat)
 case atStart=>exact ⟨0,by omega,rfl,fun q p hq=>absurd hq (Nat.not_lt_zero _)⟩
 case round =>
  obtain ⟨j,hj,rfl,hall⟩:=hrel;have HALL:=hid hall;clear hall
  by_cases hlt:j<n
  ·obtain ⟨q,hq⟩:∃ q,m[j]? = some q:=⟨_,List.getElem?_eq_getElem (by rw [HN.out];exact hlt)⟩
   obtain ⟨gm,cm,hv,hc1,hc2,hgl,hq0,hq1⟩:=rblk_at HV.out.row HM.out hq;obtain ⟨rfl,_,rfl⟩:=Value.slice.inj hv;have hnc:n≤cv:=by have:=HN.out;omega
   have HQ1:=hid hq1;have HCL:=hid (HM.out q (List.mem_of_getElem? hq));have HQ:=hid hq;obtain ⟨qn,c⟩:=q;dsimp only at hq0 HQ1 HCL HQ;clear hv hc1 hc2 hgl hq1 hq
   by_cases he:(qn:Int)=k
   ·subst he
    have HG:Hid (getI ((qn:Nat):Int) m=some c):=hid (by rw [getI_nat];exact getA_found HR.out HQ.out rfl);go_wp2_with fail;refine wp_load_mid (P:=Tryz.prog) 50 _ rfl gm (j * 257+1) rfl (bV c) _ HQ1.out Tryz.underlying50 rfl (infoB HCL.out) ?_
    go_wp2_with (refine wpList_store_mid rfl 50 _ _ rfl w.heap.size 0 (bV c).toArray rfl rfl (blkThere HZ1.out HCL.out) (by rw [List.size_toArray];exact infoB HCL.out) (all_oneCell_toArray (bV_one c)) ?_)
    refine bodyPost_ret (v:=.tuple #[bA c,.bool true]) (blkEnd _ rfl rfl rfl HZ1.out HCL.out) rfl ⟨by rw [HG.out];rfl,?_⟩;exact belowSet (Nat.le_refl _) _ _ _ HB1.out
   ·have q0:((qn:Int) == k)=false:=by rw [beq_eq_false_iff_ne];exact he
    have HNE:=hid he;clear he;go_wp2_with fail;go_round
    case rel=>exact ⟨j+1,by omega,by go_num,fun r p hr hp=>by
     by_cases hrj:r=j
     ·subst hrj
      rw [HQ.out] at hp;obtain rfl:=Option.some.inj hp;exact HNE.out
     ·exact HALL.out r p (by omega) hp⟩
    case measure=>simp [Go.Proofs.intOf];omega
  ·obtain rfl:j=n:=by omega
   have HG:Hid (getI k m=none):=hid (by
    unfold getI
    by_cases hk:k<0
    ·rw [if_pos hk]
    ·rw [if_neg hk]
     refine getA_nowhere fun r p hp e=>HALL.out r p (by have:=(List.getElem?_eq_some_iff.1 hp).1;have:=HN.out;omega) hp ?_
     omega)
   have hth:=blkThere HZ1.out (c:=zeroB) (by unfold zeroB;rw [List.length_replicate]);rw [← zcells] at hth;have HTH:=hid hth;clear hth
   go_wp2_with (refine wpList_store_mid rfl 50 _ _ rfl w.heap.size 0 Tryz.zeroCells50 rfl rfl HTH.out (by rw [zszM];exact infoBlk) zoneBlk ?_)
   have hl:Tryz.zeroCells50.toList=bV zeroB:=by rw [zcells]
   rw [hl];refine bodyPost_ret (v:=.tuple #[bA zeroB,.bool false]) (blkEnd _ rfl rfl rfl HZ1.out (by unfold zeroB;rw [List.length_replicate])) rfl ⟨by rw [HG.out];rfl,?_⟩;exact belowSet (Nat.le_refl _) _ _ _ HB1.out
end Go.Proofs.YthkmihedkddnmaaGreat
namespace Go.Proofs.YthkmihedkddnmaaGreat
open Lib (hid)
open Go.RowKit Wire Cmd
def rbC (q:Nat × List UInt8):List Value:=.int .i64 (q.1:Int) :: bV q.2
theorem rbC_len {q:Nat × List UInt8} (h:q.2.length=256):(rbC q).length=257:=by simp [rbC,bV_len,h]
theorem rbC_one (q:Nat × List UInt8):∀ u∈(rbC q).toArray.toList,u.oneCell'=true:=by
 intro u hu;simp only [rbC,List.mem_cons] at hu
 rcases hu with rfl | hu
 ·rfl
 ·exact bV_one q.2 u hu
theorem rblkC_snoc (m:List (Nat × List UInt8)) (q:Nat × List UInt8):rblkC (m ++ [q])=rblkC m ++ (rbC q).toArray.toList:=by simp [rblkC,rbC]
theorem zszR:Tryz.zeroCells107.size=257:=by kernel_rfl
theorem infoR3:(Tryz.prog.info? 107).map (fun i=>(i.zero,i.size))=some (some (.agg Tryz.zeroCells107),257):=by kernel_rfl
theorem infoR4:(Tryz.prog.info? 107).map (fun i=>(i.zero,i.size,i.bytes))=some (some (.agg Tryz.zeroCells107),257,264):=by kernel_rfl
theorem zaggR:(Value.agg Tryz.zeroCells107).cells.size=257:=zszR
theorem rb_range {w:World} {v:Value} {n0:Nat} {m:List (Nat × List UInt8)} (h:w.ownsRow n0 107 257 v m.length (rblkC m)) (hm:∀ q∈m,q.2.length=256) {k:Nat} {q:Nat × List UInt8} (hq:m[k]? = some q) {g:Nat} {cap n:Nat} (hv:v = .slice (some ⟨g,0,none⟩) n cap):w.rangeAt g (k * 257) (rbC q):=by
 obtain ⟨g',cap',hv',_,_,_,h0,h1⟩:=rblk_at h hm hq;rw [hv] at hv';obtain ⟨e,_,_⟩:=Value.slice.inj hv'
 cases e
 intro j u hj
 cases j with
 | zero =>
  unfold rbC at hj;rw [List.getElem?_cons_zero] at hj;rw [← hj,Nat.add_zero];exact h0
 | succ j =>
  unfold rbC at hj;rw [List.getElem?_cons_succ] at hj;have h2:=h1 j u hj;rw [show k * 257+(j+1)=k * 257+1+j by omega];exact h2
theorem infoRB {q:Nat × List UInt8} (h:q.2.length=256):(Tryz.prog.info? 107).map (·.size)=some (rbC q).length:=by rw [rbC_len h];exact infoRBlk
def RSt (w w':World) (g o:Nat) (m:List (Nat × List UInt8)):Prop:=∃ W v',w'=W.setCell ⟨g,o+2,none⟩ v'∧Below w.heap.size w W∧W.ownsRow w.heap.size 107 257 v' m.length (rblkC m)
theorem rdrop_any (n0:Nat) (w:World) (g o:Nat) (v:Value) (m:List (Nat × List UInt8)) (h:RVolAt n0 w g o v m) (hfz:w.frozen? ⟨g,o+2,none⟩=false) (hm:∀ q∈m,q.2.length=256) (hl:m.length≤1000000) (f t:Int) :
  Calls Tryz.prog 50 #[.pointer (some ⟨g,o,none⟩),.int .i64 f,.int .i64 t] w fun e w'=>e = .returned (.tuple #[])∧RSt w w' g o (dropA f t m):=by
 have HV:=hid h;have HM:=hid hm;have HFZ:=hid hfz;obtain ⟨av,cv,rfl⟩:=row_slice h.row;obtain ⟨n,hn⟩:∃ n,m.length=n:=⟨_,rfl⟩
 have HN:=hid hn;rw [hn] at hl;clear h hm hn hfz
 go_enter Tryz.func50,Tryz.ntmps50
 go_wp2_with fail
 go_loopw [6,7] (fun s6 i wr=>∃ (j:Nat) (v':Value),v'=s6∧j≤n∧i = .int .i64 (j:Int)∧wr.ownsRow w.heap.size 107 257 v' (dropA f t (m.take j)).length (rblkC (dropA f t (m.take j)))∧Below w.heap.size w wr) (fun _ i _=>n - (Go.Proofs.intOf i).toNat)
 case atStart=>exact ⟨0,_,rfl,by omega,rfl,by simpa [dropA,rblkC] using World.ownsRow_nil w w.heap.size _ _,Below.refl _ _⟩
 case round =>
  obtain ⟨j,v',hv',hj,rfl,hrow,hb⟩:=hrel;subst hv';have hvr:=HV.out.below hb;have hc:=hvr.cell;rw [HN.out] at hc;have HROW:=hid hrow;have HB:=hid hb;have HVR:=hid hvr;clear hrow hb hvr
  by_cases hlt:j<n
  ·obtain ⟨q,hq⟩:∃ q,m[j]? = some q:=⟨_,List.getElem?_eq_getElem (by rw [HN.out];exact hlt)⟩
   obtain ⟨gm,cm,hv,hc1,hc2,hgl,hq0,hq1⟩:=rblk_at HVR.out.row HM.out hq;have hra:=rb_range HVR.out.row HM.out hq hv;obtain ⟨rfl,_,rfl⟩:=Value.slice.inj hv;have hnc:n≤cv:=by have:=HN.out;omega
   have HRA:=hid hra;have HCL:=hid (HM.out q (List.mem_of_getElem? hq));have HTK:Hid (dropA f t (m.take (j+1))=if ((q.1:Int)<f∨t≤(q.1:Int)) then dropA f t (m.take j) ++ [q] else dropA f t (m.take j)):=hid (by
    unfold dropA;rw [List.take_add_one,hq,List.filter_append]
    by_cases h1:(q.1:Int)<f∨t≤(q.1:Int)
    ·rw [if_pos h1]
     simp [h1]
    ·rw [if_neg h1]
     have h2 : ¬ (q.1:Int)<f ∧ ¬ t≤(q.1:Int):=⟨fun h=>h1 (.inl h),fun h=>h1 (.inr h)⟩
     simp only [Option.toList_some,List.filter_cons,List.filter_nil];rw [if_neg (by simp;omega)]
     simp)
   have HLN:Hid ((dropA f t (m.take j)).length≤n):=hid (by
    have h1:(dropA f t (m.take j)).length≤(m.take j).length:=List.length_filter_le _ _;rw [List.length_take] at h1
    omega)
   obtain ⟨L,hL⟩:∃ L,dropA f t (m.take j)=L:=⟨_,rfl⟩
   rw [hL] at HROW HTK HLN;obtain ⟨qn,hqn⟩:∃ a,q.1=a:=⟨_,rfl⟩
   rw [hqn] at hq0 HTK;clear hv hc1 hc2 hgl hq1 hra hq hL hqn
   by_cases hk:(qn:Int)<f∨t≤(qn:Int)
   ·have HK:=hid hk
    rw [if_pos hk] at HTK;have hbo:(L.length+1) * 264≤140737488355328:=by have:=HLN.out;omega
    have hbs:=HB.out.size;have hrow:=HROW.out
    by_cases h1:(qn:Int)<f
    ·have g1:decide ((qn:Int)<f)=true:=decide_eq_true h1
     clear hk h1
     go_wp2_with (first
      | (refine wpList_load_mid rfl 107 _ rfl gm (j * 257) rfl (rbC q) _ HRA.out Tryz.underlying107 rfl (infoRB HCL.out) ?_)
      | (refine wpList_build1 rfl _ 56 107 257 _ (rbC q) rfl rfl Tryz.underlying56 infoR3 zaggR (rbC_len HCL.out) (by omega) (by omega) ?_)
      | (at_builtin;go_must (refine wpList_app rfl _ _ 56 rfl w.heap.size 107 _ 257 264 Tryz.underlying56 infoR4 zaggR (by decide) (by decide) _ L.length _ rfl hrow rfl (by rw [List.size_toArray];exact rbC_len HCL.out) (rbC_one q) hbo hbs ?_);intro v5 w5 ho5 hb5 hg5 hs5 hn5))
     have HO5:Hid (w5.ownsRow w.heap.size 107 257 v5 (L ++ [q]).length (rblkC (L ++ [q]))):=hid (by rw [rblkC_snoc,List.length_append];exact ho5);have HB5:=hid (HB.out.trans hb5);clear ho5 hb5 hg5 hs5 hn5 hrow;go_wp2_with fail;go_roundw
     case rel=>exact ⟨j+1,_,rfl,by omega,by go_num,by rw [HTK.out];exact HO5.out,HB5.out⟩
     case measure=>simp [Go.Proofs.intOf];omega
    ·have g1:decide ((qn:Int)<f)=false:=decide_eq_false h1
     have g2:decide (t≤(qn:Int))=true:=decide_eq_true (by omega);clear hk h1
     go_wp2_with (first
      | (refine wpList_load_mid rfl 107 _ rfl gm (j * 257) rfl (rbC q) _ HRA.out Tryz.underlying107 rfl (infoRB HCL.out) ?_)
      | (refine wpList_build1 rfl _ 56 107 257 _ (rbC q) rfl rfl Tryz.underlying56 infoR3 zaggR (rbC_len HCL.out) (by omega) (by omega) ?_)
      | (at_builtin;go_must (refine wpList_app rfl _ _ 56 rfl w.heap.size 107 _ 257 264 Tryz.underlying56 infoR4 zaggR (by decide) (by decide) _ L.length _ rfl hrow rfl (by rw [List.size_toArray];exact rbC_len HCL.out) (rbC_one q) hbo hbs ?_);intro v5 w5 ho5 hb5 hg5 hs5 hn5))
     have HO5:Hid (w5.ownsRow w.heap.size 107 257 v5 (L ++ [q]).length (rblkC (L ++ [q]))):=hid (by rw [rblkC_snoc,List.length_append];exact ho5);have HB5:=hid (HB.out.trans hb5);clear ho5 hb5 hg5 hs5 hn5 hrow;go_wp2_with fail;go_roundw
     case rel=>exact ⟨j+1,_,rfl,by omega,by go_num,by rw [HTK.out];exact HO5.out,HB5.out⟩
     case measure=>simp [Go.Proofs.intOf];omega
   ·rw [if_neg hk] at HTK
    have g1:decide ((qn:Int)<f)=false:=decide_eq_false (fun h=>hk (.inl h));have g2:decide (t≤(qn:Int))=false:=decide_eq_false (fun h=>hk (.inr h));clear hk;go_wp2_with fail;go_roundw
    case rel=>exact ⟨j+1,_,rfl,by omega,by go_num,by rw [HTK.out];exact HROW.out,HB.out⟩
    case measure=>simp [Go.Proofs.intOf];omega
  ·obtain rfl:j=n:=by omega
   rw [List.take_of_length_le (by rw [HN.out];omega)] at HROW;obtain ⟨a6,c6,rfl⟩:=row_slice HROW.out;have hf2:wr.frozen? ⟨g,o+2,none⟩=false:=by
    rw [HB.out.frozen (p:=⟨g,o+2,none⟩) HV.out.lt];exact HFZ.out
   go_wp2_with fail
   go_end0
   exact ⟨rfl,wr,_,rfl,HB.out,HROW.out⟩
end Go.Proofs.YthkmihedkddnmaaGreat
namespace Go.Proofs.YthkmihedkddnmaaGreat
open Lib (hid)
open Go.RowKit Wire Cmd
theorem rb_fold (k:Nat) {b:List UInt8} (hb:b.length=256):List.foldl (fun (cs:Array Value) (x:Value × Nat)=>cs.setIfInBounds (1+x.snd) x.fst) (Tryz.zeroCells107.setIfInBounds 0 (.int .i64 (k:Int))) (bV b).zipIdx=(rbC (k,b)).toArray:=by
 apply Array.toList_inj.1
 have h1:=foldl_sets 1 (bV b) 0 (Tryz.zeroCells107.setIfInBounds 0 (.int .i64 (k:Int))) (by rw [Array.size_setIfInBounds,zszR,bV_len,hb];omega);rw [h1];obtain ⟨z,r,hzr⟩:∃ z r,Tryz.zeroCells107.toList=z :: r:=by
  cases h:Tryz.zeroCells107.toList with
  | nil =>
   have h2:=congrArg List.length h;rw [Array.length_toList,zszR] at h2
   cases h2
  | cons z r=>exact ⟨z,r,rfl⟩
 have hrl:r.length=256:=by
  have h2:=congrArg List.length hzr;rw [Array.length_toList,zszR,List.length_cons] at h2;omega
 rw [Array.toList_setIfInBounds,hzr,List.set_cons_zero,List.drop_eq_nil_of_le (by rw [List.length_cons,bV_len];omega)]
 simp [rbC]
theorem rset_any (n0:Nat) (w:World) (g o:Nat) (v:Value) (m:List (Nat × List UInt8)) (h:RVolAt n0 w g o v m) (hfz:w.frozen? ⟨g,o+2,none⟩=false) (hm:∀ q∈m,q.2.length=256) (hr:Ris m) (hl:m.length≤1000000) (k:Nat) (b:List UInt8) (hb:b.length=256) :
  Calls Tryz.prog 23 #[.pointer (some ⟨g,o,none⟩),.int .i64 (k:Int),bA b] w fun e w'=>e = .returned (.tuple #[])∧RSt w w' g o (putA k b m):=by
 obtain ⟨w1,hw1⟩:∃ W,w.alloc (.cells (bV b).toArray 50)=W:=⟨_,rfl⟩
 have hb1:Below w.heap.size w w1:=by rw [← hw1];exact balloc (Below.refl _ _) _
 have HX1:Hid (w1.heap[w.heap.size]? = some (.cells (bV b).toArray 50 (0,0))):=hid (by rw [← hw1];exact heap_alloc_new w _);have HS1:Hid (w1.heap.size=w.heap.size+1):=hid (by rw [← hw1];simp);have HV:=hid (h.below hb1);have HG:=hid h.lt;have HB1:=hid hb1;have HM:=hid hm;have HR:=hid hr;have HFZ:=hid hfz;have HBL:=hid hb;have hfold:=rb_fold k hb;obtain ⟨av,cv,rfl⟩:=row_slice h.row;obtain ⟨n,hn⟩:∃ n,m.length=n:=⟨_,rfl⟩
 have HN:=hid hn;have hcs:(bV b).toArray.size=256:=by simp [bV_len,hb]
 rw [hn] at hl;clear h hm hr hn hfz hb hb1;unfold bA
 go_enter Tryz.func23,Tryz.ntmps23
 go_wp2_with fail
 (try rw [hw1])
 clear hw1
 go_loopw [6,7,8] (fun s6 s7 i wr=>∃ (j:Nat) (v':Value),v'=s6∧j≤n∧i = .int .i64 (j:Int)∧s7 = .bool (setK k b m j).2∧wr.ownsRow (w.heap.size+1) 107 257 v' (setK k b m j).1.length (rblkC (setK k b m j).1)∧Below w1.heap.size w1 wr) (fun _ _ i _=>n - (Go.Proofs.intOf i).toNat)
 case atStart=>exact ⟨0,_,rfl,by omega,rfl,rfl,by simpa [setK_zero,rblkC] using World.ownsRow_nil w1 (w.heap.size+1) _ _,Below.refl _ _⟩
 case round =>
  obtain ⟨j,v',hv',hj,rfl,rfl,hrow,hbb⟩:=hrel;subst hv';have hvr:=HV.out.below hbb;have hc:=hvr.cell;rw [HN.out] at hc;have HROW:=hid hrow;have HBX:Hid (wr.rangeAt w.heap.size 0 (bV b)):=hid (blkBox ((hbb.block _ (hLT HX1.out)).trans HX1.out));have HB:=hid hbb;rw [HS1.out] at HB;have HVR:=hid hvr;have HLN:Hid ((setK k b m j).1.length≤n+1):=hid (by
   have h1:=setK_len k b m j (by rw [HN.out];exact hj)
   split at h1 <;> omega)
  obtain ⟨⟨L,p⟩,hK⟩:∃ s,setK k b m j=s:=⟨_,rfl⟩
  rw [hK] at HROW HLN ⊢;dsimp only at HROW HLN ⊢;have HKJ:=hid hK;clear hrow hbb hvr hK
  by_cases hlt:j<n
  ·obtain ⟨q,hq⟩:∃ q,m[j]? = some q:=⟨_,List.getElem?_eq_getElem (by rw [HN.out];exact hlt)⟩
   obtain ⟨gm,cm,hv,hc1,hc2,hgl,hq0,hq1⟩:=rblk_at HV.out.row HM.out hq;have hra:=rb_range HV.out.row HM.out hq hv;obtain ⟨rfl,_,rfl⟩:=Value.slice.inj hv;have hnc:n≤cv:=by have:=HN.out;omega
   have HCL:=hid (HM.out q (List.mem_of_getElem? hq));have HST:Hid (setK k b m (j+1)=setStep k b (L,p) q):=hid (by rw [setK_succ hq,HKJ.out]);obtain ⟨qn,hqn⟩:∃ a,q.1=a:=⟨_,rfl⟩
   have HQN:=hid hqn;rw [hqn] at hq0;have HQA:Hid (∀ W,Below w1.heap.size w1 W→W.cell? ⟨gm,j * 257,none⟩=some (.int .i64 (qn:Int))∧W.rangeAt gm (j * 257) (rbC q)∧W.cell? ⟨g,o+2,none⟩=some (.slice (some ⟨gm,0,none⟩) n cv)):=hid (fun W hW=>⟨(hW.cell (p:=⟨gm,j * 257,none⟩) hgl).trans hq0,rangeStays hra hgl hW,by rw [← HN.out];exact (HV.out.below hW).cell⟩);clear hv hc1 hc2 hgl hq0 hq1 hra hq hqn hc;obtain ⟨hq0,hra,hc⟩:=HQA.out wr (by rw [HS1.out];exact HB.out);have HRA:=hid hra;clear hra
   cases p with
   | false =>
    by_cases h1:k≤qn
    ·have g1:decide ((k:Int)≤(qn:Int))=true:=decide_eq_true (by omega)
     have HQL:=HBL;have hrow:=HROW.out;have hbs:w.heap.size+1≤wr.heap.size:=by rw [← HS1.out];exact HB.out.size
     have hbo:(L.length+1) * 264≤140737488355328:=by have:=HLN.out;omega
     go_upto_if 47 with (first
      | (refine wpList_load_mid rfl 50 _ rfl w.heap.size 0 rfl (bV b) _ HBX.out Tryz.underlying50 rfl (infoB HBL.out) ?_)
      | (refine wpList_build1 rfl _ 56 107 257 _ (rbC (k,b)) rfl rfl Tryz.underlying56 infoR3 zaggR (rbC_len HQL.out) (by omega) (by omega) ?_)
      | (at_builtin;go_must (refine wpList_app rfl _ _ 56 rfl (w.heap.size+1) 107 _ 257 264 Tryz.underlying56 infoR4 zaggR (by decide) (by decide) _ L.length _ rfl hrow rfl (by rw [List.size_toArray];exact rbC_len HQL.out) (rbC_one (k,b)) hbo hbs ?_);intro v5 w5 ho5 hb5 hg5 hs5 hn5;obtain ⟨hq5,hra5,hc5⟩:=HQA.out w5 (by rw [HS1.out];exact HB.out.trans hb5)))
     have HOw5:Hid (w5.ownsRow (w.heap.size+1) 107 257 v5 (L ++ [(k,b)]).length (rblkC (L ++ [(k,b)]))):=hid (by rw [rblkC_snoc,List.length_append];exact ho5);have HBw5:=hid (HB.out.trans hb5);clear ho5 hb5 hg5 hs5 hn5 hrow hbs hbo;have HLN:Hid ((L ++ [(k,b)]).length≤n+2):=hid (by have:=HLN.out;simp;omega);have HRA5:=hid hra5;clear hra5 HQL
     by_cases h2:qn=k
     ·have g2:((qn:Int) != (k:Int))=false:=by rw [bne_eq_false_iff_eq];omega
      have HEQ:Hid (setK k b m (j+1)=(L ++ [(k,b)],true)):=hid (by rw [HST.out];unfold setStep;simp [HQN.out,h2,h1]);clear h2;go_wp2_with fail;go_roundw
      case rel=>exact ⟨j+1,_,rfl,by omega,by go_num,by rw [HEQ.out],by rw [HEQ.out];exact HOw5.out,by rw [HS1.out];exact HBw5.out⟩
      case measure=>simp [Go.Proofs.intOf];omega
     ·have g2:((qn:Int) != (k:Int))=true:=by rw [bne_iff_ne];omega
      have HEQ:Hid (setK k b m (j+1)=(L ++ [(k,b)] ++ [q],true)):=hid (by rw [HST.out];unfold setStep;simp [HQN.out,h2,h1]);have HQL:=HCL;clear h2;have hrow:=HOw5.out;have hbs:w.heap.size+1≤w5.heap.size:=by rw [← HS1.out];exact HBw5.out.size
      have hbo:((L ++ [(k,b)]).length+1) * 264≤140737488355328:=by have:=HLN.out;omega
      go_wp2_with (first
       | (refine wpList_load_mid rfl 107 _ rfl gm (j * 257) rfl (rbC q) _ HRA5.out Tryz.underlying107 rfl (infoRB HCL.out) ?_)
       | (refine wpList_build1 rfl _ 56 107 257 _ (rbC q) rfl rfl Tryz.underlying56 infoR3 zaggR (rbC_len HQL.out) (by omega) (by omega) ?_)
       | (at_builtin;go_must (refine wpList_app rfl _ _ 56 rfl (w.heap.size+1) 107 _ 257 264 Tryz.underlying56 infoR4 zaggR (by decide) (by decide) _ (L ++ [(k,b)]).length _ rfl hrow rfl (by rw [List.size_toArray];exact rbC_len HQL.out) (rbC_one q) hbo hbs ?_);intro v6 w6 ho5 hb5 hg5 hs5 hn5))
      have HOw6:Hid (w6.ownsRow (w.heap.size+1) 107 257 v6 ((L ++ [(k,b)]) ++ [q]).length (rblkC ((L ++ [(k,b)]) ++ [q]))):=hid (by rw [rblkC_snoc,List.length_append];exact ho5);have HBw6:=hid (HBw5.out.trans hb5);clear ho5 hb5 hg5 hs5 hn5 hrow hbs hbo;go_wp2_with fail;go_roundw
      case rel=>exact ⟨j+1,_,rfl,by omega,by go_num,by rw [HEQ.out],by rw [HEQ.out];exact HOw6.out,by rw [HS1.out];exact HBw6.out⟩
      case measure=>simp [Go.Proofs.intOf];omega
    ·have g1:decide ((k:Int)≤(qn:Int))=false:=decide_eq_false (by omega)
     have h2 : ¬ qn=k:=by omega
     have g2:((qn:Int) != (k:Int))=true:=by rw [bne_iff_ne];omega
     have HEQ:Hid (setK k b m (j+1)=(L ++ [q],false)):=hid (by rw [HST.out];unfold setStep;simp [HQN.out,h2,h1]);have HQL:=HCL;clear h2;have hrow:=HROW.out;have hbs:w.heap.size+1≤wr.heap.size:=by rw [← HS1.out];exact HB.out.size
     have hbo:((L).length+1) * 264≤140737488355328:=by have:=HLN.out;omega
     go_wp2_with (first
      | (refine wpList_load_mid rfl 107 _ rfl gm (j * 257) rfl (rbC q) _ HRA.out Tryz.underlying107 rfl (infoRB HCL.out) ?_)
      | (refine wpList_build1 rfl _ 56 107 257 _ (rbC q) rfl rfl Tryz.underlying56 infoR3 zaggR (rbC_len HQL.out) (by omega) (by omega) ?_)
      | (at_builtin;go_must (refine wpList_app rfl _ _ 56 rfl (w.heap.size+1) 107 _ 257 264 Tryz.underlying56 infoR4 zaggR (by decide) (by decide) _ (L).length _ rfl hrow rfl (by rw [List.size_toArray];exact rbC_len HQL.out) (rbC_one q) hbo hbs ?_);intro v6 w6 ho5 hb5 hg5 hs5 hn5))
     have HOw6:Hid (w6.ownsRow (w.heap.size+1) 107 257 v6 ((L) ++ [q]).length (rblkC ((L) ++ [q]))):=hid (by rw [rblkC_snoc,List.length_append];exact ho5);have HBw6:=hid (HB.out.trans hb5);clear ho5 hb5 hg5 hs5 hn5 hrow hbs hbo;go_wp2_with fail;go_roundw
     case rel=>exact ⟨j+1,_,rfl,by omega,by go_num,by rw [HEQ.out],by rw [HEQ.out];exact HOw6.out,by rw [HS1.out];exact HBw6.out⟩
     case measure=>simp [Go.Proofs.intOf];omega
   | true =>
    by_cases h2:qn=k
    ·have g2:((qn:Int) != (k:Int))=false:=by rw [bne_eq_false_iff_eq];omega
     have HEQ:Hid (setK k b m (j+1)=(L,true)):=hid (by rw [HST.out];unfold setStep;simp [HQN.out,h2]);clear h2;go_wp2_with fail;go_roundw
     case rel=>exact ⟨j+1,_,rfl,by omega,by go_num,by rw [HEQ.out],by rw [HEQ.out];exact HROW.out,by rw [HS1.out];exact HB.out⟩
     case measure=>simp [Go.Proofs.intOf];omega
    ·have g2:((qn:Int) != (k:Int))=true:=by rw [bne_iff_ne];omega
     have HEQ:Hid (setK k b m (j+1)=(L ++ [q],true)):=hid (by rw [HST.out];unfold setStep;simp [HQN.out,h2]);have HQL:=HCL;clear h2;have hrow:=HROW.out;have hbs:w.heap.size+1≤wr.heap.size:=by rw [← HS1.out];exact HB.out.size
     have hbo:((L).length+1) * 264≤140737488355328:=by have:=HLN.out;omega
     go_wp2_with (first
      | (refine wpList_load_mid rfl 107 _ rfl gm (j * 257) rfl (rbC q) _ HRA.out Tryz.underlying107 rfl (infoRB HCL.out) ?_)
      | (refine wpList_build1 rfl _ 56 107 257 _ (rbC q) rfl rfl Tryz.underlying56 infoR3 zaggR (rbC_len HQL.out) (by omega) (by omega) ?_)
      | (at_builtin;go_must (refine wpList_app rfl _ _ 56 rfl (w.heap.size+1) 107 _ 257 264 Tryz.underlying56 infoR4 zaggR (by decide) (by decide) _ (L).length _ rfl hrow rfl (by rw [List.size_toArray];exact rbC_len HQL.out) (rbC_one q) hbo hbs ?_);intro v6 w6 ho5 hb5 hg5 hs5 hn5))
     have HOw6:Hid (w6.ownsRow (w.heap.size+1) 107 257 v6 ((L) ++ [q]).length (rblkC ((L) ++ [q]))):=hid (by rw [rblkC_snoc,List.length_append];exact ho5);have HBw6:=hid (HB.out.trans hb5);clear ho5 hb5 hg5 hs5 hn5 hrow hbs hbo;go_wp2_with fail;go_roundw
     case rel=>exact ⟨j+1,_,rfl,by omega,by go_num,by rw [HEQ.out],by rw [HEQ.out];exact HOw6.out,by rw [HS1.out];exact HBw6.out⟩
     case measure=>simp [Go.Proofs.intOf];omega
  ·obtain rfl:j=n:=by omega
   have HE:Hid ((if p=true then L else L ++ [(k,b)])=putA k b m):=hid (by
    have h1:=setK_end (n:=k) (b:=b) HR.out;rw [HN.out,HKJ.out] at h1;exact h1)
   have HFA:Hid (∀ W,Below w1.heap.size w1 W→W.frozen? ⟨g,o+2,none⟩=false∧W.cell? ⟨g,o+2,none⟩=some (.slice av j cv)):=hid (fun W hW=>⟨by rw [hW.frozen (p:=⟨g,o+2,none⟩) HV.out.lt,HB1.out.frozen (p:=⟨g,o+2,none⟩) HG.out];exact HFZ.out,by rw [← HN.out];exact (HV.out.below hW).cell⟩)
   cases p with
   | true =>
    rw [if_pos rfl] at HE;obtain ⟨hf,hc⟩:=HFA.out wr (by rw [HS1.out];exact HB.out);obtain ⟨a6,c6,rfl⟩:=row_slice HROW.out;go_wp2_with fail
    go_end0
    exact ⟨rfl,wr,_,rfl,HB1.out.trans (HB.out.mono (Nat.le_succ _)),by rw [← HE.out];exact ownsRow_base HROW.out (Nat.le_succ _)⟩
   | false =>
    rw [if_neg (by simp)] at HE;have HQL:=HBL;obtain ⟨hf,hc⟩:=HFA.out wr (by rw [HS1.out];exact HB.out);have hrow:=HROW.out;have hbs:w.heap.size+1≤wr.heap.size:=by rw [← HS1.out];exact HB.out.size
    have hbo:(L.length+1) * 264≤140737488355328:=by have:=HLN.out;omega
    go_wp2_with (first
     | (refine wpList_load_mid rfl 50 _ rfl w.heap.size 0 rfl (bV b) _ HBX.out Tryz.underlying50 rfl (infoB HBL.out) ?_)
     | (refine wpList_build1 rfl _ 56 107 257 _ (rbC (k,b)) rfl rfl Tryz.underlying56 infoR3 zaggR (rbC_len HQL.out) (by omega) (by omega) ?_)
     | (at_builtin;go_must (refine wpList_app rfl _ _ 56 rfl (w.heap.size+1) 107 _ 257 264 Tryz.underlying56 infoR4 zaggR (by decide) (by decide) _ L.length _ rfl hrow rfl (by rw [List.size_toArray];exact rbC_len HQL.out) (rbC_one (k,b)) hbo hbs ?_);intro v5 w5 ho5 hb5 hg5 hs5 hn5;obtain ⟨hf5,hc5⟩:=HFA.out w5 (by rw [HS1.out];exact HB.out.trans hb5);obtain ⟨a6,c6,rfl⟩:=row_slice ho5))
    have HOw5:Hid (w5.ownsRow (w.heap.size+1) 107 257 (.slice a6 (L.length+1) c6) (L ++ [(k,b)]).length (rblkC (L ++ [(k,b)]))):=hid (by rw [rblkC_snoc,List.length_append];exact ho5);have HBw5:=hid (HB.out.trans hb5);clear ho5 hb5 hg5 hs5 hn5 hrow hbs hbo;go_wp2_with fail
    go_end0
    exact ⟨rfl,w5,_,rfl,HB1.out.trans (HBw5.out.mono (Nat.le_succ _)),by rw [← HE.out];exact ownsRow_base HOw5.out (Nat.le_succ _)⟩
end Go.Proofs.YthkmihedkddnmaaGreat
namespace Go.Proofs.YthkmihedkddnmaaGreat
open Lib (hid)
open Go.RowKit Wire Cmd
theorem find_case {α:Type} (k:Nat) (l:List (Nat × α)):(∃ (i:Nat) (a:α),findI k l=(i:Int)∧l[i]? = some (k,a)∧getA k l=some a)∨(findI k l = -1∧getA k l=none):=by
 unfold findI
 cases h:findA k l with
 | some i =>
  obtain ⟨a,h1,h2⟩:=findA_some h;exact .inl ⟨i,a,rfl,h1,h2⟩
 | none=>exact .inr ⟨rfl,findA_none h⟩
theorem rrefused_any (n0:Nat) (w:World) (B:Nat) (sv:Value) (l:List (Nat × (Vl × Value))) (h:RDevAt n0 w B sv l) (o:Op0) (ok:o.Ok) (ao:Option Addr) (cap:Nat) (hn:o.data.length≤1000000) (hsz:∀ p∈l,p.2.1.size≤256) :
  Calls Tryz.prog 48 #[.pointer (some ⟨B,0,none⟩),.agg (oC o (.slice ao o.data.length cap))] w fun e w'=>e = .returned (.int .i64 (refD (mapA (·.1) l) o))∧Below w.heap.size w w':=by
 obtain ⟨w1,hw1⟩:∃ W,w.alloc (.cells (oC o (.slice ao o.data.length cap)) 40)=W:=⟨_,rfl⟩
 have hb1:Below w.heap.size w w1:=by rw [← hw1];exact balloc (Below.refl _ _) _
 have hx1:w1.heap[w.heap.size]? = some (.cells (oC o (.slice ao o.data.length cap)) 40 (0,0)):=by rw [← hw1];exact heap_alloc_new w _
 have CM:=rmayO_any o ok ao cap w1 hn;rw [mayR_mayO o] at CM;have HD1:=hid (h.below hb1);have HB1:=hid hb1;have HX1:=hid hx1;have HSZ:=hid hsz;obtain ⟨c0,c1,c2,c3,c4,c5,c6⟩:=op7 hx1;have hok:=hid ok;clear h hb1 hx1 hsz;unfold oC at hw1;rw [show (oC o (.slice ao o.data.length cap))=#[.int .i64 o.k,.int .u64 (o.vol:Int),.int .u64 (o.to:Int),.int .i64 o.size,.int .i64 o.pl,.int .i64 o.count,.slice ao o.data.length cap] from rfl]
 go_enter Tryz.func48,Tryz.ntmps48
 go_wp2_with fail;refine CM.mono ?_;rintro e w2 ⟨rfl,hb2⟩;have HB2:=hid (bthen HB1.out hb2);have HX2:=hid ((hb2.block w.heap.size (hLT HX1.out)).trans HX1.out);have HD2:=hid (HD1.out.below hb2);clear c0 c1 c2 c3 c4 c5 c6 hw1 hb2 CM;have HB3:=HB2;obtain ⟨c0,c1,c2,c3,c4,c5,c6⟩:=op7 HX2.out;obtain ⟨q,hq⟩:∃ q,mayO o=q:=⟨_,rfl⟩
 have HQ:=hid hq;rw [hq];clear hq
 cases q with
 | false =>
  have HR:Hid (refD (mapA (·.1) l) o=2):=hid (by unfold refD;rw [if_pos HQ.out]);go_wp2_with fail;go_ret;exact ⟨by first | (rw [HR.out];rfl) | rw [HR.out],HB3.out⟩
 | true =>
  have CF:=rfind_any n0 w2 B sv l HD2.out o.vol;go_wp2_with fail;refine CF.mono ?_;rintro e w3 ⟨rfl,rfl⟩;clear CF;have HGM:Hid (getA o.vol (mapA (·.1) l)=(getA o.vol l).map (·.1)):=hid (getA_map _ _ _);have hkk:=may_kind HQ.out
  by_cases h8:o.k=8
  ·have HR:Hid (refD (mapA (·.1) l) o=0):=hid (by unfold refD;rw [if_neg (by rw [HQ.out];simp),if_pos h8])
   have g8:(o.k == 8)=true:=by simp [h8]
   clear h8;go_wp2_with fail;go_ret;exact ⟨by first | (rw [HR.out];rfl) | rw [HR.out],HB3.out⟩
  have g8:=bneI h8
  rcases find_case o.vol l with ⟨i,a,hf,hi,hg⟩ | ⟨hf,hg⟩
  ·rw [hf]
   have HI:=hid hi;have HG:=hid hg;clear hf hi hg
   by_cases h1:o.k=1
   ·have HR:Hid (refD (mapA (·.1) l) o=7):=hid (by unfold refD;rw [if_neg (by rw [HQ.out];simp),if_neg h8,if_pos h1,HGM.out,HG.out];rfl)
    have g1:(o.k == 1)=true:=by simp [h1]
    clear h8 h1;go_wp2_with fail;go_ret;exact ⟨by first | (rw [HR.out];rfl) | rw [HR.out],HB3.out⟩
   have g1:=bneI h1;obtain ⟨g,cap2,rfl,hc1,hc2,e0,e1,e2⟩:=HD2.out.at_ HI.out;have hbc:=HD2.out.cell;have hln:i<l.length:=(List.getElem?_eq_some_iff.1 HI.out).1;have hs1:a.1.size≤256:=HSZ.out _ (List.mem_of_getElem? HI.out);have hR0:refD (mapA (·.1) l) o=if o.k=4 then (if (getA o.to (mapA (·.1) l)).isSome then 7 else 0)
    else if o.k=5∨o.k=6∨o.k=9 then (if 4 * (a.1.size:Int)<o.pl+rowC o then 5 else 0)
    else if o.k=7 then (if (a.1.size:Int)<o.pl+o.count then 5 else 0) else 0:=by
     unfold refD;rw [if_neg (by rw [HQ.out];simp),if_neg h8,if_neg h1,HGM.out,HG.out]
     rfl
   have HR0:=hid hR0;obtain ⟨n,hn'⟩:∃ n,l.length=n:=⟨_,rfl⟩
   rw [hn'] at hbc hln hc1;dsimp only at e1;obtain ⟨sz,hsz⟩:∃ s,a.1.size=s:=⟨_,rfl⟩
   rw [hsz] at e1 hs1 HR0;clear hR0 hn' hsz e0 e2
   by_cases h4:o.k=4
   ·have g4:(o.k == 4)=true:=by simp [h4]
    have HR1:Hid (refD (mapA (·.1) l) o=if (getA o.to (mapA (·.1) l)).isSome then 7 else 0):=hid (by rw [HR0.out,if_pos h4]);have CF2:=rfind_any n0 w2 B _ l HD2.out o.to;clear h4 h1 h8;go_wp2_with fail;refine CF2.mono ?_;rintro e w3 ⟨rfl,rfl⟩;clear CF2
    rcases find_case o.to l with ⟨i2,a2,hf,hi,hg⟩ | ⟨hf,hg⟩
    ·rw [hf]
     have HR:Hid (refD (mapA (·.1) l) o=7):=hid (by rw [HR1.out,getA_map,hg];rfl);clear hf hi hg;go_wp2_with fail;go_ret;exact ⟨by first | (rw [HR.out];rfl) | rw [HR.out],HB3.out⟩
    ·rw [hf]
     have HR:Hid (refD (mapA (·.1) l) o=0):=hid (by rw [HR1.out,getA_map,hg];rfl);clear hf hg;go_wp2_with fail;go_ret;exact ⟨by first | (rw [HR.out];rfl) | rw [HR.out],HB3.out⟩
   have g4:=bneI h4
   by_cases h5:o.k=5
   ·have g5:(o.k == 5)=true:=by simp [h5]
    obtain ⟨hp1,hp2⟩:=may_pl HQ.out (.inl h5);have hdl:=(may_data HQ.out h5).2.2;have HR1:Hid (refD (mapA (·.1) l) o=if 4 * (sz:Int)<o.pl+(o.data.length:Int) / 64 then 5 else 0):=hid (by rw [HR0.out,if_neg h4,if_pos (.inl h5)];unfold rowC;rw [if_pos h5]);obtain ⟨dl,hdl2⟩:∃ dl,o.data.length=dl:=⟨_,rfl⟩
    rw [hdl2] at c6 HR1 hdl
    by_cases hr:4 * (sz:Int)<o.pl+(dl:Int) / 64
    ·have HR:Hid (refD (mapA (·.1) l) o=5):=hid (by rw [HR1.out,if_pos hr])
     have gr:decide (4 * (sz:Int)<o.pl+(dl:Int) / 64)=true:=decide_eq_true hr;clear h8 h1 h4 h5 hr hdl2;go_wp2_with fail;go_ret;exact ⟨by first | (rw [HR.out];rfl) | rw [HR.out],HB3.out⟩
    ·have HR:Hid (refD (mapA (·.1) l) o=0):=hid (by rw [HR1.out,if_neg hr])
     have gr:decide (4 * (sz:Int)<o.pl+(dl:Int) / 64)=false:=decide_eq_false hr;clear h8 h1 h4 h5 hr hdl2;go_wp2_with fail;go_ret;exact ⟨by first | (rw [HR.out];rfl) | rw [HR.out],HB3.out⟩
   have g5:=bneI h5
   by_cases h69:o.k=6∨o.k=9
   ·obtain ⟨hp1,hp2⟩:=may_pl HQ.out (by omega)
    obtain ⟨hq1,hq2⟩:=may_count HQ.out (by omega);have HR1:Hid (refD (mapA (·.1) l) o=if 4 * (sz:Int)<o.pl+o.count then 5 else 0):=hid (by rw [HR0.out,if_neg h4,if_pos (.inr h69)];unfold rowC;rw [if_neg h5])
    by_cases hr:4 * (sz:Int)<o.pl+o.count
    ·have HR:Hid (refD (mapA (·.1) l) o=5):=hid (by rw [HR1.out,if_pos hr])
     have gr:decide (4 * (sz:Int)<o.pl+o.count)=true:=decide_eq_true hr
     rcases h69 with h6 | h9
     ·have g6:(o.k == 6)=true:=by simp [h6]
      clear h8 h1 h4 h5 hr h6;go_wp2_with fail;go_ret;exact ⟨by first | (rw [HR.out];rfl) | rw [HR.out],HB3.out⟩
     ·have g6:(o.k == 6)=false:=by simp [h9]
      have g9:(o.k == 9)=true:=by simp [h9]
      clear h8 h1 h4 h5 hr h9;go_wp2_with fail;go_ret;exact ⟨by first | (rw [HR.out];rfl) | rw [HR.out],HB3.out⟩
    ·have HR:Hid (refD (mapA (·.1) l) o=0):=hid (by rw [HR1.out,if_neg hr])
     have gr:decide (4 * (sz:Int)<o.pl+o.count)=false:=decide_eq_false hr
     rcases h69 with h6 | h9
     ·have g6:(o.k == 6)=true:=by simp [h6]
      clear h8 h1 h4 h5 hr h6;go_wp2_with fail;go_ret;exact ⟨by first | (rw [HR.out];rfl) | rw [HR.out],HB3.out⟩
     ·have g6:(o.k == 6)=false:=by simp [h9]
      have g9:(o.k == 9)=true:=by simp [h9]
      clear h8 h1 h4 h5 hr h9;go_wp2_with fail;go_ret;exact ⟨by first | (rw [HR.out];rfl) | rw [HR.out],HB3.out⟩
   have g6:(o.k == 6)=false:=bneI (fun h=>h69 (.inl h));have g9:(o.k == 9)=false:=bneI (fun h=>h69 (.inr h))
   by_cases h7:o.k=7
   ·have g7:(o.k == 7)=true:=by simp [h7]
    obtain ⟨hp1,hp2⟩:=may_pl HQ.out (by omega);obtain ⟨hq1,hq2⟩:=may_count HQ.out (by omega);have HR1:Hid (refD (mapA (·.1) l) o=if (sz:Int)<o.pl+o.count then 5 else 0):=hid (by rw [HR0.out,if_neg h4,if_neg (by omega),if_pos h7])
    by_cases hr:(sz:Int)<o.pl+o.count
    ·have HR:Hid (refD (mapA (·.1) l) o=5):=hid (by rw [HR1.out,if_pos hr])
     have gr:decide ((sz:Int)<o.pl+o.count)=true:=decide_eq_true hr;clear h8 h1 h4 h5 h69 h7 hr;go_wp2_with fail;go_ret;exact ⟨by first | (rw [HR.out];rfl) | rw [HR.out],HB3.out⟩
    ·have HR:Hid (refD (mapA (·.1) l) o=0):=hid (by rw [HR1.out,if_neg hr])
     have gr:decide ((sz:Int)<o.pl+o.count)=false:=decide_eq_false hr;clear h8 h1 h4 h5 h69 h7 hr;go_wp2_with fail;go_ret;exact ⟨by first | (rw [HR.out];rfl) | rw [HR.out],HB3.out⟩
   ·have g7:=bneI h7
    have HR:Hid (refD (mapA (·.1) l) o=0):=hid (by rw [HR0.out,if_neg h4,if_neg (by omega),if_neg h7]);clear h8 h1 h4 h5 h69 h7;go_wp2_with fail;go_ret;exact ⟨by first | (rw [HR.out];rfl) | rw [HR.out],HB3.out⟩
  ·rw [hf]
   have HG:=hid hg;clear hf hg
   by_cases h1:o.k=1
   ·have HR:Hid (refD (mapA (·.1) l) o=0):=hid (by unfold refD;rw [if_neg (by rw [HQ.out];simp),if_neg h8,if_pos h1,HGM.out,HG.out];rfl)
    have g1:(o.k == 1)=true:=by simp [h1]
    clear h8 h1;go_wp2_with fail;go_ret;exact ⟨by first | (rw [HR.out];rfl) | rw [HR.out],HB3.out⟩
   ·have HR:Hid (refD (mapA (·.1) l) o=6):=hid (by unfold refD;rw [if_neg (by rw [HQ.out];simp),if_neg h8,if_neg h1,HGM.out,HG.out];rfl)
    have g1:=bneI h1;clear h8 h1;go_wp2_with fail;go_ret;exact ⟨by first | (rw [HR.out];rfl) | rw [HR.out],HB3.out⟩
end Go.Proofs.YthkmihedkddnmaaGreat
