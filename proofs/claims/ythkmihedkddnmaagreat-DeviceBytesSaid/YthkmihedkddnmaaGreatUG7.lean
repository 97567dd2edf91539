import Derived.Sort.WalkD2
import Derived.Test.YthkmihedkddnmaaGreatUG6
import Derived.Sort.WalkC
set_option linter.unusedVariables false
set_option linter.unusedSimpArgs false
set_option maxHeartbeats 1600000
set_option maxRecDepth 100000
namespace Go.Proofs.YthkmihedkddnmaaGreat
open Lib (hid)
open Go.RowKit Go.Sort
theorem rev64 (blk off cap a b:Nat) (d:Array Int) (w:World) (hH:Holds e64 w blk off d) (hab:a<b) (hb:b≤d.size) (hsz:d.size<4611686018427387904) :
  Calls Tryz.prog 130 #[.slice (some ⟨blk,off,none⟩) d.size cap,.int .i64 (a:Int),.int .i64 (b:Int)] w fun e w'=>e = .returned (.tuple #[])∧∃ n,w'=putRow e64 (Sort.ahead w n) blk off (Sort.reverseRange d a b):=by
 have eb:(b:Int) - 1=((b - 1:Nat):Int):=by omega
 go_enter Tryz.func130,Tryz.ntmps130
 go_wp2
 go_loopw [6,7] (fun i j wr=>∃ (p q n:Nat) (x:Array Int),i = .int .i64 (p:Int)∧j = .int .i64 (q:Int)∧p≤b∧q<b∧x.size=d.size∧wr=putRow e64 (Sort.ahead w n) blk off x∧reverseLoop p q x=reverseLoop a (b - 1) d) (fun _ j _=>(Go.Proofs.intOf j).toNat)
 case atStart=>exact ⟨a,b - 1,0,d,rfl,by first | rfl | rw [eb],by omega,by omega,rfl,(putRow_self _ _ _ _ _ hH).symm,rfl⟩
 case round =>
  obtain ⟨p,q,m,x,rfl,rfl,hp,hq,hx,hwr,hout⟩:=hrel;have HO:=hid hout;have HW:=hid hwr;obtain ⟨G,hG,hcw,hfw⟩:=row64 hH hx hwr;have HG:=hid hG;clear hout hwr hG
  by_cases hpq:p<q
  ·have q0:decide ((p:Int)<(q:Int))=true:=decide_eq_true (by omega)
   go_wp2_with fail
   go_region
   all_goals go_wp2_with fail
   go_roundw
   case rel =>
    refine ⟨p+1,q - 1,m+1,swp x p q,by go_num,by congr 1;omega,by omega,by omega,by rw [size_swp];exact hx,?_,?_⟩
    ·rw [HG.out,HG.out]
     exact swap64 HW.out 1 p q (by omega) (by omega)
    ·rw [← HO.out]
     conv=>rhs;rw [reverseLoop,if_pos hpq]
   case measure=>simp [Go.Proofs.intOf];omega
  ·have q0:decide ((p:Int)<(q:Int))=false:=decide_eq_false (by omega)
   have e1:reverseLoop p q x=x:=by rw [reverseLoop,if_neg hpq]
   go_wp2_with fail
   go_end0
   exact ⟨rfl,m,by unfold Sort.reverseRange;rw [← HO.out,e1];exact HW.out⟩
abbrev eC:Int→Value:=Value.int .i64
theorem ord64 (blk off cap a b sb so s:Nat) (d:Array Int) (w:World) (hH:Holds e64 w blk off d) (ha:a<d.size) (hb:b<d.size) (hsz:d.size<4611686018427387904) (h1:Holds (Value.int .i64) w sb so (one s)) (hs:s<1000) :
  Calls Tryz.prog 156 #[.slice (some ⟨blk,off,none⟩) d.size cap,.int .i64 (a:Int),.int .i64 (b:Int),.pointer (some ⟨sb,so,none⟩)] w fun e w' =>
   e = .returned (.tuple #[.int .i64 ((order2 ltInt d a b s).1:Nat),.int .i64 ((order2 ltInt d a b s).2.1:Nat)])∧∃ n,w'=putRow (Value.int .i64) (Sort.ahead w n) sb so (one (order2 ltInt d a b s).2.2):=by
 obtain ⟨G,hG,hcw,hfw⟩:=row64 (m:=0) hH rfl (putRow_self _ _ _ _ _ hH).symm;have HG:=hid hG;obtain ⟨c1,f1⟩:=one_cell h1;have HONE:=hid h1;clear hG
 go_enter Tryz.func156,Tryz.ntmps156
 go_wp2
 go_quiet (first | (go_at_call 132;refine Calls.quiet_of_same (less64 _ _ _)))
 cases hl:ltInt (G b) (G a) with
 | true =>
  have e1:order2 ltInt d a b s=(b,a,s+1):=by unfold order2;rw [← HG.out,← HG.out,if_pos hl]
  have HE1:=hid e1;clear e1;have hwr:IntKind.i64.wrap ((s:Int)+1)=(s:Int)+1:=IntWalk.i64_in _ (by omega);go_wp2_with fail
  go_ret2
  rw [HE1.out];exact ⟨rfl,nq,one_set (holds_ahead _ w nq sb so _ HONE.out) (s+1)⟩
 | false =>
  have e1:order2 ltInt d a b s=(a,b,s):=by unfold order2;rw [← HG.out,← HG.out,if_neg (by rw [hl];simp)]
  have HE1:=hid e1;clear e1;go_wp2_with fail
  go_ret2
  rw [HE1.out];exact ⟨rfl,nq,(putRow_self _ _ _ _ _ (holds_ahead _ w nq sb so _ HONE.out)).symm⟩
theorem aside64 {w:World} {blk off sb so n t:Nat} {d:Array Int} (h:Holds e64 w blk off d) (hne:sb≠blk):Holds e64 (putRow (Value.int .i64) (Sort.ahead w n) sb so (one t)) blk off d:=fun j hj =>
 ⟨by rw [cell?_putRow_other _ _ _ _ _ _ (Or.inl (Ne.symm hne))];exact (h j hj).1,by rw [frozen?_putRow];exact (h j hj).2⟩
theorem med64 (blk off cap a b c sb so s:Nat) (d:Array Int) (w:World) (hH:Holds e64 w blk off d) (ha:a<d.size) (hb:b<d.size) (hc:c<d.size) (hsz:d.size<4611686018427387904) (h1:Holds (Value.int .i64) w sb so (one s)) (hne:sb≠blk) (hs:s<900) :
  Calls Tryz.prog 147 #[.slice (some ⟨blk,off,none⟩) d.size cap,.int .i64 (a:Int),.int .i64 (b:Int),.int .i64 (c:Int),.pointer (some ⟨sb,so,none⟩)] w fun e w' =>
   e = .returned (.int .i64 ((median ltInt d a b c s).1:Nat))∧(median ltInt d a b c s).1<d.size∧(median ltInt d a b c s).2≤s+3∧∃ n,w'=putRow (Value.int .i64) (Sort.ahead w n) sb so (one (median ltInt d a b c s).2):=by
 have HH:=hid hH;have C1:=ord64 blk off cap a b sb so s d w hH ha hb hsz h1 (by omega);obtain ⟨l1,l2⟩:=order2_lt d (a:=a) (b:=b) s ha hb;have l3:=order2_swaps d a b s
 have HM:Hid (median ltInt d a b c s=((order2 ltInt d (order2 ltInt d a b s).1 (order2 ltInt d (order2 ltInt d a b s).2.1 c (order2 ltInt d a b s).2.2).1 (order2 ltInt d (order2 ltInt d a b s).2.1 c (order2 ltInt d a b s).2.2).2.2).2.1,(order2 ltInt d (order2 ltInt d a b s).1 (order2 ltInt d (order2 ltInt d a b s).2.1 c (order2 ltInt d a b s).2.2).1 (order2 ltInt d (order2 ltInt d a b s).2.1 c (order2 ltInt d a b s).2.2).2.2).2.2)):=hid rfl;rw [HM.out];obtain ⟨⟨x1,x2,x3⟩,hr1⟩:∃ r,order2 ltInt d a b s=r:=⟨_,rfl⟩
 rw [hr1] at C1 l1 l2 l3 ⊢;dsimp only at C1 l1 l2 l3 ⊢;obtain ⟨k1,k2⟩:=order2_lt d (a:=x2) (b:=c) x3 l2 hc;have k3:=order2_swaps d x2 c x3;obtain ⟨⟨y1,y2,y3⟩,hr2⟩:∃ r,order2 ltInt d x2 c x3=r:=⟨_,rfl⟩
 have HR2:=hid hr2;rw [hr2] at k1 k2 k3 ⊢;dsimp only at k1 k2 k3 ⊢;obtain ⟨j1,j2⟩:=order2_lt d (a:=x1) (b:=y1) y3 l1 k1;have j3:=order2_swaps d x1 y1 y3;obtain ⟨⟨z1,z2,z3⟩,hr3⟩:∃ r,order2 ltInt d x1 y1 y3=r:=⟨_,rfl⟩
 have HR3:=hid hr3;rw [hr3] at j1 j2 j3 ⊢;dsimp only at j1 j2 j3 ⊢;have HONE:=hid h1;clear hr1 hr2 hr3 HM hH h1
 go_enter Tryz.func147,Tryz.ntmps147
 go_wp2_with fail;refine C1.mono ?_;rintro e w1 ⟨rfl,n1,hw1⟩;have HW1:=hid hw1;have C2:=ord64 blk off cap x2 c sb so x3 d w1 (by rw [hw1];exact aside64 HH.out hne) l2 hc hsz (by rw [hw1];exact holds_one HONE.out) (by omega);rw [HR2.out] at C2;dsimp only at C2;clear hw1 C1;go_wp2_with fail;refine C2.mono ?_;rintro e w2 ⟨rfl,n2,hw2⟩;have HW2:Hid (w2=putRow (Value.int .i64) (Sort.ahead w (n1+n2)) sb so (one y3)):=hid (by rw [hw2,HW1.out,one_one])
 have C3:=ord64 blk off cap x1 y1 sb so y3 d w2 (by rw [HW2.out];exact aside64 HH.out hne) l1 k1 hsz (by rw [HW2.out];exact holds_one HONE.out) (by omega);rw [HR3.out] at C3;dsimp only at C3;clear hw2 C2;go_wp2_with fail;refine C3.mono ?_;rintro e w3 ⟨rfl,n3,hw3⟩;have HW3:Hid (w3=putRow (Value.int .i64) (Sort.ahead w (n1+n2+n3)) sb so (one z3)):=hid (by rw [hw3,HW2.out,one_one]);clear hw3 C3;go_wp2_with fail;go_ret;exact ⟨rfl,j2,by omega,_,HW3.out⟩
theorem adj64 (blk off cap a sb so s:Nat) (d:Array Int) (w:World) (hH:Holds e64 w blk off d) (h0:1≤a) (ha:a+1<d.size) (hsz:d.size<4611686018427387904) (h1:Holds (Value.int .i64) w sb so (one s)) (hne:sb≠blk) (hs:s<900) :
  Calls Tryz.prog 146 #[.slice (some ⟨blk,off,none⟩) d.size cap,.int .i64 (a:Int),.pointer (some ⟨sb,so,none⟩)] w fun e w' =>
   e = .returned (.int .i64 ((medianAdjacent ltInt d a s).1:Nat))∧(medianAdjacent ltInt d a s).1<d.size∧(medianAdjacent ltInt d a s).2≤s+3∧∃ n,w'=putRow (Value.int .i64) (Sort.ahead w n) sb so (one (medianAdjacent ltInt d a s).2):=by
 have C:=med64 blk off cap (a - 1) a (a+1) sb so s d w hH (by omega) (by omega) (by omega) hsz h1 hne hs;rw [show median ltInt d (a - 1) a (a+1) s=medianAdjacent ltInt d a s from rfl,show ((a - 1:Nat):Int)=(a:Int) - 1 by omega,show ((a+1:Nat):Int)=(a:Int)+1 by omega] at C;clear hH h1
 go_enter Tryz.func146,Tryz.ntmps146
 go_wp2_with fail;refine C.mono ?_;rintro e w1 ⟨rfl,h2,h3,h4⟩;go_wp2_with fail;go_ret;exact ⟨rfl,h2,h3,h4⟩
end Go.Proofs.YthkmihedkddnmaaGreat
namespace Go.Proofs.YthkmihedkddnmaaGreat
open Lib (hid)
open Go.RowKit Go.Sort
theorem swc64 {blk off m:Nat} {d y:Array Int} {w wr:World} {G:Nat→Int} (hH:Holds e64 w blk off d) (hy:y.size=d.size) (hwr:wr=putRow e64 (Sort.ahead w m) blk off y) (hG:∀ t,G t=y[t]!) {i j:Nat} (hi:i<d.size) (hj:j<d.size) :
  (wr.setCell ⟨blk,off+i,none⟩ (.int .u64 (G j))).cell? ⟨blk,off+j,none⟩=some (.int .u64 (G j)):=by
 rw [hwr,hG,show Value.int .u64 y[j]! = e64 y[j]! from rfl,putRow_set _ _ _ _ _ _ _ (by omega),cell?_putRow _ _ _ _ d _ (holds_ahead _ _ _ _ _ _ hH) (by simpa using hy) _ (by simp;omega)]
 by_cases h0:j=i
 ·subst h0
  rw [getElem!_set_same _ _ _ (by omega)]
 ·rw [getElem!_set_other _ _ _ _ h0]
theorem peq64 (blk off cap a b pivot:Nat) (d:Array Int) (w:World) (hH:Holds e64 w blk off d) (hap:a≤pivot) (hpb:pivot<b) (hb:b≤d.size) (hsz:d.size<4611686018427387904) :
  Calls Tryz.prog 133 #[.slice (some ⟨blk,off,none⟩) d.size cap,.int .i64 (a:Int),.int .i64 (b:Int),.int .i64 (pivot:Int)] w fun e w' =>
   e = .returned (.int .i64 ((partitionEqual ltInt d a b pivot).1:Nat))∧∃ n,w'=putRow e64 (Sort.ahead w n) blk off (partitionEqual ltInt d a b pivot).2:=by
 have eb:(b:Int) - 1=((b - 1:Nat):Int):=by omega
 obtain ⟨G0,hG0,hcw0,hfw0⟩:=row64 (m:=0) hH rfl (putRow_self _ _ _ _ _ hH).symm;have hc2:=swc64 (m:=0) hH rfl (putRow_self _ _ _ _ _ hH).symm hG0 (i:=a) (j:=pivot) (by omega) (by omega);have HG0:=hid hG0;clear hG0
 go_enter Tryz.func133,Tryz.ntmps133
 go_wp2_with fail
 go_region
 all_goals go_wp2_with fail
 obtain ⟨w1,hw1⟩:∃ W,((w.setCell ⟨blk,off+a,none⟩ (.int .u64 (G0 pivot))).setCell ⟨blk,off+pivot,none⟩ (.int .u64 (G0 a))).drew=W:=⟨_,rfl⟩
 rw [hw1];have HW1:Hid (w1=putRow e64 (Sort.ahead w (0+1)) blk off (swp d a pivot)):=hid (by
  rw [← hw1,HG0.out,HG0.out];exact swap64 (putRow_self _ _ _ _ _ hH).symm 1 a pivot (by omega) (by omega))
 clear hw1 hc2 hcw0 hfw0
 go_loopw [9,10] (fun u v wr=>∃ (i j n:Nat) (x:Array Int),u = .int .i64 (i:Int)∧v = .int .i64 (j:Int)∧a+1≤i∧i≤j+1∧a≤j∧j<b∧x.size=d.size∧wr=putRow e64 (Sort.ahead w n) blk off x∧partEqLoop ltInt a i j x=partEqLoop ltInt a (a+1) (b - 1) (swp d a pivot)) (fun _ v _=>(Go.Proofs.intOf v).toNat)
 case atStart=>exact ⟨a+1,b - 1,0+1,swp d a pivot,by go_num,by first | rfl | rw [eb],by omega,by omega,by omega,by omega,size_swp ..,HW1.out,rfl⟩
 case round =>
  obtain ⟨i,j,m,x,rfl,rfl,h1,h2,h3,h4,hx,hwr,hout⟩:=hrel;have HO:=hid hout;have HW:=hid hwr;obtain ⟨G,hG,hcw,hfw⟩:=row64 hH hx hwr;have HG:=hid hG;clear hout hwr hG;go_wp2_with fail
  go_loopw [9] (fun v wx=>∃ (p nn:Nat),v = .int .i64 (p:Int)∧i≤p∧p≤j+1∧wx=putRow e64 (Sort.ahead w nn) blk off x∧scanUp (fun y => !ltInt x[a]! y) x j p=scanUp (fun y => !ltInt x[a]! y) x j i) (fun v _=>j+1 - (Go.Proofs.intOf v).toNat)
  case atStart=>exact ⟨i,m,rfl,Nat.le_refl _,h2,HW.out,rfl⟩
  case round =>
   obtain ⟨i2,nn,rfl,hp1,hp2,hwx,hsu⟩:=hrel;have HSU:=hid hsu;have HWX:=hid hwx;clear hwx hsu hcw hfw;obtain ⟨hcw,hfw⟩:=rowG64 hH hx HWX.out HG.out
   by_cases hle:i2≤j
   ·have q2:decide ((i2:Int)≤(j:Int))=true:=decide_eq_true (by omega)
    go_wp2_with fail
    go_quiet (first | (go_at_call 132;refine Calls.quiet_of_same (less64 _ _ _)))
    cases hl:ltInt (G a) (G i2) with
    | false =>
     have HSG:=hid (scanUp_go (fun y => !ltInt x[a]! y) x j i2 hle (by rw [← HG.out,← HG.out,hl];rfl));go_wp2_with fail;go_roundw
     case rel=>exact ⟨i2+1,nn+nq,by go_num,by omega,by omega,drew64 HWX.out nq,by rw [← HSG.out];exact HSU.out⟩
     case measure=>simp [Go.Proofs.intOf];omega
    | true =>
     have HI2:Hid (i2=scanUp (fun y => !ltInt x[a]! y) x j i):=hid (by rw [← HSU.out];exact (scanUp_end (fun y => !ltInt x[a]! y) x j i2 (.inr (by rw [← HG.out,← HG.out,hl];rfl))).symm);obtain ⟨wA,hwA⟩:∃ W,wr.drewN nq=W:=⟨_,rfl⟩
     obtain ⟨mA,hmA⟩:∃ m,nn+nq=m:=⟨_,rfl⟩
     have HWA:Hid (wA=putRow e64 (Sort.ahead w mA) blk off x):=hid (by rw [← hwA,← hmA];exact drew64 HWX.out nq);rw [hwA];clear hwA hmA;go_wp2_with fail
     go_loopw [10] (fun v wx=>∃ (q nn:Nat),v = .int .i64 (q:Int)∧q≤j∧i2≤q+1∧wx=putRow e64 (Sort.ahead w nn) blk off x∧scanDown (fun y=>ltInt x[a]! y) x i2 q=scanDown (fun y=>ltInt x[a]! y) x i2 j) (fun v _=>(Go.Proofs.intOf v).toNat)
     case atStart=>exact ⟨j,mA,rfl,Nat.le_refl _,by omega,HWA.out,rfl⟩
     case round =>
      obtain ⟨j2,nn,rfl,hq1,hq2,hwx,hsd⟩:=hrel;have HSD:=hid hsd;have HWX:=hid hwx;clear hwx hsd hcw hfw;obtain ⟨hcw,hfw⟩:=rowG64 hH hx HWX.out HG.out
      by_cases hle:i2≤j2
      ·have q2:decide ((i2:Int)≤(j2:Int))=true:=decide_eq_true (by omega)
       go_wp2_with fail
       go_quiet (first | (go_at_call 132;refine Calls.quiet_of_same (less64 _ _ _)))
       cases hl:ltInt (G a) (G j2) with
       | true =>
        have HSG:=hid (scanDown_go (fun y=>ltInt x[a]! y) x i2 j2 hle (by omega) (by rw [← HG.out,← HG.out];exact hl));go_wp2_with fail;go_roundw
        case rel=>exact ⟨j2 - 1,nn+nq,by congr 1;omega,by omega,by omega,drew64 HWX.out nq,by rw [← HSG.out];exact HSD.out⟩
        case measure=>simp [Go.Proofs.intOf];omega
       | false =>
        have HJ2:Hid (j2=scanDown (fun y=>ltInt x[a]! y) x i2 j):=hid (by rw [← HSD.out];exact (scanDown_end (fun y=>ltInt x[a]! y) x i2 j2 (.inr (by rw [← HG.out,← HG.out];exact hl))).symm);obtain ⟨wB,hwB⟩:∃ W,wr.drewN nq=W:=⟨_,rfl⟩
        obtain ⟨mB,hmB⟩:∃ m,nn+nq=m:=⟨_,rfl⟩
        have HWB:Hid (wB=putRow e64 (Sort.ahead w mB) blk off x):=hid (by rw [← hwB,← hmB];exact drew64 HWX.out nq);rw [hwB];clear hwB hmB;clear hcw hfw;obtain ⟨hcw,hfw⟩:=rowG64 hH hx HWB.out HG.out
        by_cases hbr:j2<i2
        ·have q3:decide ((i2:Int) > (j2:Int))=true:=decide_eq_true (by omega)
         have HE:=hid (partEq_break ltInt a i j x HI2.out HJ2.out hbr);go_wp2_with fail;go_ret;unfold Sort.partitionEqual;rw [← HO.out,HE.out];exact ⟨rfl,mB,HWB.out⟩
        ·have q3:decide ((i2:Int) > (j2:Int))=false:=decide_eq_false (by omega)
         have hij:=scans_lt ltInt a i j x (by omega) HI2.out HJ2.out (by omega);have HE:=hid (partEq_go ltInt a i j x HI2.out HJ2.out hbr);have hA:i2<d.size:=by omega
         have hB:j2<d.size:=by omega
         have k1:=hcw i2 hA;have k2:=hcw j2 hB;have f1:=hfw i2 hA;have f2:=hfw j2 hB;have hc3:=swc64 hH hx HWB.out HG.out hA hB;go_wp2_with fail
         go_region
         all_goals go_wp2_with fail
         all_goals
          go_round
          case rel =>
           refine ⟨i2+1,j2 - 1,mB+1,swp x i2 j2,by go_num,by congr 1;omega,by omega,by omega,by omega,by omega,by rw [size_swp];exact hx,?_,by rw [← HE.out];exact HO.out⟩;rw [HG.out,HG.out];exact swap64 HWB.out 1 i2 j2 (by omega) (by omega)
          case measure=>simp [Go.Proofs.intOf];omega
      ·have q2:decide ((i2:Int)≤(j2:Int))=false:=decide_eq_false (by omega)
       go_wp2_with fail
       go_quiet (first | (go_at_call 132;refine Calls.quiet_of_same (less64 _ _ _)))
       have HJ2:Hid (j2=scanDown (fun y=>ltInt x[a]! y) x i2 j):=hid (by rw [← HSD.out];exact (scanDown_end (fun y=>ltInt x[a]! y) x i2 j2 (.inl hle)).symm);obtain ⟨wB,hwB⟩:∃ W,wr.drewN nq=W:=⟨_,rfl⟩
       obtain ⟨mB,hmB⟩:∃ m,nn+nq=m:=⟨_,rfl⟩
       have HWB:Hid (wB=putRow e64 (Sort.ahead w mB) blk off x):=hid (by rw [← hwB,← hmB];exact drew64 HWX.out nq);rw [hwB];clear hwB hmB;clear hcw hfw;obtain ⟨hcw,hfw⟩:=rowG64 hH hx HWB.out HG.out
       by_cases hbr:j2<i2
       ·have q3:decide ((i2:Int) > (j2:Int))=true:=decide_eq_true (by omega)
        have HE:=hid (partEq_break ltInt a i j x HI2.out HJ2.out hbr);go_wp2_with fail;go_ret;unfold Sort.partitionEqual;rw [← HO.out,HE.out];exact ⟨rfl,mB,HWB.out⟩
       ·have q3:decide ((i2:Int) > (j2:Int))=false:=decide_eq_false (by omega)
        have hij:=scans_lt ltInt a i j x (by omega) HI2.out HJ2.out (by omega);have HE:=hid (partEq_go ltInt a i j x HI2.out HJ2.out hbr);have hA:i2<d.size:=by omega
        have hB:j2<d.size:=by omega
        have k1:=hcw i2 hA;have k2:=hcw j2 hB;have f1:=hfw i2 hA;have f2:=hfw j2 hB;have hc3:=swc64 hH hx HWB.out HG.out hA hB;go_wp2_with fail
        go_region
        all_goals go_wp2_with fail
        all_goals
         go_round
         case rel =>
          refine ⟨i2+1,j2 - 1,mB+1,swp x i2 j2,by go_num,by congr 1;omega,by omega,by omega,by omega,by omega,by rw [size_swp];exact hx,?_,by rw [← HE.out];exact HO.out⟩;rw [HG.out,HG.out];exact swap64 HWB.out 1 i2 j2 (by omega) (by omega)
         case measure=>simp [Go.Proofs.intOf];omega
   ·have q2:decide ((i2:Int)≤(j:Int))=false:=decide_eq_false (by omega)
    go_wp2_with fail
    go_quiet (first | (go_at_call 132;refine Calls.quiet_of_same (less64 _ _ _)))
    have HI2:Hid (i2=scanUp (fun y => !ltInt x[a]! y) x j i):=hid (by rw [← HSU.out];exact (scanUp_end (fun y => !ltInt x[a]! y) x j i2 (.inl hle)).symm);obtain ⟨wA,hwA⟩:∃ W,wr.drewN nq=W:=⟨_,rfl⟩
    obtain ⟨mA,hmA⟩:∃ m,nn+nq=m:=⟨_,rfl⟩
    have HWA:Hid (wA=putRow e64 (Sort.ahead w mA) blk off x):=hid (by rw [← hwA,← hmA];exact drew64 HWX.out nq);rw [hwA];clear hwA hmA;go_wp2_with fail
    go_loopw [10] (fun v wx=>∃ (q nn:Nat),v = .int .i64 (q:Int)∧q≤j∧i2≤q+1∧wx=putRow e64 (Sort.ahead w nn) blk off x∧scanDown (fun y=>ltInt x[a]! y) x i2 q=scanDown (fun y=>ltInt x[a]! y) x i2 j) (fun v _=>(Go.Proofs.intOf v).toNat)
    case atStart=>exact ⟨j,mA,rfl,Nat.le_refl _,by omega,HWA.out,rfl⟩
    case round =>
     obtain ⟨j2,nn,rfl,hq1,hq2,hwx,hsd⟩:=hrel;have HSD:=hid hsd;have HWX:=hid hwx;clear hwx hsd hcw hfw;obtain ⟨hcw,hfw⟩:=rowG64 hH hx HWX.out HG.out
     by_cases hle:i2≤j2
     ·have q2:decide ((i2:Int)≤(j2:Int))=true:=decide_eq_true (by omega)
      go_wp2_with fail
      go_quiet (first | (go_at_call 132;refine Calls.quiet_of_same (less64 _ _ _)))
      cases hl:ltInt (G a) (G j2) with
      | true =>
       have HSG:=hid (scanDown_go (fun y=>ltInt x[a]! y) x i2 j2 hle (by omega) (by rw [← HG.out,← HG.out];exact hl));go_wp2_with fail;go_roundw
       case rel=>exact ⟨j2 - 1,nn+nq,by congr 1;omega,by omega,by omega,drew64 HWX.out nq,by rw [← HSG.out];exact HSD.out⟩
       case measure=>simp [Go.Proofs.intOf];omega
      | false =>
       have HJ2:Hid (j2=scanDown (fun y=>ltInt x[a]! y) x i2 j):=hid (by rw [← HSD.out];exact (scanDown_end (fun y=>ltInt x[a]! y) x i2 j2 (.inr (by rw [← HG.out,← HG.out];exact hl))).symm);obtain ⟨wB,hwB⟩:∃ W,wr.drewN nq=W:=⟨_,rfl⟩
       obtain ⟨mB,hmB⟩:∃ m,nn+nq=m:=⟨_,rfl⟩
       have HWB:Hid (wB=putRow e64 (Sort.ahead w mB) blk off x):=hid (by rw [← hwB,← hmB];exact drew64 HWX.out nq);rw [hwB];clear hwB hmB;clear hcw hfw;obtain ⟨hcw,hfw⟩:=rowG64 hH hx HWB.out HG.out
       by_cases hbr:j2<i2
       ·have q3:decide ((i2:Int) > (j2:Int))=true:=decide_eq_true (by omega)
        have HE:=hid (partEq_break ltInt a i j x HI2.out HJ2.out hbr);go_wp2_with fail;go_ret;unfold Sort.partitionEqual;rw [← HO.out,HE.out];exact ⟨rfl,mB,HWB.out⟩
       ·have q3:decide ((i2:Int) > (j2:Int))=false:=decide_eq_false (by omega)
        have hij:=scans_lt ltInt a i j x (by omega) HI2.out HJ2.out (by omega);have HE:=hid (partEq_go ltInt a i j x HI2.out HJ2.out hbr);have hA:i2<d.size:=by omega
        have hB:j2<d.size:=by omega
        have k1:=hcw i2 hA;have k2:=hcw j2 hB;have f1:=hfw i2 hA;have f2:=hfw j2 hB;have hc3:=swc64 hH hx HWB.out HG.out hA hB;go_wp2_with fail
        go_region
        all_goals go_wp2_with fail
        all_goals
         go_round
         case rel =>
          refine ⟨i2+1,j2 - 1,mB+1,swp x i2 j2,by go_num,by congr 1;omega,by omega,by omega,by omega,by omega,by rw [size_swp];exact hx,?_,by rw [← HE.out];exact HO.out⟩;rw [HG.out,HG.out];exact swap64 HWB.out 1 i2 j2 (by omega) (by omega)
         case measure=>simp [Go.Proofs.intOf];omega
     ·have q2:decide ((i2:Int)≤(j2:Int))=false:=decide_eq_false (by omega)
      go_wp2_with fail
      go_quiet (first | (go_at_call 132;refine Calls.quiet_of_same (less64 _ _ _)))
      have HJ2:Hid (j2=scanDown (fun y=>ltInt x[a]! y) x i2 j):=hid (by rw [← HSD.out];exact (scanDown_end (fun y=>ltInt x[a]! y) x i2 j2 (.inl hle)).symm);obtain ⟨wB,hwB⟩:∃ W,wr.drewN nq=W:=⟨_,rfl⟩
      obtain ⟨mB,hmB⟩:∃ m,nn+nq=m:=⟨_,rfl⟩
      have HWB:Hid (wB=putRow e64 (Sort.ahead w mB) blk off x):=hid (by rw [← hwB,← hmB];exact drew64 HWX.out nq);rw [hwB];clear hwB hmB;clear hcw hfw;obtain ⟨hcw,hfw⟩:=rowG64 hH hx HWB.out HG.out
      by_cases hbr:j2<i2
      ·have q3:decide ((i2:Int) > (j2:Int))=true:=decide_eq_true (by omega)
       have HE:=hid (partEq_break ltInt a i j x HI2.out HJ2.out hbr);go_wp2_with fail;go_ret;unfold Sort.partitionEqual;rw [← HO.out,HE.out];exact ⟨rfl,mB,HWB.out⟩
      ·have q3:decide ((i2:Int) > (j2:Int))=false:=decide_eq_false (by omega)
       have hij:=scans_lt ltInt a i j x (by omega) HI2.out HJ2.out (by omega);have HE:=hid (partEq_go ltInt a i j x HI2.out HJ2.out hbr);have hA:i2<d.size:=by omega
       have hB:j2<d.size:=by omega
       have k1:=hcw i2 hA;have k2:=hcw j2 hB;have f1:=hfw i2 hA;have f2:=hfw j2 hB;have hc3:=swc64 hH hx HWB.out HG.out hA hB;go_wp2_with fail
       go_region
       all_goals go_wp2_with fail
       all_goals
        go_round
        case rel =>
         refine ⟨i2+1,j2 - 1,mB+1,swp x i2 j2,by go_num,by congr 1;omega,by omega,by omega,by omega,by omega,by rw [size_swp];exact hx,?_,by rw [← HE.out];exact HO.out⟩;rw [HG.out,HG.out];exact swap64 HWB.out 1 i2 j2 (by omega) (by omega)
        case measure=>simp [Go.Proofs.intOf];omega
end Go.Proofs.YthkmihedkddnmaaGreat
