import Derived.Sort.WalkA
import Derived.Test.YthkmihedkddnmaaGreatTG1
import Derived.Sort.WalkB3
import Derived.Sort.WalkB12
import Derived.Sort.WalkD2
import Derived.Sort.WalkC
set_option linter.unusedVariables false
set_option linter.unusedSimpArgs false
set_option maxHeartbeats 1600000
set_option maxRecDepth 100000
namespace Go.Proofs.YthkmihedkddnmaaGreat
open Lib (hid)
open Go.RowKit Go.Sort
abbrev e64:Int→Value:=Value.int .u64
theorem nan64 (x:Int) (w:World):Calls Tryz.prog 148 #[.int .u64 x] w fun e w'=>e = .returned (.bool false)∧w'=w:=by
 go_enter Tryz.func148,Tryz.ntmps148
 go_wp2;go_ret;exact ⟨by simp,rfl⟩
theorem less64 (x y:Int) (w:World):Calls Tryz.prog 132 #[.int .u64 x,.int .u64 y] w fun e w'=>e = .returned (.bool (ltInt x y))∧w'=w:=by
 go_enter Tryz.func132,Tryz.ntmps132
 go_wp2_with (go_at_call 148;refine (nan64 _ _).mono ?_;rintro e w' ⟨rfl,rfl⟩)
 go_ret;exact ⟨rfl,rfl⟩
theorem row64 {blk off m:Nat} {d y:Array Int} {w wr:World} (hH:Holds e64 w blk off d) (hy:y.size=d.size) (hwr:wr=putRow e64 (Sort.ahead w m) blk off y) :
  ∃ G:Nat→Int,(∀ t,G t=y[t]!)∧(∀ t,t<d.size→wr.cell? ⟨blk,off+t,none⟩=some (.int .u64 (G t)))∧(∀ t,t<d.size→wr.frozen? ⟨blk,off+t,none⟩=false):=by
 refine ⟨fun t=>y[t]!,fun _=>rfl,fun t ht => ?_,fun t ht => ?_⟩
 ·rw [hwr]
  exact cell?_putRow _ _ _ _ d y (holds_ahead _ _ _ _ _ _ hH) hy t (by omega)
 ·rw [hwr,frozen?_putRow]
  exact ((holds_ahead _ _ m _ _ _ hH) t ht).2
theorem drew64 {blk off m:Nat} {y:Array Int} {w wr:World} (h:wr=putRow e64 (Sort.ahead w m) blk off y) (q:Nat):wr.drewN q=putRow e64 (Sort.ahead w (m+q)) blk off y:=by rw [h];exact putRow_drewN _ _ _ _ _ _ _
theorem swap64 {blk off m:Nat} {y:Array Int} {w wr:World} (h:wr=putRow e64 (Sort.ahead w m) blk off y) (q i j:Nat) (hi:i<y.size) (hj:j<y.size) :
  ((wr.drewN q).setCell ⟨blk,off+i,none⟩ (.int .u64 y[j]!)).setCell ⟨blk,off+j,none⟩ (.int .u64 y[i]!)=putRow e64 (Sort.ahead w (m+q)) blk off (swp y i j):=by
 rw [h];exact swap_worldA e64 w m q blk off y i j hi hj
theorem ins64 (blk off cap a b:Nat) (d:Array Int) (w:World) (hH:Holds e64 w blk off d) (hab:a≤b) (hb:b≤d.size) (hsz:d.size<4611686018427387904) :
  Calls Tryz.prog 126 #[.slice (some ⟨blk,off,none⟩) d.size cap,.int .i64 (a:Int),.int .i64 (b:Int)] w fun e w'=>e = .returned (.tuple #[])∧∃ n,w'=putRow e64 (Sort.ahead w n) blk off (Sort.insertionSort ltInt d a b):=by
 go_enter Tryz.func126,Tryz.ntmps126
 go_wp2
 go_loopw [6] (fun i wr=>∃ (k n:Nat) (x:Array Int),i = .int .i64 (k:Int)∧a<k∧k≤b+1∧x.size=d.size∧wr=putRow e64 (Sort.ahead w n) blk off x∧insOuter ltInt a b k x=insOuter ltInt a b (a+1) d) (fun i _=>b+1 - (Go.Proofs.intOf i).toNat)
 case atStart=>exact ⟨a+1,0,d,by go_num,by omega,by omega,rfl,(putRow_self _ _ _ _ _ hH).symm,rfl⟩
 case round =>
  obtain ⟨k,n,x,rfl,hk1,hk2,hx,hwr,hout⟩:=hrel;have HO:=hid hout;have HWR:=hid hwr;clear hout
  by_cases hlt:k<b
  rotate_left
  ·have q0:decide ((k:Int)<(b:Int))=false:=decide_eq_false (by omega)
   go_wp2_with fail
   go_end0
   exact ⟨rfl,n,by unfold Sort.insertionSort;rw [← HO.out,insOuter_stop _ _ _ _ _ hlt]⟩
  have q0:decide ((k:Int)<(b:Int))=true:=decide_eq_true (by omega);clear hwr;go_wp2_with fail
  go_loopw [7] (fun i wr2=>∃ (j m:Nat) (y:Array Int),i = .int .i64 (j:Int)∧a≤j∧j≤k∧y.size=d.size∧wr2=putRow e64 (Sort.ahead w m) blk off y∧insInner ltInt a j y=insInner ltInt a k x) (fun i _=>(Go.Proofs.intOf i).toNat)
  case atStart=>exact ⟨k,n,x,rfl,by omega,Nat.le_refl _,hx,HWR.out,rfl⟩
  case round =>
   obtain ⟨j,m,y,rfl,hj1,hj2,hy,hwr2,hin⟩:=hrel;obtain ⟨G,hG,hcw,hfw⟩:=row64 hH hy hwr2;have HI:=hid hin;have HW:=hid hwr2;have HG:=hid hG;clear hin hwr2 hG;have OUT:Hid ((j≤a∨ltInt (G j) (G (j - 1))=false)→insOuter ltInt a b (k+1) y=insOuter ltInt a b (a+1) d):=hid (fun h=>by
    rw [← HO.out,insOuter_go _ _ _ _ _ hlt,← HI.out,insInner_stop _ _ _ _ (by rw [← HG.out,← HG.out];exact h)])
   go_wp2
   by_cases hja:a<j
   rotate_left
   ·go_quiet (first | (go_at_call 132;refine Calls.quiet_of_same (less64 _ _ _)))
    go_wp2;go_roundw
    case rel=>exact ⟨k+1,m+nq,y,by go_num,by omega,by omega,hy,drew64 HW.out nq,OUT.out (.inl (by omega))⟩
    case measure=>simp [Go.Proofs.intOf];omega
   go_quiet (first | (go_at_call 132;refine Calls.quiet_of_same (less64 _ _ _)))
   go_wp2
   ·have hl:ltInt (G j) (G (j - 1))=true:=by assumption
    go_region
    all_goals go_wp2
    go_roundw
    case rel =>
     refine ⟨j - 1,m+(nq+1),swp y j (j - 1),by congr 1;omega,by omega,by omega,by rw [size_swp];exact hy,?_,?_⟩
     ·rw [HG.out,HG.out]
      exact swap64 HW.out (nq+1) j (j - 1) (by omega) (by omega)
     ·rw [← HI.out,insInner_go ltInt a j y hja (by rw [← HG.out,← HG.out];exact hl)]
    case measure=>simp [Go.Proofs.intOf];omega
   ·have hl:ltInt (G j) (G (j - 1))=false:=by assumption
    go_roundw
    case rel=>exact ⟨k+1,m+nq,y,by go_num,by omega,by omega,hy,drew64 HW.out nq,OUT.out (.inr hl)⟩
    case measure=>simp [Go.Proofs.intOf];omega
end Go.Proofs.YthkmihedkddnmaaGreat
namespace Go.Proofs.YthkmihedkddnmaaGreat
open Lib (hid)
open Go.RowKit Go.Sort
theorem rowG64 {blk off m:Nat} {d y:Array Int} {w wr:World} {G:Nat→Int} (hH:Holds e64 w blk off d) (hy:y.size=d.size) (hwr:wr=putRow e64 (Sort.ahead w m) blk off y) (hG:∀ t,G t=y[t]!) :
  (∀ t,t<d.size→wr.cell? ⟨blk,off+t,none⟩=some (.int .u64 (G t)))∧(∀ t,t<d.size→wr.frozen? ⟨blk,off+t,none⟩=false):=by
 obtain ⟨G',h1,h2,h3⟩:=row64 hH hy hwr;refine ⟨fun t ht => ?_,h3⟩;rw [hG,← h1];exact h2 t ht
def Sft64 (w:World) (blk off hi first lo:Nat) (d:Array Int) (r:Nat) (x:Array Int):Prop:=r≤hi∧x.size=d.size∧siftDown ltInt hi first r x=siftDown ltInt hi first lo d
theorem sift64 (blk off cap lo hi first:Nat) (d:Array Int) (w:World) (hH:Holds e64 w blk off d) (hlo:lo≤hi) (hb:first+hi≤d.size) (hsz:d.size<4611686018427387904) :
  Calls Tryz.prog 145 #[.slice (some ⟨blk,off,none⟩) d.size cap,.int .i64 (lo:Int),.int .i64 (hi:Int),.int .i64 (first:Int)] w fun e w'=>e = .returned (.tuple #[])∧∃ n,w'=putRow e64 (Sort.ahead w n) blk off (siftDown ltInt hi first lo d):=by
 go_enter Tryz.func145,Tryz.ntmps145
 go_wp2
 go_loopw [8] (fun i wr=>∃ (r n:Nat) (x:Array Int),i = .int .i64 (r:Int)∧Sft64 w blk off hi first lo d r x∧wr=putRow e64 (Sort.ahead w n) blk off x) (fun i _=>hi - (Go.Proofs.intOf i).toNat)
 case atStart=>exact ⟨lo,0,d,rfl,⟨hlo,rfl,rfl⟩,(putRow_self _ _ _ _ _ hH).symm⟩
 case round =>
  obtain ⟨r,m,x,rfl,⟨hr,hx,hout⟩,hwr⟩:=hrel;have HO:=hid hout;have HW:=hid hwr;obtain ⟨G,hG,hcw,hfw⟩:=row64 hH hx hwr;have HG:=hid hG;clear hout hwr hG
  by_cases h1:hi≤2 * r+1
  ·have q1:decide (2 * (r:Int)+1 ≥ (hi:Int))=true:=decide_eq_true (by omega)
   go_wp2
   go_end0
   all_goals exact ⟨rfl,m,by rw [← HO.out,sd_end ltInt x h1];exact HW.out⟩
  have q1:decide (2 * (r:Int)+1 ≥ (hi:Int))=false:=decide_eq_false (by omega);go_wp2;have hr2:2 * r+1<hi:=by omega
  have hwa:IntKind.i64.wrap (2 * (r:Int)+1+1)=2 * (r:Int)+1+1:=IntWalk.i64_in _ (by omega);have hwb:IntKind.i64.wrap ((first:Int)+(2 * (r:Int)+1))=(first:Int)+(2 * (r:Int)+1):=IntWalk.i64_in _ (by omega);have hwc:IntKind.i64.wrap ((first:Int)+(2 * (r:Int)+1)+1)=(first:Int)+(2 * (r:Int)+1)+1:=IntWalk.i64_in _ (by omega);have hwd:IntKind.i64.wrap ((first:Int)+(r:Int))=(first:Int)+(r:Int):=IntWalk.i64_in _ (by omega)
  have hwe:IntKind.i64.wrap ((first:Int)+(2 * (r:Int)+1+1))=(first:Int)+(2 * (r:Int)+1+1):=IntWalk.i64_in _ (by omega)
  by_cases h2:2 * r+2<hi
  ·have q2:decide (2 * (r:Int)+1+1<(hi:Int))=true:=decide_eq_true (by omega)
   go_quiet (first | (go_at_call 132;refine Calls.quiet_of_same (less64 _ _ _)))
   obtain ⟨wr2,hw2⟩:∃ y,wr.drewN nq=y:=⟨_,rfl⟩
   have HW2:Hid (wr2=putRow e64 (Sort.ahead w (m+nq)) blk off x):=hid (by rw [← hw2];exact drew64 HW.out nq);clear hcw hfw;obtain ⟨hcw,hfw⟩:=rowG64 hH hx HW2.out HG.out;rw [hw2];clear hw2
   cases hl:ltInt (G (first+2 * r+1)) (G (first+2 * r+2)) with
   | true =>
    go_wp2
    go_quiet (first | (go_at_call 132;refine Calls.quiet_of_same (less64 _ _ _)))
    obtain ⟨wr3,hw3⟩:∃ y,wr2.drewN nq=y:=⟨_,rfl⟩
    have HW3:Hid (∃ m3,wr3=putRow e64 (Sort.ahead w m3) blk off x):=hid ⟨_,by rw [← hw3];exact drew64 HW2.out nq⟩;rw [hw3];clear hw3 hcw hfw;obtain ⟨m3,hm3⟩:=HW3.out;obtain ⟨hcw,hfw⟩:=rowG64 hH hx hm3 HG.out;have HM3:=hid hm3;clear hm3 HW3
    cases hl2:ltInt (G (first+r)) (G (first+2 * r+2)) with
    | false =>
     go_wp2
     (try simp only [Exit.inBlock,Exit.then]);refine bodyPost_ret (results_none rfl _ _ _) rfl ?_
     exact ⟨rfl,m3,by rw [← HO.out,sd_right_stop ltInt x h2 (by have h:=hl;rw [HG.out,HG.out] at h;exact h) (by have h:=hl2;rw [HG.out,HG.out] at h;exact h)];exact HM3.out⟩
    | true =>
     go_wp2
     go_region
     all_goals go_wp2
     go_roundw
     case rel =>
      refine ⟨2 * r+2,m3+1,swp x (first+r) (first+(2 * r+2)),by first | (congr 1;done) | (congr 1;omega),⟨by omega,by rw [size_swp];exact hx,?_⟩,?_⟩
      ·rw [← HO.out,sd_right_go ltInt x h2 (by have h:=hl;rw [HG.out,HG.out] at h;exact h) (by have h:=hl2;rw [HG.out,HG.out] at h;exact h)]
      ·rw [HG.out,HG.out]
       exact swap64 HM3.out 1 (first+r) (first+(2 * r+2)) (by omega) (by omega)
     case measure=>simp [Go.Proofs.intOf];omega
   | false =>
    go_wp2
    go_quiet (first | (go_at_call 132;refine Calls.quiet_of_same (less64 _ _ _)))
    obtain ⟨wr3,hw3⟩:∃ y,wr2.drewN nq=y:=⟨_,rfl⟩
    have HW3:Hid (∃ m3,wr3=putRow e64 (Sort.ahead w m3) blk off x):=hid ⟨_,by rw [← hw3];exact drew64 HW2.out nq⟩;rw [hw3];clear hw3 hcw hfw;obtain ⟨m3,hm3⟩:=HW3.out;obtain ⟨hcw,hfw⟩:=rowG64 hH hx hm3 HG.out;have HM3:=hid hm3;clear hm3 HW3
    cases hl2:ltInt (G (first+r)) (G (first+2 * r+1)) with
    | false =>
     go_wp2
     (try simp only [Exit.inBlock,Exit.then]);refine bodyPost_ret (results_none rfl _ _ _) rfl ?_
     exact ⟨rfl,m3,by rw [← HO.out,sd_left_stop ltInt x hr2 (fun _=>(by have h:=hl;rw [HG.out,HG.out] at h;exact h)) (by have h:=hl2;rw [HG.out,HG.out] at h;exact h)];exact HM3.out⟩
    | true =>
     go_wp2
     go_region
     all_goals go_wp2
     go_roundw
     case rel =>
      refine ⟨2 * r+1,m3+1,swp x (first+r) (first+(2 * r+1)),by first | (congr 1;done) | (congr 1;omega),⟨by omega,by rw [size_swp];exact hx,?_⟩,?_⟩
      ·rw [← HO.out,sd_left_go ltInt x hr2 (fun _=>(by have h:=hl;rw [HG.out,HG.out] at h;exact h)) (by have h:=hl2;rw [HG.out,HG.out] at h;exact h)]
      ·rw [HG.out,HG.out]
       exact swap64 HM3.out 1 (first+r) (first+(2 * r+1)) (by omega) (by omega)
     case measure=>simp [Go.Proofs.intOf];omega
  ·have q2:decide (2 * (r:Int)+1+1<(hi:Int))=false:=decide_eq_false (by omega)
   go_quiet (first | (go_at_call 132;refine Calls.quiet_of_same (less64 _ _ _)))
   obtain ⟨wr2,hw2⟩:∃ y,wr.drewN nq=y:=⟨_,rfl⟩
   have HW2:Hid (wr2=putRow e64 (Sort.ahead w (m+nq)) blk off x):=hid (by rw [← hw2];exact drew64 HW.out nq);clear hcw hfw;obtain ⟨hcw,hfw⟩:=rowG64 hH hx HW2.out HG.out;rw [hw2];clear hw2;go_wp2
   go_quiet (first | (go_at_call 132;refine Calls.quiet_of_same (less64 _ _ _)))
   obtain ⟨wr3,hw3⟩:∃ y,wr2.drewN nq=y:=⟨_,rfl⟩
   have HW3:Hid (∃ m3,wr3=putRow e64 (Sort.ahead w m3) blk off x):=hid ⟨_,by rw [← hw3];exact drew64 HW2.out nq⟩;rw [hw3];clear hw3 hcw hfw;obtain ⟨m3,hm3⟩:=HW3.out;obtain ⟨hcw,hfw⟩:=rowG64 hH hx hm3 HG.out;have HM3:=hid hm3;clear hm3 HW3
   cases hl2:ltInt (G (first+r)) (G (first+2 * r+1)) with
   | false =>
    go_wp2
    (try simp only [Exit.inBlock,Exit.then]);refine bodyPost_ret (results_none rfl _ _ _) rfl ?_
    exact ⟨rfl,m3,by rw [← HO.out,sd_left_stop ltInt x hr2 (fun h=>absurd h h2) (by have h:=hl2;rw [HG.out,HG.out] at h;exact h)];exact HM3.out⟩
   | true =>
    go_wp2
    go_region
    all_goals go_wp2
    go_roundw
    case rel =>
     refine ⟨2 * r+1,m3+1,swp x (first+r) (first+(2 * r+1)),by first | (congr 1;done) | (congr 1;omega),⟨by omega,by rw [size_swp];exact hx,?_⟩,?_⟩
     ·rw [← HO.out,sd_left_go ltInt x hr2 (fun h=>absurd h h2) (by have h:=hl2;rw [HG.out,HG.out] at h;exact h)]
     ·rw [HG.out,HG.out]
      exact swap64 HM3.out 1 (first+r) (first+(2 * r+1)) (by omega) (by omega)
    case measure=>simp [Go.Proofs.intOf];omega
theorem siftSz64 (hi F root:Nat) (d:Array Int):(siftDown ltInt hi F root d).size=d.size:=size_siftDown ltInt hi F (hi - root) root d (Nat.le_refl _)
end Go.Proofs.YthkmihedkddnmaaGreat
namespace Go.Proofs.YthkmihedkddnmaaGreat
open Lib (hid)
open Go.RowKit Go.Sort
theorem heap64 (blk off cap a b:Nat) (d:Array Int) (w:World) (hH:Holds e64 w blk off d) (hab:a≤b) (hb:b≤d.size) (hsz:d.size<4611686018427387904) :
  Calls Tryz.prog 127 #[.slice (some ⟨blk,off,none⟩) d.size cap,.int .i64 (a:Int),.int .i64 (b:Int)] w fun e w'=>e = .returned (.tuple #[])∧∃ n,w'=putRow e64 (Sort.ahead w n) blk off (Sort.heapSort ltInt d a b):=by
 have hst:=half_start hab;obtain ⟨H,hHb⟩:∃ H,b - a=H:=⟨_,rfl⟩
 have eH:(b:Int) - (a:Int)=(H:Int):=by omega
 obtain ⟨K0,hK0⟩:∃ K,(b - a - 1) / 2+1=K:=⟨_,rfl⟩
 have hK1:K0≤H+1:=by omega
 rw [hK0,eH] at hst;have HT:Hid (Sort.heapSort ltInt d a b=heapPop ltInt a H (heapBuild ltInt H a K0 d)):=hid (by unfold Sort.heapSort;rw [hK0,hHb])
 go_enter Tryz.func127,Tryz.ntmps127
 go_wp2
 go_loopw [9] (fun i wr=>∃ (k n:Nat) (x:Array Int),i = .int .i64 ((k:Int) - 1)∧k≤K0∧x.size=d.size∧wr=putRow e64 (Sort.ahead w n) blk off x∧heapBuild ltInt H a k x=heapBuild ltInt H a K0 d) (fun i _=>(Go.Proofs.intOf i+1).toNat)
 case atStart=>exact ⟨K0,0,d,rfl,Nat.le_refl _,rfl,(putRow_self _ _ _ _ _ hH).symm,rfl⟩
 case round =>
  obtain ⟨k,m,x,rfl,hk,hx,hwr,hout⟩:=hrel;have HO:=hid hout;have HW:=hid hwr;clear hout
  cases k with
  | succ k =>
   have ek:((k+1:Nat):Int) - 1=(k:Int):=by omega
   rw [ek];have C:=sift64 blk off cap k H a x wr (by rw [hwr];exact holds_putRow _ _ _ _ d x (holds_ahead _ _ _ _ _ _ hH) hx) (by omega) (by omega) (by omega);rw [hx] at C;clear hwr;have q:decide ((k:Int) ≥ 0)=true:=decide_eq_true (by omega);go_wp2_with fail;refine C.mono ?_;rintro e w2 ⟨rfl,n2,hw2⟩;have HW2:Hid (w2=putRow e64 (Sort.ahead w (m+n2)) blk off (siftDown ltInt H a k x)):=hid (by rw [hw2,HW.out,putRow_ahead_putRow _ _ _ _ _ _ _ _ (siftSz64 _ _ _ _)]);clear C hw2;go_wp2_with fail;go_roundw
   case rel=>exact ⟨k,m+n2,siftDown ltInt H a k x,rfl,by omega,by rw [siftSz64,hx],HW2.out,HO.out⟩
   case measure=>simp [Go.Proofs.intOf]
  | zero =>
  have e0:((0:Nat):Int) - 1 = -1:=by decide
  rw [e0];have q:decide ((-1:Int) ≥ 0)=false:=by decide
  clear hwr;go_wp2_with fail;obtain ⟨D,hD⟩:∃ D,heapBuild ltInt H a K0 d=D:=⟨_,rfl⟩
  rw [hD] at HT;have HX:Hid (x=D):=hid (by rw [← hD,← HO.out];rfl)
  go_loopw [10] (fun i wr2=>∃ (k n:Nat) (y:Array Int),i = .int .i64 ((k:Int) - 1)∧k≤H∧y.size=d.size∧wr2=putRow e64 (Sort.ahead w n) blk off y∧heapPop ltInt a k y=heapPop ltInt a H D) (fun i _=>(Go.Proofs.intOf i+1).toNat)
  case atStart=>exact ⟨H,m,x,rfl,Nat.le_refl _,hx,HW.out,by rw [HX.out]⟩
  case round =>
   obtain ⟨k,m2,y,rfl,hk2,hy,hwr2,hout2⟩:=hrel;have HO2:=hid hout2;have HW2:=hid hwr2;clear hout2
   cases k with
   | zero =>
    have q:decide (((0:Nat):Int) - 1 ≥ 0)=false:=by decide
    clear hwr2;go_wp2_with fail
    go_end0
    exact ⟨rfl,m2,by rw [HT.out,← HO2.out];exact HW2.out⟩
   | succ k =>
   have ek:((k+1:Nat):Int) - 1=(k:Int):=by omega
   rw [ek];obtain ⟨G,hG,hcw,hfw⟩:=row64 hH hy hwr2;have HG:=hid hG;have q:decide ((k:Int) ≥ 0)=true:=decide_eq_true (by omega);have hwd:IntKind.i64.wrap ((a:Int)+(k:Int))=(a:Int)+(k:Int):=IntWalk.i64_in _ (by omega);have hc2:(wr.setCell ⟨blk,off+a,none⟩ (.int .u64 (G (a+k)))).cell? ⟨blk,off+(a+k),none⟩=some (.int .u64 (G (a+k))):=by
    rw [hwr2,hG,show Value.int .u64 y[a+k]! = e64 y[a+k]! from rfl,putRow_set _ _ _ _ _ _ _ (by omega),cell?_putRow _ _ _ _ d _ (holds_ahead _ _ _ _ _ _ hH) (by simpa using hy) _ (by simp;omega)]
    by_cases h0:k=0
    ·subst h0
     rw [Nat.add_zero,getElem!_set_same _ _ _ (by omega)]
    ·rw [getElem!_set_other _ _ _ _ (by omega)]
   clear hwr2 hG;go_wp2_with fail
   go_region
   all_goals go_wp2_with fail
   obtain ⟨w3,hw3⟩:∃ W,((wr.setCell ⟨blk,off+a,none⟩ (.int .u64 (G (a+k)))).setCell ⟨blk,off+(a+k),none⟩ (.int .u64 (G a))).drew=W:=⟨_,rfl⟩
   rw [hw3];have HW3:Hid (w3=putRow e64 (Sort.ahead w (m2+1)) blk off (swp y a (a+k))):=hid (by
    rw [← hw3,HG.out,HG.out];exact swap64 HW2.out 1 a (a+k) (by omega) (by omega))
   clear hw3 hc2 hcw hfw hwd;have hsw:(swp y a (a+k)).size=d.size:=by rw [size_swp];exact hy
   have C:=sift64 blk off cap 0 k a (swp y a (a+k)) w3 (by rw [HW3.out];exact holds_putRow _ _ _ _ d _ (holds_ahead _ _ _ _ _ _ hH) hsw) (by omega) (by omega) (by omega);rw [hsw] at C;refine C.mono ?_;rintro e w4 ⟨rfl,n4,hw4⟩;have HW4:Hid (w4=putRow e64 (Sort.ahead w (m2+1+n4)) blk off (siftDown ltInt k a 0 (swp y a (a+k)))):=hid (by rw [hw4,HW3.out,putRow_ahead_putRow _ _ _ _ _ _ _ _ (siftSz64 _ _ _ _)]);clear C hw4;go_wp2_with fail;go_round
   case rel=>exact ⟨k,m2+1+n4,_,rfl,by omega,by rw [siftSz64,hsw],HW4.out,HO2.out⟩
   case measure=>simp [Go.Proofs.intOf]
end Go.Proofs.YthkmihedkddnmaaGreat
namespace Go.Proofs.YthkmihedkddnmaaGreat
open Lib (hid)
open Go.RowKit Go.Sort
theorem rev64 (blk off cap a b:Nat) (d:Array Int) (w:World) (hH:Holds e64 w blk off d) (hab:a<b) (hb:b≤d.size) (hsz:d.size<4611686018427387904) :
  Calls Tryz.prog 130 #[.slice (some ⟨blk,off,none⟩) d.size cap,.int .i64 (a:Int),.int .i64 (b:Int)] w fun e w'=>e = .returned (.tuple #[])∧∃ n,w'=putRow e64 (Sort.ahead w n) blk off (Sort.reverseRange d a b):=by
 have eb:(b:Int) - 1=((b - 1:Nat):Int):=by omega
 go_enter Tryz.func130,Tryz.ntmps130
 go_wp2
 go_loopw [6,7] (fun i j wr=>∃ (p q n:Nat) (x:Array Int),i = .int .i64 (p:Int)∧j = .int .i64 (q:Int)∧p≤b∧q<b∧x.size=d.size∧wr=putRow e64 (Sort.ahead w n) blk off x∧reverseLoop p q x=reverseLoop a (b - 1) d) (fun _ j _=>(Go.Proofs.intOf j).toNat)
 case atStart=>exact ⟨a,b - 1,0,d,rfl,by first | rfl | rw [eb],by omega,by omega,rfl,(putRow_self _ _ _ _ _ hH).symm,rfl⟩
 case round =>
  obtain ⟨p,q,m,x,rfl,rfl,hp,hq,hx,hwr,hout⟩:=hrel;have HO:=hid hout;have HW:=hid hwr;obtain ⟨G,hG,hcw,hfw⟩:=row64 hH hx hwr;have HG:=hid hG;clear hout hwr hG
  by_cases hpq:p<q
  ·have q0:decide ((p:Int)<(q:Int))=true:=decide_eq_true (by omega)
   go_wp2_with fail
   go_region
   all_goals go_wp2_with fail
   go_roundw
   case rel =>
    refine ⟨p+1,q - 1,m+1,swp x p q,by go_num,by congr 1;omega,by omega,by omega,by rw [size_swp];exact hx,?_,?_⟩
    ·rw [HG.out,HG.out]
     exact swap64 HW.out 1 p q (by omega) (by omega)
    ·rw [← HO.out]
     conv=>rhs;rw [reverseLoop,if_pos hpq]
   case measure=>simp [Go.Proofs.intOf];omega
  ·have q0:decide ((p:Int)<(q:Int))=false:=decide_eq_false (by omega)
   have e1:reverseLoop p q x=x:=by rw [reverseLoop,if_neg hpq]
   go_wp2_with fail
   go_end0
   exact ⟨rfl,m,by unfold Sort.reverseRange;rw [← HO.out,e1];exact HW.out⟩
abbrev eC:Int→Value:=Value.int .i64
theorem ord64 (blk off cap a b sb so s:Nat) (d:Array Int) (w:World) (hH:Holds e64 w blk off d) (ha:a<d.size) (hb:b<d.size) (hsz:d.size<4611686018427387904) (h1:Holds (Value.int .i64) w sb so (one s)) (hs:s<1000) :
  Calls Tryz.prog 156 #[.slice (some ⟨blk,off,none⟩) d.size cap,.int .i64 (a:Int),.int .i64 (b:Int),.pointer (some ⟨sb,so,none⟩)] w fun e w' =>
   e = .returned (.tuple #[.int .i64 ((order2 ltInt d a b s).1:Nat),.int .i64 ((order2 ltInt d a b s).2.1:Nat)])∧∃ n,w'=putRow (Value.int .i64) (Sort.ahead w n) sb so (one (order2 ltInt d a b s).2.2):=by
 obtain ⟨G,hG,hcw,hfw⟩:=row64 (m:=0) hH rfl (putRow_self _ _ _ _ _ hH).symm;have HG:=hid hG;obtain ⟨c1,f1⟩:=one_cell h1;have HONE:=hid h1;clear hG
 go_enter Tryz.func156,Tryz.ntmps156
 go_wp2
 go_quiet (first | (go_at_call 132;refine Calls.quiet_of_same (less64 _ _ _)))
 cases hl:ltInt (G b) (G a) with
 | true =>
  have e1:order2 ltInt d a b s=(b,a,s+1):=by unfold order2;rw [← HG.out,← HG.out,if_pos hl]
  have HE1:=hid e1;clear e1;have hwr:IntKind.i64.wrap ((s:Int)+1)=(s:Int)+1:=IntWalk.i64_in _ (by omega);go_wp2_with fail
  go_ret2
  rw [HE1.out];exact ⟨rfl,nq,one_set (holds_ahead _ w nq sb so _ HONE.out) (s+1)⟩
 | false =>
  have e1:order2 ltInt d a b s=(a,b,s):=by unfold order2;rw [← HG.out,← HG.out,if_neg (by rw [hl];simp)]
  have HE1:=hid e1;clear e1;go_wp2_with fail
  go_ret2
  rw [HE1.out];exact ⟨rfl,nq,(putRow_self _ _ _ _ _ (holds_ahead _ w nq sb so _ HONE.out)).symm⟩
theorem aside64 {w:World} {blk off sb so n t:Nat} {d:Array Int} (h:Holds e64 w blk off d) (hne:sb≠blk):Holds e64 (putRow (Value.int .i64) (Sort.ahead w n) sb so (one t)) blk off d:=fun j hj =>
 ⟨by rw [cell?_putRow_other _ _ _ _ _ _ (Or.inl (Ne.symm hne))];exact (h j hj).1,by rw [frozen?_putRow];exact (h j hj).2⟩
theorem med64 (blk off cap a b c sb so s:Nat) (d:Array Int) (w:World) (hH:Holds e64 w blk off d) (ha:a<d.size) (hb:b<d.size) (hc:c<d.size) (hsz:d.size<4611686018427387904) (h1:Holds (Value.int .i64) w sb so (one s)) (hne:sb≠blk) (hs:s<900) :
  Calls Tryz.prog 147 #[.slice (some ⟨blk,off,none⟩) d.size cap,.int .i64 (a:Int),.int .i64 (b:Int),.int .i64 (c:Int),.pointer (some ⟨sb,so,none⟩)] w fun e w' =>
   e = .returned (.int .i64 ((median ltInt d a b c s).1:Nat))∧(median ltInt d a b c s).1<d.size∧(median ltInt d a b c s).2≤s+3∧∃ n,w'=putRow (Value.int .i64) (Sort.ahead w n) sb so (one (median ltInt d a b c s).2):=by
 have HH:=hid hH;have C1:=ord64 blk off cap a b sb so s d w hH ha hb hsz h1 (by omega);obtain ⟨l1,l2⟩:=order2_lt d (a:=a) (b:=b) s ha hb;have l3:=order2_swaps d a b s
 have HM:Hid (median ltInt d a b c s=((order2 ltInt d (order2 ltInt d a b s).1 (order2 ltInt d (order2 ltInt d a b s).2.1 c (order2 ltInt d a b s).2.2).1 (order2 ltInt d (order2 ltInt d a b s).2.1 c (order2 ltInt d a b s).2.2).2.2).2.1,(order2 ltInt d (order2 ltInt d a b s).1 (order2 ltInt d (order2 ltInt d a b s).2.1 c (order2 ltInt d a b s).2.2).1 (order2 ltInt d (order2 ltInt d a b s).2.1 c (order2 ltInt d a b s).2.2).2.2).2.2)):=hid rfl;rw [HM.out];obtain ⟨⟨x1,x2,x3⟩,hr1⟩:∃ r,order2 ltInt d a b s=r:=⟨_,rfl⟩
 rw [hr1] at C1 l1 l2 l3 ⊢;dsimp only at C1 l1 l2 l3 ⊢;obtain ⟨k1,k2⟩:=order2_lt d (a:=x2) (b:=c) x3 l2 hc;have k3:=order2_swaps d x2 c x3;obtain ⟨⟨y1,y2,y3⟩,hr2⟩:∃ r,order2 ltInt d x2 c x3=r:=⟨_,rfl⟩
 have HR2:=hid hr2;rw [hr2] at k1 k2 k3 ⊢;dsimp only at k1 k2 k3 ⊢;obtain ⟨j1,j2⟩:=order2_lt d (a:=x1) (b:=y1) y3 l1 k1;have j3:=order2_swaps d x1 y1 y3;obtain ⟨⟨z1,z2,z3⟩,hr3⟩:∃ r,order2 ltInt d x1 y1 y3=r:=⟨_,rfl⟩
 have HR3:=hid hr3;rw [hr3] at j1 j2 j3 ⊢;dsimp only at j1 j2 j3 ⊢;have HONE:=hid h1;clear hr1 hr2 hr3 HM hH h1
 go_enter Tryz.func147,Tryz.ntmps147
 go_wp2_with fail;refine C1.mono ?_;rintro e w1 ⟨rfl,n1,hw1⟩;have HW1:=hid hw1;have C2:=ord64 blk off cap x2 c sb so x3 d w1 (by rw [hw1];exact aside64 HH.out hne) l2 hc hsz (by rw [hw1];exact holds_one HONE.out) (by omega);rw [HR2.out] at C2;dsimp only at C2;clear hw1 C1;go_wp2_with fail;refine C2.mono ?_;rintro e w2 ⟨rfl,n2,hw2⟩;have HW2:Hid (w2=putRow (Value.int .i64) (Sort.ahead w (n1+n2)) sb so (one y3)):=hid (by rw [hw2,HW1.out,one_one])
 have C3:=ord64 blk off cap x1 y1 sb so y3 d w2 (by rw [HW2.out];exact aside64 HH.out hne) l1 k1 hsz (by rw [HW2.out];exact holds_one HONE.out) (by omega);rw [HR3.out] at C3;dsimp only at C3;clear hw2 C2;go_wp2_with fail;refine C3.mono ?_;rintro e w3 ⟨rfl,n3,hw3⟩;have HW3:Hid (w3=putRow (Value.int .i64) (Sort.ahead w (n1+n2+n3)) sb so (one z3)):=hid (by rw [hw3,HW2.out,one_one]);clear hw3 C3;go_wp2_with fail;go_ret;exact ⟨rfl,j2,by omega,_,HW3.out⟩
theorem adj64 (blk off cap a sb so s:Nat) (d:Array Int) (w:World) (hH:Holds e64 w blk off d) (h0:1≤a) (ha:a+1<d.size) (hsz:d.size<4611686018427387904) (h1:Holds (Value.int .i64) w sb so (one s)) (hne:sb≠blk) (hs:s<900) :
  Calls Tryz.prog 146 #[.slice (some ⟨blk,off,none⟩) d.size cap,.int .i64 (a:Int),.pointer (some ⟨sb,so,none⟩)] w fun e w' =>
   e = .returned (.int .i64 ((medianAdjacent ltInt d a s).1:Nat))∧(medianAdjacent ltInt d a s).1<d.size∧(medianAdjacent ltInt d a s).2≤s+3∧∃ n,w'=putRow (Value.int .i64) (Sort.ahead w n) sb so (one (medianAdjacent ltInt d a s).2):=by
 have C:=med64 blk off cap (a - 1) a (a+1) sb so s d w hH (by omega) (by omega) (by omega) hsz h1 hne hs;rw [show median ltInt d (a - 1) a (a+1) s=medianAdjacent ltInt d a s from rfl,show ((a - 1:Nat):Int)=(a:Int) - 1 by omega,show ((a+1:Nat):Int)=(a:Int)+1 by omega] at C;clear hH h1
 go_enter Tryz.func146,Tryz.ntmps146
 go_wp2_with fail;refine C.mono ?_;rintro e w1 ⟨rfl,h2,h3,h4⟩;go_wp2_with fail;go_ret;exact ⟨rfl,h2,h3,h4⟩
end Go.Proofs.YthkmihedkddnmaaGreat
namespace Go.Proofs.YthkmihedkddnmaaGreat
open Lib (hid)
open Go.RowKit Go.Sort
theorem swc64 {blk off m:Nat} {d y:Array Int} {w wr:World} {G:Nat→Int} (hH:Holds e64 w blk off d) (hy:y.size=d.size) (hwr:wr=putRow e64 (Sort.ahead w m) blk off y) (hG:∀ t,G t=y[t]!) {i j:Nat} (hi:i<d.size) (hj:j<d.size) :
  (wr.setCell ⟨blk,off+i,none⟩ (.int .u64 (G j))).cell? ⟨blk,off+j,none⟩=some (.int .u64 (G j)):=by
 rw [hwr,hG,show Value.int .u64 y[j]! = e64 y[j]! from rfl,putRow_set _ _ _ _ _ _ _ (by omega),cell?_putRow _ _ _ _ d _ (holds_ahead _ _ _ _ _ _ hH) (by simpa using hy) _ (by simp;omega)]
 by_cases h0:j=i
 ·subst h0
  rw [getElem!_set_same _ _ _ (by omega)]
 ·rw [getElem!_set_other _ _ _ _ h0]
theorem peq64 (blk off cap a b pivot:Nat) (d:Array Int) (w:World) (hH:Holds e64 w blk off d) (hap:a≤pivot) (hpb:pivot<b) (hb:b≤d.size) (hsz:d.size<4611686018427387904) :
  Calls Tryz.prog 133 #[.slice (some ⟨blk,off,none⟩) d.size cap,.int .i64 (a:Int),.int .i64 (b:Int),.int .i64 (pivot:Int)] w fun e w' =>
   e = .returned (.int .i64 ((partitionEqual ltInt d a b pivot).1:Nat))∧∃ n,w'=putRow e64 (Sort.ahead w n) blk off (partitionEqual ltInt d a b pivot).2:=by
 have eb:(b:Int) - 1=((b - 1:Nat):Int):=by omega
 obtain ⟨G0,hG0,hcw0,hfw0⟩:=row64 (m:=0) hH rfl (putRow_self _ _ _ _ _ hH).symm;have hc2:=swc64 (m:=0) hH rfl (putRow_self _ _ _ _ _ hH).symm hG0 (i:=a) (j:=pivot) (by omega) (by omega);have HG0:=hid hG0;clear hG0
 go_enter Tryz.func133,Tryz.ntmps133
 go_wp2_with fail
 go_region
 all_goals go_wp2_with fail
 obtain ⟨w1,hw1⟩:∃ W,((w.setCell ⟨blk,off+a,none⟩ (.int .u64 (G0 pivot))).setCell ⟨blk,off+pivot,none⟩ (.int .u64 (G0 a))).drew=W:=⟨_,rfl⟩
 rw [hw1];have HW1:Hid (w1=putRow e64 (Sort.ahead w (0+1)) blk off (swp d a pivot)):=hid (by
  rw [← hw1,HG0.out,HG0.out];exact swap64 (putRow_self _ _ _ _ _ hH).symm 1 a pivot (by omega) (by omega))
 clear hw1 hc2 hcw0 hfw0
 go_loopw [9,10] (fun u v wr=>∃ (i j n:Nat) (x:Array Int),u = .int .i64 (i:Int)∧v = .int .i64 (j:Int)∧a+1≤i∧i≤j+1∧a≤j∧j<b∧x.size=d.size∧wr=putRow e64 (Sort.ahead w n) blk off x∧partEqLoop ltInt a i j x=partEqLoop ltInt a (a+1) (b - 1) (swp d a pivot)) (fun _ v _=>(Go.Proofs.intOf v).toNat)
 case atStart=>exact ⟨a+1,b - 1,0+1,swp d a pivot,by go_num,by first | rfl | rw [eb],by omega,by omega,by omega,by omega,size_swp ..,HW1.out,rfl⟩
 case round =>
  obtain ⟨i,j,m,x,rfl,rfl,h1,h2,h3,h4,hx,hwr,hout⟩:=hrel;have HO:=hid hout;have HW:=hid hwr;obtain ⟨G,hG,hcw,hfw⟩:=row64 hH hx hwr;have HG:=hid hG;clear hout hwr hG;go_wp2_with fail
  go_loopw [9] (fun v wx=>∃ (p nn:Nat),v = .int .i64 (p:Int)∧i≤p∧p≤j+1∧wx=putRow e64 (Sort.ahead w nn) blk off x∧scanUp (fun y => !ltInt x[a]! y) x j p=scanUp (fun y => !ltInt x[a]! y) x j i) (fun v _=>j+1 - (Go.Proofs.intOf v).toNat)
  case atStart=>exact ⟨i,m,rfl,Nat.le_refl _,h2,HW.out,rfl⟩
  case round =>
   obtain ⟨i2,nn,rfl,hp1,hp2,hwx,hsu⟩:=hrel;have HSU:=hid hsu;have HWX:=hid hwx;clear hwx hsu hcw hfw;obtain ⟨hcw,hfw⟩:=rowG64 hH hx HWX.out HG.out
   by_cases hle:i2≤j
   ·have q2:decide ((i2:Int)≤(j:Int))=true:=decide_eq_true (by omega)
    go_wp2_with fail
    go_quiet (first | (go_at_call 132;refine Calls.quiet_of_same (less64 _ _ _)))
    cases hl:ltInt (G a) (G i2) with
    | false =>
     have HSG:=hid (scanUp_go (fun y => !ltInt x[a]! y) x j i2 hle (by rw [← HG.out,← HG.out,hl];rfl));go_wp2_with fail;go_roundw
     case rel=>exact ⟨i2+1,nn+nq,by go_num,by omega,by omega,drew64 HWX.out nq,by rw [← HSG.out];exact HSU.out⟩
     case measure=>simp [Go.Proofs.intOf];omega
    | true =>
     have HI2:Hid (i2=scanUp (fun y => !ltInt x[a]! y) x j i):=hid (by rw [← HSU.out];exact (scanUp_end (fun y => !ltInt x[a]! y) x j i2 (.inr (by rw [← HG.out,← HG.out,hl];rfl))).symm);obtain ⟨wA,hwA⟩:∃ W,wr.drewN nq=W:=⟨_,rfl⟩
     obtain ⟨mA,hmA⟩:∃ m,nn+nq=m:=⟨_,rfl⟩
     have HWA:Hid (wA=putRow e64 (Sort.ahead w mA) blk off x):=hid (by rw [← hwA,← hmA];exact drew64 HWX.out nq);rw [hwA];clear hwA hmA;go_wp2_with fail
     go_loopw [10] (fun v wx=>∃ (q nn:Nat),v = .int .i64 (q:Int)∧q≤j∧i2≤q+1∧wx=putRow e64 (Sort.ahead w nn) blk off x∧scanDown (fun y=>ltInt x[a]! y) x i2 q=scanDown (fun y=>ltInt x[a]! y) x i2 j) (fun v _=>(Go.Proofs.intOf v).toNat)
     case atStart=>exact ⟨j,mA,rfl,Nat.le_refl _,by omega,HWA.out,rfl⟩
     case round =>
      obtain ⟨j2,nn,rfl,hq1,hq2,hwx,hsd⟩:=hrel;have HSD:=hid hsd;have HWX:=hid hwx;clear hwx hsd hcw hfw;obtain ⟨hcw,hfw⟩:=rowG64 hH hx HWX.out HG.out
      by_cases hle:i2≤j2
      ·have q2:decide ((i2:Int)≤(j2:Int))=true:=decide_eq_true (by omega)
       go_wp2_with fail
       go_quiet (first | (go_at_call 132;refine Calls.quiet_of_same (less64 _ _ _)))
       cases hl:ltInt (G a) (G j2) with
       | true =>
        have HSG:=hid (scanDown_go (fun y=>ltInt x[a]! y) x i2 j2 hle (by omega) (by rw [← HG.out,← HG.out];exact hl));go_wp2_with fail;go_roundw
        case rel=>exact ⟨j2 - 1,nn+nq,by congr 1;omega,by omega,by omega,drew64 HWX.out nq,by rw [← HSG.out];exact HSD.out⟩
        case measure=>simp [Go.Proofs.intOf];omega
       | false =>
        have HJ2:Hid (j2=scanDown (fun y=>ltInt x[a]! y) x i2 j):=hid (by rw [← HSD.out];exact (scanDown_end (fun y=>ltInt x[a]! y) x i2 j2 (.inr (by rw [← HG.out,← HG.out];exact hl))).symm);obtain ⟨wB,hwB⟩:∃ W,wr.drewN nq=W:=⟨_,rfl⟩
        obtain ⟨mB,hmB⟩:∃ m,nn+nq=m:=⟨_,rfl⟩
        have HWB:Hid (wB=putRow e64 (Sort.ahead w mB) blk off x):=hid (by rw [← hwB,← hmB];exact drew64 HWX.out nq);rw [hwB];clear hwB hmB;clear hcw hfw;obtain ⟨hcw,hfw⟩:=rowG64 hH hx HWB.out HG.out
        by_cases hbr:j2<i2
        ·have q3:decide ((i2:Int) > (j2:Int))=true:=decide_eq_true (by omega)
         have HE:=hid (partEq_break ltInt a i j x HI2.out HJ2.out hbr);go_wp2_with fail;go_ret;unfold Sort.partitionEqual;rw [← HO.out,HE.out];exact ⟨rfl,mB,HWB.out⟩
        ·have q3:decide ((i2:Int) > (j2:Int))=false:=decide_eq_false (by omega)
         have hij:=scans_lt ltInt a i j x (by omega) HI2.out HJ2.out (by omega);have HE:=hid (partEq_go ltInt a i j x HI2.out HJ2.out hbr);have hA:i2<d.size:=by omega
         have hB:j2<d.size:=by omega
         have k1:=hcw i2 hA;have k2:=hcw j2 hB;have f1:=hfw i2 hA;have f2:=hfw j2 hB;have hc3:=swc64 hH hx HWB.out HG.out hA hB;go_wp2_with fail
         go_region
         all_goals go_wp2_with fail
         all_goals
          go_round
          case rel =>
           refine ⟨i2+1,j2 - 1,mB+1,swp x i2 j2,by go_num,by congr 1;omega,by omega,by omega,by omega,by omega,by rw [size_swp];exact hx,?_,by rw [← HE.out];exact HO.out⟩;rw [HG.out,HG.out];exact swap64 HWB.out 1 i2 j2 (by omega) (by omega)
          case measure=>simp [Go.Proofs.intOf];omega
      ·have q2:decide ((i2:Int)≤(j2:Int))=false:=decide_eq_false (by omega)
       go_wp2_with fail
       go_quiet (first | (go_at_call 132;refine Calls.quiet_of_same (less64 _ _ _)))
       have HJ2:Hid (j2=scanDown (fun y=>ltInt x[a]! y) x i2 j):=hid (by rw [← HSD.out];exact (scanDown_end (fun y=>ltInt x[a]! y) x i2 j2 (.inl hle)).symm);obtain ⟨wB,hwB⟩:∃ W,wr.drewN nq=W:=⟨_,rfl⟩
       obtain ⟨mB,hmB⟩:∃ m,nn+nq=m:=⟨_,rfl⟩
       have HWB:Hid (wB=putRow e64 (Sort.ahead w mB) blk off x):=hid (by rw [← hwB,← hmB];exact drew64 HWX.out nq);rw [hwB];clear hwB hmB;clear hcw hfw;obtain ⟨hcw,hfw⟩:=rowG64 hH hx HWB.out HG.out
       by_cases hbr:j2<i2
       ·have q3:decide ((i2:Int) > (j2:Int))=true:=decide_eq_true (by omega)
        have HE:=hid (partEq_break ltInt a i j x HI2.out HJ2.out hbr);go_wp2_with fail;go_ret;unfold Sort.partitionEqual;rw [← HO.out,HE.out];exact ⟨rfl,mB,HWB.out⟩
       ·have q3:decide ((i2:Int) > (j2:Int))=false:=decide_eq_false (by omega)
        have hij:=scans_lt ltInt a i j x (by omega) HI2.out HJ2.out (by omega);have HE:=hid (partEq_go ltInt a i j x HI2.out HJ2.out hbr);have hA:i2<d.size:=by omega
        have hB:j2<d.size:=by omega
        have k1:=hcw i2 hA;have k2:=hcw j2 hB;have f1:=hfw i2 hA;have f2:=hfw j2 hB;have hc3:=swc64 hH hx HWB.out HG.out hA hB;go_wp2_with fail
        go_region
        all_goals go_wp2_with fail
        all_goals
         go_round
         case rel =>
          refine ⟨i2+1,j2 - 1,mB+1,swp x i2 j2,by go_num,by congr 1;omega,by omega,by omega,by omega,by omega,by rw [size_swp];exact hx,?_,by rw [← HE.out];exact HO.out⟩;rw [HG.out,HG.out];exact swap64 HWB.out 1 i2 j2 (by omega) (by omega)
         case measure=>simp [Go.Proofs.intOf];omega
   ·have q2:decide ((i2:Int)≤(j:Int))=false:=decide_eq_false (by omega)
    go_wp2_with fail
    go_quiet (first | (go_at_call 132;refine Calls.quiet_of_same (less64 _ _ _)))
    have HI2:Hid (i2=scanUp (fun y => !ltInt x[a]! y) x j i):=hid (by rw [← HSU.out];exact (scanUp_end (fun y => !ltInt x[a]! y) x j i2 (.inl hle)).symm);obtain ⟨wA,hwA⟩:∃ W,wr.drewN nq=W:=⟨_,rfl⟩
    obtain ⟨mA,hmA⟩:∃ m,nn+nq=m:=⟨_,rfl⟩
    have HWA:Hid (wA=putRow e64 (Sort.ahead w mA) blk off x):=hid (by rw [← hwA,← hmA];exact drew64 HWX.out nq);rw [hwA];clear hwA hmA;go_wp2_with fail
    go_loopw [10] (fun v wx=>∃ (q nn:Nat),v = .int .i64 (q:Int)∧q≤j∧i2≤q+1∧wx=putRow e64 (Sort.ahead w nn) blk off x∧scanDown (fun y=>ltInt x[a]! y) x i2 q=scanDown (fun y=>ltInt x[a]! y) x i2 j) (fun v _=>(Go.Proofs.intOf v).toNat)
    case atStart=>exact ⟨j,mA,rfl,Nat.le_refl _,by omega,HWA.out,rfl⟩
    case round =>
     obtain ⟨j2,nn,rfl,hq1,hq2,hwx,hsd⟩:=hrel;have HSD:=hid hsd;have HWX:=hid hwx;clear hwx hsd hcw hfw;obtain ⟨hcw,hfw⟩:=rowG64 hH hx HWX.out HG.out
     by_cases hle:i2≤j2
     ·have q2:decide ((i2:Int)≤(j2:Int))=true:=decide_eq_true (by omega)
      go_wp2_with fail
      go_quiet (first | (go_at_call 132;refine Calls.quiet_of_same (less64 _ _ _)))
      cases hl:ltInt (G a) (G j2) with
      | true =>
       have HSG:=hid (scanDown_go (fun y=>ltInt x[a]! y) x i2 j2 hle (by omega) (by rw [← HG.out,← HG.out];exact hl));go_wp2_with fail;go_roundw
       case rel=>exact ⟨j2 - 1,nn+nq,by congr 1;omega,by omega,by omega,drew64 HWX.out nq,by rw [← HSG.out];exact HSD.out⟩
       case measure=>simp [Go.Proofs.intOf];omega
      | false =>
       have HJ2:Hid (j2=scanDown (fun y=>ltInt x[a]! y) x i2 j):=hid (by rw [← HSD.out];exact (scanDown_end (fun y=>ltInt x[a]! y) x i2 j2 (.inr (by rw [← HG.out,← HG.out];exact hl))).symm);obtain ⟨wB,hwB⟩:∃ W,wr.drewN nq=W:=⟨_,rfl⟩
       obtain ⟨mB,hmB⟩:∃ m,nn+nq=m:=⟨_,rfl⟩
       have HWB:Hid (wB=putRow e64 (Sort.ahead w mB) blk off x):=hid (by rw [← hwB,← hmB];exact drew64 HWX.out nq);rw [hwB];clear hwB hmB;clear hcw hfw;obtain ⟨hcw,hfw⟩:=rowG64 hH hx HWB.out HG.out
       by_cases hbr:j2<i2
       ·have q3:decide ((i2:Int) > (j2:Int))=true:=decide_eq_true (by omega)
        have HE:=hid (partEq_break ltInt a i j x HI2.out HJ2.out hbr);go_wp2_with fail;go_ret;unfold Sort.partitionEqual;rw [← HO.out,HE.out];exact ⟨rfl,mB,HWB.out⟩
       ·have q3:decide ((i2:Int) > (j2:Int))=false:=decide_eq_false (by omega)
        have hij:=scans_lt ltInt a i j x (by omega) HI2.out HJ2.out (by omega);have HE:=hid (partEq_go ltInt a i j x HI2.out HJ2.out hbr);have hA:i2<d.size:=by omega
        have hB:j2<d.size:=by omega
        have k1:=hcw i2 hA;have k2:=hcw j2 hB;have f1:=hfw i2 hA;have f2:=hfw j2 hB;have hc3:=swc64 hH hx HWB.out HG.out hA hB;go_wp2_with fail
        go_region
        all_goals go_wp2_with fail
        all_goals
         go_round
         case rel =>
          refine ⟨i2+1,j2 - 1,mB+1,swp x i2 j2,by go_num,by congr 1;omega,by omega,by omega,by omega,by omega,by rw [size_swp];exact hx,?_,by rw [← HE.out];exact HO.out⟩;rw [HG.out,HG.out];exact swap64 HWB.out 1 i2 j2 (by omega) (by omega)
         case measure=>simp [Go.Proofs.intOf];omega
     ·have q2:decide ((i2:Int)≤(j2:Int))=false:=decide_eq_false (by omega)
      go_wp2_with fail
      go_quiet (first | (go_at_call 132;refine Calls.quiet_of_same (less64 _ _ _)))
      have HJ2:Hid (j2=scanDown (fun y=>ltInt x[a]! y) x i2 j):=hid (by rw [← HSD.out];exact (scanDown_end (fun y=>ltInt x[a]! y) x i2 j2 (.inl hle)).symm);obtain ⟨wB,hwB⟩:∃ W,wr.drewN nq=W:=⟨_,rfl⟩
      obtain ⟨mB,hmB⟩:∃ m,nn+nq=m:=⟨_,rfl⟩
      have HWB:Hid (wB=putRow e64 (Sort.ahead w mB) blk off x):=hid (by rw [← hwB,← hmB];exact drew64 HWX.out nq);rw [hwB];clear hwB hmB;clear hcw hfw;obtain ⟨hcw,hfw⟩:=rowG64 hH hx HWB.out HG.out
      by_cases hbr:j2<i2
      ·have q3:decide ((i2:Int) > (j2:Int))=true:=decide_eq_true (by omega)
       have HE:=hid (partEq_break ltInt a i j x HI2.out HJ2.out hbr);go_wp2_with fail;go_ret;unfold Sort.partitionEqual;rw [← HO.out,HE.out];exact ⟨rfl,mB,HWB.out⟩
      ·have q3:decide ((i2:Int) > (j2:Int))=false:=decide_eq_false (by omega)
       have hij:=scans_lt ltInt a i j x (by omega) HI2.out HJ2.out (by omega);have HE:=hid (partEq_go ltInt a i j x HI2.out HJ2.out hbr);have hA:i2<d.size:=by omega
       have hB:j2<d.size:=by omega
       have k1:=hcw i2 hA;have k2:=hcw j2 hB;have f1:=hfw i2 hA;have f2:=hfw j2 hB;have hc3:=swc64 hH hx HWB.out HG.out hA hB;go_wp2_with fail
       go_region
       all_goals go_wp2_with fail
       all_goals
        go_round
        case rel =>
         refine ⟨i2+1,j2 - 1,mB+1,swp x i2 j2,by go_num,by congr 1;omega,by omega,by omega,by omega,by omega,by rw [size_swp];exact hx,?_,by rw [← HE.out];exact HO.out⟩;rw [HG.out,HG.out];exact swap64 HWB.out 1 i2 j2 (by omega) (by omega)
        case measure=>simp [Go.Proofs.intOf];omega
end Go.Proofs.YthkmihedkddnmaaGreat
