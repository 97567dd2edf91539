import Derived.Sort.Walk13a
import Derived.Sort.LotD4
import Derived.Sort.LotB
import Derived.Sort.LotC
import Derived.Sort.LotA
import Derived.Deep.Cut
import Derived.Test.YthkmihedkddnmaaGreatUG9
import Derived.Sort.WalkA14
import Derived.Sort.AssemblyPlain
import Derived.Shelf.SlIterI.Nil
import Derived.RangeFuncFrom
import Derived.Test.YthkmihedkddnmaaGreatUG2
import Derived.Test.YthkmihedkddnmaaGreatUG1
import Derived.Test.YthkmihedkddnmaaGreatUG6
import Derived.Maps.Own
import Derived.Maps.OwnSet
set_option linter.unusedVariables false
set_option linter.unusedSimpArgs false
set_option maxHeartbeats 6400000
set_option maxRecDepth 100000
namespace Go.Proofs.YthkmihedkddnmaaGreat
open Go.RowKit Go.Sort
theorem hint264 {h:Hint} (e:hintCode h=2):h = .decreasing:=by cases h <;> simp [hintCode] at e ⊢
theorem eighth64 {x y p q:Nat} (h1:q≤p) (h2:y≤x):decide (((x:Int) - (y:Int)) / 8≤(p:Int) - (q:Int))=decide (p - q ≥ (x - y) / 8) :=
 decide_eq_decide.2 ⟨fun h=>by omega,fun h=>by omega⟩
structure Plain64:Prop where
 swo:SWO ltInt
 ins:insertionSort_stmt ltInt
 par:partialInsertionSort_stmt ltInt
 prt:partition_stmt ltInt
 peq:partitionEqual_stmt ltInt
 pdq:pdq_stmt ltInt
theorem pdq64 (S:Plain64):∀ (N blk off cap a b limit:Nat) (d:Array Int) (w:World),b - a<N→Holds e64 w blk off d→blk<w.heap.size→a≤b→b≤d.size→d.size<4611686018427387904→limit<4611686018427387904→Below ltInt a b d →
  Calls Tryz.prog 106 #[.slice (some ⟨blk,off,none⟩) d.size cap,.int .i64 a,.int .i64 b,.int .i64 limit] w fun e w'=>e = .returned (.tuple #[])∧At e64 w blk off (pdq ltInt d a b limit true true) w':=by
 intro N
 induction N with
 | zero=>intro _ _ _ _ _ _ _ _ h;exact absurd h (Nat.not_lt_zero _)
 | succ N ih =>
  intro blk off cap a b limit d w hN hH hblk hab hb hsz hlimit hBel0
  go_enter Tryz.func106,Tryz.ntmps106
  go_wp2
  go_loopg [1,2,3,8,9] (b - a) (fun k s1 s2 s3 s8 s9 wr=>∃ (a' b' lim:Nat) (wb wp:Bool) (dk:Array Int),s1 = .int .i64 a'∧s2 = .int .i64 b'∧s3 = .int .i64 lim∧s8 = .bool wb∧s9 = .bool wp ∧
   a'≤b'∧b'≤d.size∧b' - a'≤k∧k≤b - a∧lim≤limit∧dk.size=d.size∧Below ltInt a' b' dk∧At e64 w blk off dk wr∧pdq ltInt dk a' b' lim wb wp=pdq ltInt d a b limit true true)
  case atStart=>exact ⟨a,b,limit,true,true,d,rfl,rfl,rfl,rfl,rfl,hab,hb,Nat.le_refl _,Nat.le_refl _,Nat.le_refl _,rfl,hBel0,At.refl hH,rfl⟩
  case round =>
   obtain ⟨a',b',lim,wb,wp,dk,rfl,rfl,rfl,rfl,rfl,hab',hb',hk,hkN,hlim,hds,hBel,hAt,heq⟩:=hrel;obtain ⟨hHk,hblk'⟩:=hAt.holds hH hds hblk;have A:Aside (pdq ltInt dk a' b' lim wb wp=pdq ltInt d a b limit true true):=heq;clear heq
   by_cases h12:b' - a'≤12
   ·-- 'if length <= maxInsertion'
    have h12z:(b':Int) - (a':Int)≤12:=by omega
    have hc:=ins64 blk off cap a' b' dk wr hHk hab' (by omega) (by omega);rw [hds] at hc
    go_wp2_with (go_at_call 126;refine hc.mono ?_;rintro e w1 ⟨rfl,hw1⟩)
    (try simp only [Exit.inBlock,Exit.then]);refine bodyPost_ret (results_none rfl _ _ _) rfl ?_
    refine ⟨rfl,?_⟩;rw [← A.out,pdq_small h12];exact hAt.step hblk (S.ins S.swo dk a' b' hab' (by omega)).1.1 hw1
   ·have h12z : ¬ ((b':Int) - (a':Int)≤12):=by omega
    by_cases hl0:lim=0
    ·-- 'if limit == 0'
     subst hl0;have hc:=heap64 blk off cap a' b' dk wr hHk hab' (by omega) (by omega);rw [hds] at hc
     go_wp2_with (go_at_call 127;refine hc.mono ?_;rintro e w1 ⟨rfl,hw1⟩)
     (try simp only [Exit.inBlock,Exit.then]);refine bodyPost_ret (results_none rfl _ _ _) rfl ?_
     refine ⟨rfl,?_⟩;rw [← A.out,pdq_heap h12 rfl];exact hAt.step hblk (heapSort_holds S.swo dk a' b' hab' (by omega)).1.1 hw1
    ·have hl0z : ¬ ((lim:Int)=0):=by omega
     obtain ⟨s1,B1,hc1,s2,B2,hpv,s3,B3⟩:=rd_facts (limit:=lim) (wb:=wb) (wp:=wp) S.swo S.par reverseRange_holds (show a'<b' by omega) (show b'≤dk.size by omega) hBel
     go_upto_if 35 with fail
     go_cut [3] from 19 (fun s3 wc=>s3 = .int .i64 (rd ltInt dk a' b' lim wb wp).lim∧At e64 w blk off (rd ltInt dk a' b' lim wb wp).d1 wc)
     case first =>
      cases wb
      ·have hc:=brk64 blk off cap a' b' dk wr hHk hblk' hab' (by omega) (by omega)
       rw [hds] at hc
       go_wp2_with (go_at_call 128;refine hc.mono ?_;rintro e w1 ⟨rfl,hw1⟩)
       go_meet
       case rel =>
        refine ⟨?_,hAt.stepG hblk s1 hw1⟩
        show Value.int .i64 ((lim:Int) - 1)=Value.int .i64 ((lim - 1:Nat):Int)
        congr 1
        omega
      ·go_wp2_with fail
       go_meet
       case rel=>exact ⟨rfl,hAt⟩
     case rest =>
      obtain ⟨rfl,hAt1⟩:=hcut;obtain ⟨hH1,hblk1⟩:=hAt1.holds hH (s1.trans hds) hblk;have hc17:Calls Tryz.prog 129 #[.slice (some ⟨blk,off,none⟩) d.size cap,.int .i64 a',.int .i64 b'] wc fun e w'=>e = .returned (.tuple #[.int .i64 (rd ltInt dk a' b' lim wb wp).c.1,.int .i64 (hintCode (rd ltInt dk a' b' lim wb wp).c.2)])∧∃ n os,w'=grow (Sort.ahead wc n) os:=by
       have:=piv64 blk off cap a' b' (rd ltInt dk a' b' lim wb wp).d1 wc hH1 hblk1 (by omega) (by omega) (by omega);rw [s1,hds] at this;exact this
      go_upto_if 50 with (go_at_call 129;refine hc17.mono ?_;rintro e w2 ⟨rfl,hw2⟩)
      have hAt2:At e64 w blk off (rd ltInt dk a' b' lim wb wp).d1 w2:=hAt1.same hH (s1.trans hds) hblk hw2;obtain ⟨hH2,hblk2⟩:=hAt2.holds hH (s1.trans hds) hblk
      go_cut [11,12] from 19 (fun s11 s12 wc=>s11 = .int .i64 (rd ltInt dk a' b' lim wb wp).pivot∧s12 = .int .i64 (hintCode (rd ltInt dk a' b' lim wb wp).hint)∧At e64 w blk off (rd ltInt dk a' b' lim wb wp).d2 wc)
      case first =>
       by_cases hh:(rd ltInt dk a' b' lim wb wp).c.2 = .decreasing
       ·have hcode:hintCode (rd ltInt dk a' b' lim wb wp).c.2=2:=by rw [hh];rfl
        obtain ⟨e2,epv,eht⟩:=rd_dec hh;have hc18:=rev64 blk off cap a' b' (rd ltInt dk a' b' lim wb wp).d1 w2 hH2 (by omega) (by omega) (by omega);rw [s1,hds] at hc18
        go_wp2_with (go_at_call 130;refine hc18.mono ?_;rintro e w3 ⟨rfl,hw3⟩)
        go_meet
        case rel =>
         refine ⟨?_,by rw [eht];rfl,by rw [e2];exact hAt2.step hblk (by rw [← e2,s2,s1]) hw3⟩;rw [epv]
         congr 1
         omega
       ·have hcode : ¬ (hintCode (rd ltInt dk a' b' lim wb wp).c.2=2):=fun h=>hh (hint264 h)
        obtain ⟨e2,epv,eht⟩:=rd_not hh;go_wp2_with fail;go_meet
        case rel=>exact ⟨by rw [epv],by rw [eht],by rw [e2];exact hAt2⟩
      case rest =>
       obtain ⟨rfl,rfl,hAt3⟩:=hcut;obtain ⟨hH3,hblk3⟩:=hAt3.holds hH (s2.trans hds) hblk
       go_upto_region 15 with fail
       go_cut [12,68] from 19 (fun s12 s68 wx=>s12 = .int .i64 (hintCode (rd ltInt dk a' b' lim wb wp).hint)∧s68 = .bool (wb && wp && decide ((rd ltInt dk a' b' lim wb wp).hint = .increasing))∧wx=wc)
       case first =>
        cases wb <;> cases wp <;> cases hh3:(rd ltInt dk a' b' lim _ _).hint <;>
         (
          have hcode3:=congrArg hintCode hh3;simp only [hintCode] at hcode3;go_wp2_with fail;go_meet;exact ⟨by simp [hh3,hintCode],by simp [hh3,hintCode],rfl⟩)
       case rest =>
        obtain ⟨rfl,rfl,rfl⟩:=hcut
        go_upto_if 68 with fail
        go_cut [] from 19 (fun wx=>(rd ltInt dk a' b' lim wb wp).pi.2=false∧At e64 w blk off (rd ltInt dk a' b' lim wb wp).pi.1 wx)
        case first =>
         cases h68:(wb && wp && decide ((rd ltInt dk a' b' lim wb wp).hint = .increasing))
         ·have epi:=rd_pi_no h68
          go_wp2_with fail;go_meet
          case rel=>exact ⟨by rw [epi],by rw [epi];exact hAt3⟩
         ·have epi:=rd_pi_yes h68
          have hc19:=pis64 blk off cap a' b' (rd ltInt dk a' b' lim wb wp).d2 wc hH3 (by omega) (by omega) (by omega);rw [s2,hds,← epi] at hc19
          go_wp2_with (go_at_call 131;refine hc19.mono ?_;rintro e w4 ⟨rfl,hw4⟩)
          all_goals first
           | (
             have hp2:(rd ltInt dk a' b' lim wb wp).pi.2=false:=by rw [epi];assumption
             go_meet;exact ⟨hp2,hAt3.step hblk (by rw [s3,s2]) hw4⟩)
           | (
             have hp2:(rd ltInt dk a' b' lim wb wp).pi.2=true:=by rw [epi];assumption
             (try simp only [Exit.inBlock,Exit.then]);refine bodyPost_ret (results_none rfl _ _ _) rfl ?_
             refine ⟨rfl,?_⟩;rw [← A.out,pdq_done h12 hl0 hp2];exact hAt3.step hblk (by rw [s3,s2]) hw4)
        case rest =>
         obtain ⟨hp2,hAt5⟩:=hcut;obtain ⟨hH5,hblk5⟩:=hAt5.holds hH (s3.trans hds) hblk;have hcw:∀ t,t<d.size→wc.cell? ⟨blk,off+t,none⟩=some (.int .u64 (rd ltInt dk a' b' lim wb wp).pi.1[t]!):=fun t ht=>(hH5 t (by omega)).1;have hfw:∀ t,t<d.size→wc.frozen? ⟨blk,off+t,none⟩=false:=fun t ht=>(hH5 t (by omega)).2
         go_upto_region 17 with fail
         go_cut [87] from 19 (fun s87 wx=>s87 = .bool (decide (a' > 0) && !ltInt (rd ltInt dk a' b' lim wb wp).pi.1[a' - 1]! (rd ltInt dk a' b' lim wb wp).pi.1[(rd ltInt dk a' b' lim wb wp).pivot]!)∧At e64 w blk off (rd ltInt dk a' b' lim wb wp).pi.1 wx)
         case first =>
          rcases Nat.eq_zero_or_pos a' with ha0 | ha0
          ·have ha0z:decide ((a':Int) > 0)=false:=decide_eq_false (by omega)
           go_big_quiet (first | (go_at_call 132;refine Calls.quiet_of_same (less64 _ _ _)))
           go_wp2_with fail;go_meet
           case rel=>exact ⟨by simp [ha0],hAt5.ahead nq⟩
          ·have ha0z:(a':Int) > 0:=by omega
           go_big_quiet (first | (go_at_call 132;refine Calls.quiet_of_same (less64 _ _ _)))
           go_wp2_with fail;go_meet
           case rel=>exact ⟨by simp [ha0],hAt5.ahead nq⟩
         case rest =>
          obtain ⟨rfl,hAt6⟩:=hcut;obtain ⟨hH6,hblk6⟩:=hAt6.holds hH (s3.trans hds) hblk;clear hcw hfw
          cases h87:(decide (a' > 0) && !ltInt (rd ltInt dk a' b' lim wb wp).pi.1[a' - 1]! (rd ltInt dk a' b' lim wb wp).pi.1[(rd ltInt dk a' b' lim wb wp).pivot]!)
          ·-- ████ 'mid,alreadyPartitioned:=partitionOrdered(..)';THE SMALLER SIDE BY A CALL OF ITSELF,the other by the next round
           obtain ⟨mid,ap,d4,hx⟩:∃ mid ap d4,partition ltInt (rd ltInt dk a' b' lim wb wp).pi.1 a' b' (rd ltInt dk a' b' lim wb wp).pivot=(mid,ap,d4):=⟨(partition ltInt (rd ltInt dk a' b' lim wb wp).pi.1 a' b' (rd ltInt dk a' b' lim wb wp).pivot).1,(partition ltInt (rd ltInt dk a' b' lim wb wp).pi.1 a' b' (rd ltInt dk a' b' lim wb wp).pivot).2.1,(partition ltInt (rd ltInt dk a' b' lim wb wp).pi.1 a' b' (rd ltInt dk a' b' lim wb wp).pivot).2.2,rfl⟩
           obtain ⟨r1,r2,r3,r4,r5,r6,r7⟩:=round_part S.swo S.prt hpv.1 hpv.2 (show b'≤(rd ltInt dk a' b' lim wb wp).pi.1.size by omega) B3 hx;have hc22:=prt64 blk off cap a' b' (rd ltInt dk a' b' lim wb wp).pivot (rd ltInt dk a' b' lim wb wp).pi.1 wc hH6 hpv.1 hpv.2 (by omega) (by omega);rw [s3,hds,hx] at hc22;have X:Aside (partition ltInt (rd ltInt dk a' b' lim wb wp).pi.1 a' b' (rd ltInt dk a' b' lim wb wp).pivot=(mid,ap,d4)):=hx;clear hx
           go_upto_if 113 with (go_at_call 134;refine hc22.mono ?_;rintro e w7 ⟨rfl,hw7⟩)
           have hx:=X.out;have hAt7:At e64 w blk off d4 w7:=hAt6.step hblk r3 hw7;obtain ⟨hH7,hblk7⟩:=hAt7.holds hH (r3.trans (s3.trans hds)) hblk
           by_cases h4:mid - a'<b' - mid
           ·have h4z:(mid:Int) - (a':Int)<(b':Int) - (mid:Int):=by omega
            have hih:=ih blk off cap a' mid (rd ltInt dk a' b' lim wb wp).lim d4 w7 (by omega) hH7 hblk7 (by omega) (by omega) (by omega) (Nat.lt_of_le_of_lt (Nat.le_trans rd_lim_le hlim) hlimit) r4;rw [r3,s3,hds] at hih;obtain ⟨pL,sL⟩:=S.pdq S.swo d4 a' mid (rd ltInt dk a' b' lim wb wp).lim true true (by omega) (by omega) r4
            go_wp2_with (go_at_call 106;refine hih.mono ?_;rintro e w8 ⟨rfl,hw8⟩)
            go_roundg (b' - (mid+1))
            case measure=>omega
            case rel =>
             refine ⟨mid+1,b',(rd ltInt dk a' b' lim wb wp).lim,decide (mid - a' ≥ (b' - a') / 8),ap,pdq ltInt d4 a' mid (rd ltInt dk a' b' lim wb wp).lim true true,by simp,rfl,rfl,?_,rfl,by omega,by omega,Nat.le_refl _,by omega,Nat.le_trans rd_lim_le hlim,by rw [pL.1,r3,s3,hds],(r6 _ pL sL).1,hAt7.stepG hblk pL.1 hw8,?_⟩
             ·exact congrArg Value.bool (eighth64 (by omega) (by omega))
             ·rw [← A.out,pdq_left h12 hl0 hp2 h87 (by rw [hx];exact ⟨r1,r2⟩) (by rw [hx];exact h4),hx]
           ·have h4z : ¬ ((mid:Int) - (a':Int)<(b':Int) - (mid:Int)):=by omega
            have hih:=ih blk off cap (mid+1) b' (rd ltInt dk a' b' lim wb wp).lim d4 w7 (by omega) hH7 hblk7 (by omega) (by omega) (by omega) (Nat.lt_of_le_of_lt (Nat.le_trans rd_lim_le hlim) hlimit) r5;rw [r3,s3,hds] at hih;obtain ⟨pL,sL⟩:=S.pdq S.swo d4 (mid+1) b' (rd ltInt dk a' b' lim wb wp).lim true true (by omega) (by omega) r5
            go_wp2_with (go_at_call 106;refine hih.mono ?_;rintro e w8 ⟨rfl,hw8⟩)
            go_roundg (mid - a')
            case measure=>omega
            case rel =>
             refine ⟨a',mid,(rd ltInt dk a' b' lim wb wp).lim,decide (b' - mid ≥ (b' - a') / 8),ap,pdq ltInt d4 (mid+1) b' (rd ltInt dk a' b' lim wb wp).lim true true,rfl,rfl,rfl,?_,rfl,by omega,by omega,Nat.le_refl _,by omega,Nat.le_trans rd_lim_le hlim,by rw [pL.1,r3,s3,hds],(r7 _ pL sL).1,hAt7.stepG hblk pL.1 hw8,?_⟩
             ·exact congrArg Value.bool (eighth64 (by omega) (by omega))
             ·rw [← A.out,pdq_right h12 hl0 hp2 h87 (by rw [hx];exact ⟨r1,r2⟩) (by rw [hx];exact h4),hx]
          ·-- ████ 'mid:=partitionEqualOrdered(..);a=mid;continue'
           have h87':=h87;simp only [Bool.and_eq_true,decide_eq_true_eq,Bool.not_eq_true'] at h87';obtain ⟨mid,d4,hx⟩:∃ mid d4,partitionEqual ltInt (rd ltInt dk a' b' lim wb wp).pi.1 a' b' (rd ltInt dk a' b' lim wb wp).pivot=(mid,d4):=⟨(partitionEqual ltInt (rd ltInt dk a' b' lim wb wp).pi.1 a' b' (rd ltInt dk a' b' lim wb wp).pivot).1,(partitionEqual ltInt (rd ltInt dk a' b' lim wb wp).pi.1 a' b' (rd ltInt dk a' b' lim wb wp).pivot).2,rfl⟩
           obtain ⟨r1,r2,r3,r4,_⟩:=round_eq S.swo S.peq h87'.1 hpv.1 hpv.2 (show b'≤(rd ltInt dk a' b' lim wb wp).pi.1.size by omega) B3 h87'.2 hx;have hc21:=peq64 blk off cap a' b' (rd ltInt dk a' b' lim wb wp).pivot (rd ltInt dk a' b' lim wb wp).pi.1 wc hH6 hpv.1 hpv.2 (by omega) (by omega);rw [s3,hds,hx] at hc21;have X:Aside (partitionEqual ltInt (rd ltInt dk a' b' lim wb wp).pi.1 a' b' (rd ltInt dk a' b' lim wb wp).pivot=(mid,d4)):=hx;clear hx
           go_wp2_with (go_at_call 133;refine hc21.mono ?_;rintro e w7 ⟨rfl,hw7⟩)
           go_roundg (b' - mid)
           case measure=>omega
           case rel =>
            have hx:=X.out;exact ⟨mid,b',(rd ltInt dk a' b' lim wb wp).lim,wb,wp,d4,rfl,rfl,rfl,rfl,rfl,r2,hb',Nat.le_refl _,by omega,Nat.le_trans rd_lim_le hlim,by rw [r3,s3,hds],r4,hAt6.step hblk r3 hw7,by rw [← A.out,pdq_eq h12 hl0 hp2 h87 (by rw [hx];exact ⟨r1,r2⟩),hx]⟩
end Go.Proofs.YthkmihedkddnmaaGreat
namespace Go.Proofs.YthkmihedkddnmaaGreat
open Go.RowKit Go.Sort
theorem plain64:Plain64 where
 swo:=swo_ltInt
 ins:=insertionSort_holds
 par:=partialInsertionSort_holds
 prt:=partition_holds _
 peq:=partitionEqual_holds _
 pdq:=pdq_sorts _
theorem pdqw64 (blk off cap a b limit:Nat) (d:Array Int) (w:World) (hH:Holds e64 w blk off d) (hblk:blk<w.heap.size) (hab:a≤b) (hb:b≤d.size) (hsz:d.size<4611686018427387904) (hl:limit<4611686018427387904) (hB:Below ltInt a b d) :
  Calls Tryz.prog 106 #[.slice (some ⟨blk,off,none⟩) d.size cap,.int .i64 a,.int .i64 b,.int .i64 limit] w fun e w'=>e = .returned (.tuple #[])∧∃ n os,w'=grow (putRow e64 (Sort.ahead w n) blk off (Sort.pdq ltInt d a b limit true true)) os :=
 pdq64 plain64 (b - a+1) blk off cap a b limit d w (by omega) hH hblk hab hb hsz hl hB
theorem sorta64 (blk off cap:Nat) (d:Array Int) (w:World) (hH:Holds e64 w blk off d) (hblk:blk<w.heap.size) (hsz:d.size<4611686018427387904) :
  Calls Tryz.prog 82 #[.slice (some ⟨blk,off,none⟩) d.size cap] w fun e w'=>e = .returned (.tuple #[])∧∃ n os,w'=grow (putRow e64 (Sort.ahead w n) blk off (Sort.sort ltInt d)) os:=by
 have HH:Hid (Holds e64 w blk off d):=hH;clear hH;have hLen:∀ w,Calls Tryz.prog 96 #[.int .u64 (d.size:Int)] w fun e w'=>e = .returned (.int .i64 (bitsLen d.size:Nat))∧w'=w:=fun w=>by
  have h:=bitsLenC (d.size:Int) w (by omega) (by omega)
  rwa [Int.toNat_natCast,bitLen_eq _ (by omega)] at h
 have hk:bitsLen d.size≤62:=(bitsLen_le_iff d.size 62).2 (by omega)
 go_enter Tryz.func82,Tryz.ntmps82
 go_wp2_with (first
  | (go_at_call 96;refine (hLen _).mono ?_;rintro e w' ⟨rfl,rfl⟩)
  | (go_at_call 106;refine (pdqw64 blk off cap 0 d.size (bitsLen d.size) d _ (by exact HH.out) (by exact hblk) (Nat.zero_le _) (Nat.le_refl _) hsz (by omega) (Or.inl rfl)).mono ?_;rintro e w' ⟨rfl,n,os,rfl⟩))
 go_end0
 exact ⟨rfl,n,os,rfl⟩
theorem sorted64 (zs:List Int):Sort.sort ltInt zs.toArray=(zs.mergeSort fun x y=>decide (x≤y)).toArray:=by
 rw [← sortInt zs]
theorem sort64 (blk off cap:Nat) (zs:List Int) (w:World) (hH:Holds e64 w blk off zs.toArray) (hblk:blk<w.heap.size) (hsz:zs.length<4611686018427387904) :
  Calls Tryz.prog 82 #[.slice (some ⟨blk,off,none⟩) zs.length cap] w fun e w' =>
   e = .returned (.tuple #[])∧∃ n os,w'=grow (putRow e64 (Sort.ahead w n) blk off (zs.mergeSort fun x y=>decide (x≤y)).toArray) os:=by
 have h:=sorta64 blk off cap zs.toArray w hH hblk (by simpa using hsz);rw [sorted64] at h
 simpa using h
end Go.Proofs.YthkmihedkddnmaaGreat
namespace Go.Proofs.YthkmihedkddnmaaGreat
open Go.RowKit Go.Sort Go.Shelf Go.Maps
attribute [local go_sem] Oper.semAt_some
abbrev n64 (n:Nat):Value:=.int .u64 (n:Int)
theorem info64:∃ i,Tryz.prog.info? 38=some i∧i.zero=some (.int .u64 0)∧i.size=1∧i.bytes=8:=info_parts (by kernel_rfl)
theorem aps64_in (g:Nat) (lb:Array Value) (eg:∀ args w,(callFunc g args).run Tryz.prog w = .ok (.enter g args) w) (S Sp:List Nat→Prop) (N:Nat) (hN:N≤1000000) (w:World)
  (hseq:SeqStopsK Fence.wide 4 Tryz.prog g lb (fun n:Nat=>#[n64 n]) KeepsWalks S Sp N w) :
  CallsIn Fence.wide 5 Tryz.prog 105 #[.slice none 0 0,.func (.func g) #[] lb] w fun e w'=>∃ (v:Value) (ss:List Nat),e = .returned v∧S ss∧w'.ownsRow w.heap.size 38 1 v ss.length (ss.map n64)∧(v = .slice none 0 0 ↔ ss=[])∧Below w.heap.size w w':=by
 have hro:Fence.wide.round=none:=rfl;obtain ⟨i0,hi,hz0,hz1,hz2⟩:=info64;refine callsIn_of_wp_marks Tryz.func105 rfl trivial ?_ hro;simp only [Tryz.ntmps105,List.size_toArray,List.length_cons,List.length_nil,Nat.reduceAdd,Nat.reduceSub,Array.replicate_succ,Array.replicate_zero,List.push_toArray,List.append_toArray,List.nil_append,List.cons_append]
 gi_wp2
 have b0:=Boxed.new w 69 (.slice none 0 0);have hB0:Below w.heap.size w (w.alloc (.cells #[.slice none 0 0] 69)):=balloc (Below.refl _ w) _;refine wpIn_rangeFunc_ownF hro (by omega) (gf:=g) (lb:=lb) rfl trivial eg hseq
  walksK_t walksK_b hB0 (fun _=>rfl)
  (fun pre Y=>(∃ v,Boxed Y w.heap.size 69 v∧Y.ownsRow w.heap.size 38 1 v pre.length (pre.map n64)∧(v = .slice none 0 0 ↔ pre=[]))∧Below w.heap.size w Y)
  (fun _ _ _=>False)
  (OwnFrom.and (Own.from (holdsRow_own w.heap.size w.heap.size 69 38 1 (fun pre:List Nat=>pre.length) (fun pre=>pre.map n64) (fun pre v=>(v = .slice none 0 0 ↔ pre=[]))) _) (ownFrom_below (Nat.le_refl _) (by simp)))
  (fun _ _ _ _ _ hs _ _=>hs)
  ⟨⟨_,b0,World.ownsRow_nil _ _ _ _,by simp⟩,hB0⟩
  (fun x=>{ tmps:=#[.slice none 0 0,.func (.func g) #[] lb,.pointer (some ⟨w.heap.size,0,none⟩),undef,.slice none 0 0,n64 x,.func (.func g) #[] lb,n64 x,undef,undef,undef,undef,undef],defers:=[] }) ?assign ?body ?done ?stop
 case assign =>
  intro l x W K hK
  gi_wp2
  simpa using hK
 case body =>
  rintro r pre x W ⟨⟨v,hv,hrow,_⟩,hB⟩ hlt;have hvc:=hv.cell;have hvf:=hv.frozen;have hlv:=hv.lt;have hsz:=hB.size
  gi_wp2_with (gi_at_builtin;refine wpListIn_append_own _ rfl _ _ 69 rfl w.heap.size 38 i0 (.int .u64 0) 1 8 Tryz.underlying69 hi hz0 hz1 hz2 rfl (by decide) _ _ _ rfl (hrow.alloc _) ⟨W.heap.size,0,none⟩ 1 1 [n64 x] rfl rfl (cell_one_new _ _ _) (by simp [Value.oneCell']) (by unfold maxLen;omega) (by omega) (by simp;omega) ?_;intro v' w3 hown' hg3 hnil3;obtain ⟨g',cap',rfl⟩:=ownsRow_succ hown';obtain ⟨a1,a2,a3,a4,a5⟩:=hv.appended (by decide) hrow hsz (Nat.le_refl _) hown' hg3;have hc3:=a1.cell;have hf3:=a1.frozen;go_frame)
  refine ⟨a4,a4.walks,⟨_,a2,?_,by simp⟩,hB.trans a5⟩
  simpa using a3
 case done =>
  rintro D ys Y hD hS ⟨⟨v,hv,hrow,hnil⟩,hB⟩ hK;have hvc:=hv.cell
  gi_wp2
  refine ⟨by simp,.inl ⟨_,_,rfl,run_takeDeferred hK,?_⟩⟩;exact ⟨_,results_tmp rfl _ _ _,v,ys,rfl,hS,ownsRow_putObj hrow _ hK rfl,hnil,hB.trans (belowK_b (w:=w) (Nat.le_refl _) Y D _ _ (by simp at hD;omega) hK rfl rfl)⟩
 case stop =>
  rintro D c pre W _ _ h _;exact h.elim
theorem aps64 (g:Nat) (lb:Array Value) (eg:∀ args w,(callFunc g args).run Tryz.prog w = .ok (.enter g args) w) (S Sp:List Nat→Prop) (N:Nat) (hN:N≤1000000) (w:World)
  (hseq:SeqStopsK Fence.wide 4 Tryz.prog g lb (fun n:Nat=>#[n64 n]) KeepsWalks S Sp N w) :
  Calls Tryz.prog 105 #[.slice none 0 0,.func (.func g) #[] lb] w fun e w'=>∃ (v:Value) (ss:List Nat),e = .returned v∧S ss∧w'.ownsRow w.heap.size 38 1 v ss.length (ss.map n64)∧(v = .slice none 0 0 ↔ ss=[])∧Below w.heap.size w w' :=
 callsIn_wide.1 (aps64_in g lb eg S Sp N hN w hseq)
theorem col64 (g:Nat) (lb:Array Value) (eg:∀ args w,(callFunc g args).run Tryz.prog w = .ok (.enter g args) w) (S Sp:List Nat→Prop) (N:Nat) (hN:N≤1000000) (w:World)
  (hseq:SeqStopsK Fence.wide 4 Tryz.prog g lb (fun n:Nat=>#[n64 n]) KeepsWalks S Sp N w) :
  Calls Tryz.prog 81 #[.func (.func g) #[] lb] w fun e w'=>∃ (v:Value) (ss:List Nat),e = .returned v∧S ss∧w'.ownsRow w.heap.size 38 1 v ss.length (ss.map n64)∧(v = .slice none 0 0 ↔ ss=[])∧Below w.heap.size w w':=by
 have C:=aps64 g lb eg S Sp N hN w hseq;clear hseq
 go_enter Tryz.func81,Tryz.ntmps81
 go_wp2_with fail;refine C.mono ?_;rintro e w' ⟨v,ss,rfl,h1,h2,h3,h4⟩;go_wp2_with fail;go_ret;exact ⟨v,ss,rfl,h1,h2,h3,h4⟩
end Go.Proofs.YthkmihedkddnmaaGreat
namespace Go.Proofs.YthkmihedkddnmaaGreat
open Lib (hid)
open Go.RowKit Go.Sort Go.Shelf Go.Maps
theorem insNil64 (p:Option Addr) (cap:Nat) (w:World):Calls Tryz.prog 126 #[.slice p 0 cap,.int .i64 0,.int .i64 0] w fun e w'=>e = .returned (.tuple #[])∧w=w':=by
 go_enter Tryz.func126,Tryz.ntmps126
 go_wp2;refine wp_loop_rounds 1 ?_;rw [rounds_succ];go_wp2
 go_end0
 exact ⟨rfl,rfl⟩
theorem pdqNil64 (p:Option Addr) (cap:Nat) (w:World):Calls Tryz.prog 106 #[.slice p 0 cap,.int .i64 0,.int .i64 0,.int .i64 0] w fun e w'=>e = .returned (.tuple #[])∧w=w':=by
 go_enter Tryz.func106,Tryz.ntmps106
 go_wp2;refine wp_loop_rounds 1 ?_;rw [rounds_succ]
 go_wp2_with (go_at_call 126;refine (insNil64 p cap _).mono ?_;rintro e w' ⟨rfl,rfl⟩)
 refine bodyPost_ret (results_none rfl _ _ _) rfl ?_;exact ⟨rfl,rfl⟩
theorem sortNil64 (p:Option Addr) (cap:Nat) (w:World):Calls Tryz.prog 82 #[.slice p 0 cap] w fun e w'=>e = .returned (.tuple #[])∧w=w':=by
 have hLen:∀ w,Calls Tryz.prog 96 #[.int .u64 0] w fun e w'=>e = .returned (.int .i64 0)∧w'=w:=fun w=>bitsLenC 0 w (by omega) (by omega)
 go_enter Tryz.func82,Tryz.ntmps82
 go_wp2_with (first
  | (go_at_call 96;refine (hLen _).mono ?_;rintro e w' ⟨rfl,rfl⟩)
  | (go_at_call 106;refine (pdqNil64 p cap _).mono ?_;rintro e w' ⟨rfl,rfl⟩))
 go_end0
 exact ⟨rfl,rfl⟩
theorem natSort64 (ss:List Nat):((ss.map fun n:Nat=>(n:Int)).mergeSort fun x y=>decide (x≤y))=(ss.mergeSort fun x y=>decide (x≤y)).map fun n:Nat=>(n:Int):=by
 rw [List.map_mergeSort];intro a _ b _;rw [decide_eq_decide];omega
theorem srd64 (g:Nat) (lb:Array Value) (eg:∀ args w,(callFunc g args).run Tryz.prog w = .ok (.enter g args) w) (S Sp:List Nat→Prop) (N:Nat) (hN:N≤1000000) (hSN:∀ ss,S ss→ss.length≤N) (w:World)
  (hseq:SeqStopsK Fence.wide 4 Tryz.prog g lb (fun n:Nat=>#[n64 n]) KeepsWalks S Sp N w) :
  Calls Tryz.prog 56 #[.func (.func g) #[] lb] w fun e w'=>∃ (v:Value) (ss:List Nat),e = .returned v∧S ss∧w'.ownsRow w.heap.size 38 1 v ss.length ((ss.mergeSort fun x y=>decide (x≤y)).map n64)∧(v = .slice none 0 0 ↔ ss=[])∧Below w.heap.size w w':=by
 have C:=col64 g lb eg S Sp N hN w hseq;clear hseq
 go_enter Tryz.func56,Tryz.ntmps56
 go_wp2_with fail;refine C.mono ?_;rintro e w1 ⟨v,ss,rfl,hS,hrow,hnil,hb⟩;have HN:Hid (v = .slice none 0 0 ↔ ss=[]):=hid hnil;clear hnil C
 rcases hrow.2 with ⟨rfl,hz⟩ | ⟨gb,cap,cur,rfl,hbase,hgb,r1,r2,r3,r4⟩
 ·have hss:ss=[]:=List.eq_nil_of_length_eq_zero hz
  have HSS:=hid hss;have HROW:=hid hrow;clear hrow hss hz;go_wp2_with fail;refine (sortNil64 none 0 w1).mono ?_;rintro e w2 ⟨rfl,rfl⟩;go_wp2_with fail;go_ret;refine ⟨.slice none 0 0,ss,rfl,hS,?_,by simpa using HN.out,hb⟩;have:=HROW.out;rw [HSS.out] at this ⊢
  simpa using this
 ·have hmm:ss.map n64=(ss.map fun n:Nat=>(n:Int)).map e64:=by rw [List.map_map];rfl
  have hH:Holds e64 w1 gb 0 (ss.map fun n:Nat=>(n:Int)).toArray:=by
   intro j hj;have hj':j<ss.length:=by simpa using hj
   refine ⟨?_,by simp [World.frozen?,hgb]⟩;have h1:(cur.toList.take (ss.length * 1))[j]? = (ss.map n64)[j]?:=by rw [r4]
   rw [Nat.mul_one,List.getElem?_take_of_lt hj'] at h1;simp only [World.cell?,hgb,Nat.zero_add];simp only [Option.isSome_none,Bool.false_eq_true,if_false];rw [← Array.getElem?_toList,h1]
   simp [hj']
  have hgl:gb<w1.heap.size:=(hLT hgb)
  have hsz:ss.length<4611686018427387904:=by have:=hSN _ hS;omega
  have cS:=sort64 gb 0 cap (ss.map fun n:Nat=>(n:Int)) w1 hH hgl (by simpa using hsz);rw [natSort64,List.length_map] at cS;have HR:=hid (And.intro hbase (And.intro hgb (And.intro r1 (And.intro r2 r3))));clear hrow hH hgl hgb r1 r2 r3 r4 hbase hmm;go_wp2_with fail;refine cS.mono ?_;rintro e w2 ⟨rfl,n,os,rfl⟩;go_wp2_with fail;go_ret;obtain ⟨hbase,hgb,r1,r2,r3⟩:=HR.out;refine ⟨_,ss,rfl,hS,?_,HN.out,?_⟩
  ·refine ⟨by simp,.inr ⟨gb,cap,putCells e64 0 ((ss.mergeSort fun x y=>decide (x≤y)).map fun n:Nat=>(n:Int)).toArray cur,rfl,hbase,?_,r1,r2,?_,?_⟩⟩
   ·rw [heap_grow_old _ _ (by simpa using (hLT hgb))]
    simp [putRow,mapBlock,Sort.ahead,Array.getElem?_modify,hgb,onCells]
   ·simp [putCells,r3]
   ·apply List.ext_getElem?
    intro j;rw [Nat.mul_one]
    by_cases hj:j<ss.length
    ·rw [List.getElem?_take_of_lt hj,Array.getElem?_toList]
     simp [putCells,hj,show j<cur.size by omega]
    ·rw [List.getElem?_take_eq_none (by omega),List.getElem?_eq_none (by simp;omega)]
  ·refine hb.grown (row:=some gb) ⟨rfl,rfl,rfl,by simp,fun k hk hne => ?_⟩ hb.size (fun j hj=>by cases hj;exact hbase)
   rw [heap_grow_old _ _ (by simpa using hk)];have:gb≠k:=fun e=>hne (by rw [e])
   simp [putRow,mapBlock,Sort.ahead,Array.getElem?_modify,this]
end Go.Proofs.YthkmihedkddnmaaGreat
namespace Go.Proofs.YthkmihedkddnmaaGreat
open Go.RowKit
theorem zeroRow (w:World):(zeroValue 136).run Tryz.prog w = .ok (.agg #[.int .i64 0,.int .i64 0]) w:=by kernel_rfl
theorem zeroSpace (w:World):(zeroValue 137).run Tryz.prog w = .ok (.agg #[.int .i64 0,.int .i64 0]) w:=by kernel_rfl
theorem zeroFork (w:World):(zeroValue 134).run Tryz.prog w = .ok (.agg #[.int .u64 0,.int .u64 0]) w:=by kernel_rfl
theorem as_row (z:Value) (T:TypeId) (w:World):(Instr.typeAssert (.iface 136 z) T 136 true).run Tryz.prog w = .ok (.tuple #[z,.bool true]) w:=run_assert_hit Tryz.underlying136 rfl z w
theorem as_space (z:Value) (T:TypeId) (w:World):(Instr.typeAssert (.iface 137 z) T 137 true).run Tryz.prog w = .ok (.tuple #[z,.bool true]) w:=run_assert_hit Tryz.underlying137 rfl z w
theorem as_fork (z:Value) (T:TypeId) (w:World):(Instr.typeAssert (.iface 134 z) T 134 true).run Tryz.prog w = .ok (.tuple #[z,.bool true]) w:=run_assert_hit Tryz.underlying134 rfl z w
theorem no_row {t:TypeId} (h:t≠136) (z:Value) (T:TypeId) (w:World):(Instr.typeAssert (.iface t z) T 136 true).run Tryz.prog w = .ok (.tuple #[.agg #[.int .i64 0,.int .i64 0],.bool false]) w:=run_assert_miss Tryz.underlying136 rfl h zeroRow z w
theorem no_space {t:TypeId} (h:t≠137) (z:Value) (T:TypeId) (w:World):(Instr.typeAssert (.iface t z) T 137 true).run Tryz.prog w = .ok (.tuple #[.agg #[.int .i64 0,.int .i64 0],.bool false]) w:=run_assert_miss Tryz.underlying137 rfl h zeroSpace z w
theorem no_fork {t:TypeId} (h:t≠134) (z:Value) (T:TypeId) (w:World):(Instr.typeAssert (.iface t z) T 134 true).run Tryz.prog w = .ok (.tuple #[.agg #[.int .u64 0,.int .u64 0],.bool false]) w:=run_assert_miss Tryz.underlying134 rfl h zeroFork z w
theorem nil_row (T:TypeId) (w:World):(Instr.typeAssert .nilIface T 136 true).run Tryz.prog w = .ok (.tuple #[.agg #[.int .i64 0,.int .i64 0],.bool false]) w:=run_assert_nil Tryz.underlying136 rfl zeroRow w
theorem nil_space (T:TypeId) (w:World):(Instr.typeAssert .nilIface T 137 true).run Tryz.prog w = .ok (.tuple #[.agg #[.int .i64 0,.int .i64 0],.bool false]) w:=run_assert_nil Tryz.underlying137 rfl zeroSpace w
theorem nil_fork (T:TypeId) (w:World):(Instr.typeAssert .nilIface T 134 true).run Tryz.prog w = .ok (.tuple #[.agg #[.int .u64 0,.int .u64 0],.bool false]) w:=run_assert_nil Tryz.underlying134 rfl zeroFork w
theorem run_assert_one {P:Program} {t xT:TypeId} {d:TypeDesc} (hu:P.underlying t=some d) (hd:isIfaceD d=false) (v:Value) (w:World):(Instr.typeAssert (.iface t v) xT t false).run P w = .ok v w:=by
 unfold Instr.typeAssert;rw [Sem.run_bind,run_underlying hu w]
 cases d <;> simp_all [isIfaceD]
theorem is_int (z:Value) (T:TypeId) (w:World):(Instr.typeAssert (.iface 3 z) T 3 false).run Tryz.prog w = .ok z w:=run_assert_one Tryz.underlying3 rfl z w
theorem is_row (z:Value) (T:TypeId) (w:World):(Instr.typeAssert (.iface 136 z) T 136 false).run Tryz.prog w = .ok z w:=run_assert_one Tryz.underlying136 rfl z w
theorem is_space (z:Value) (T:TypeId) (w:World):(Instr.typeAssert (.iface 137 z) T 137 false).run Tryz.prog w = .ok z w:=run_assert_one Tryz.underlying137 rfl z w
theorem is_fork (z:Value) (T:TypeId) (w:World):(Instr.typeAssert (.iface 134 z) T 134 false).run Tryz.prog w = .ok z w:=run_assert_one Tryz.underlying134 rfl z w
end Go.Proofs.YthkmihedkddnmaaGreat
namespace Go.Proofs.YthkmihedkddnmaaGreat
open Lib (hid)
open Go.RowKit
open Wire Cmd
def k8:Op0:=⟨8,0,0,0,0,0,[]⟩
def k2:Op0:=⟨2,1,0,0,0,0,[]⟩
def k5:Op0:=⟨5,1,0,0,0,0,List.replicate 64 0⟩
theorem PackP.yes {w w':World} {o:Option (List UInt8)} {bs:List UInt8} {e:Ending} (h:PackP w o e w') (ho:o=some bs):∃ ao cap,e = .returned (.tuple #[.slice ao bs.length cap,.int .i64 0])∧Below w.heap.size w w'∧w'.ownsRow w.heap.size 5 1 (.slice ao bs.length cap) bs.length (bV bs):=by
 obtain ⟨hb,hP⟩:=h;rw [ho] at hP;obtain ⟨v',rfl,ho'⟩:=hP;obtain ⟨ao,cap,rfl,_⟩:=Rd.of_own ho';exact ⟨ao,cap,rfl,hb,ho'⟩
end Go.Proofs.YthkmihedkddnmaaGreat
namespace Go.Proofs.YthkmihedkddnmaaGreat
open Lib (hid)
open Go.RowKit
open Wire Cmd
def partV (o:Op0):Value :=
 if o.k=1∨o.k=3 then .iface 3 (.int .i64 o.size)
 else if o.k=4 then .iface 134 (.agg #[.int .u64 (o.vol:Int),.int .u64 (o.to:Int)])
 else if o.k=5 then .iface 136 (.agg #[.int .i64 o.pl,.int .i64 ((o.data.length:Int) / 64)])
 else if o.k=6∨o.k=9 then .iface 136 (.agg #[.int .i64 o.pl,.int .i64 o.count])
 else if o.k=7 then .iface 137 (.agg #[.int .i64 o.pl,.int .i64 o.count])
 else .nilIface
theorem part13_any (o:Op0) (ao:Option Addr) (cap:Nat) (w:World) (hl:o.data.length≤9223372036854775807):Calls Tryz.prog 71 #[.agg (oC o (.slice ao o.data.length cap))] w fun e w'=>e = .returned (partV o)∧Below w.heap.size w w':=by
 have hb:=balloc (Below.refl _ w) (.cells (oC o (.slice ao o.data.length cap)) 40);obtain ⟨k,vol,dst,size,pl,count,data⟩:=o;unfold oC at *;dsimp only at hb hl ⊢;have HB:=hid hb;clear hb;have HL:=hid hl
 by_cases h1:k=1
 ·have HE:Hid (partV ⟨k,vol,dst,size,pl,count,data⟩ = .iface 3 (.int .i64 size)):=hid (by unfold partV;rw [if_pos (.inl h1)])
  subst h1
  go_enter Tryz.func71,Tryz.ntmps71
  go_wp2_with fail;go_ret;exact ⟨by rw [HE.out];rfl,HB.out⟩
 by_cases h3:k=3
 ·have HE:Hid (partV ⟨k,vol,dst,size,pl,count,data⟩ = .iface 3 (.int .i64 size)):=hid (by unfold partV;rw [if_pos (.inr h3)])
  subst h3
  go_enter Tryz.func71,Tryz.ntmps71
  go_wp2_with fail;go_ret;exact ⟨by rw [HE.out];rfl,HB.out⟩
 by_cases h4:k=4
 ·have HE:Hid (partV ⟨k,vol,dst,size,pl,count,data⟩ = .iface 134 (.agg #[.int .u64 (vol:Int),.int .u64 (dst:Int)])):=hid (by subst h4;rfl)
  subst h4;clear h1 h3
  go_enter Tryz.func71,Tryz.ntmps71
  go_wp2_with fail;go_ret;exact ⟨by rw [HE.out];rfl,HB.out⟩
 by_cases h5:k=5
 ·have HE:Hid (partV ⟨k,vol,dst,size,pl,count,data⟩ = .iface 136 (.agg #[.int .i64 pl,.int .i64 ((data.length:Int) / 64)])):=hid (by subst h5;rfl)
  subst h5;clear h1 h3 h4
  generalize data.length=n at *
  go_enter Tryz.func71,Tryz.ntmps71
  go_wp2_with fail;go_ret;exact ⟨by rw [HE.out];rfl,HB.out⟩
 by_cases h6:k=6
 ·have HE:Hid (partV ⟨k,vol,dst,size,pl,count,data⟩ = .iface 136 (.agg #[.int .i64 pl,.int .i64 count])):=hid (by subst h6;rfl)
  subst h6;clear h1 h3 h4 h5
  go_enter Tryz.func71,Tryz.ntmps71
  go_wp2_with fail;go_ret;exact ⟨by rw [HE.out];rfl,HB.out⟩
 by_cases h9:k=9
 ·have HE:Hid (partV ⟨k,vol,dst,size,pl,count,data⟩ = .iface 136 (.agg #[.int .i64 pl,.int .i64 count])):=hid (by subst h9;rfl)
  subst h9;clear h1 h3 h4 h5 h6
  go_enter Tryz.func71,Tryz.ntmps71
  go_wp2_with fail;go_ret;exact ⟨by rw [HE.out];rfl,HB.out⟩
 by_cases h7:k=7
 ·have HE:Hid (partV ⟨k,vol,dst,size,pl,count,data⟩ = .iface 137 (.agg #[.int .i64 pl,.int .i64 count])):=hid (by subst h7;rfl)
  subst h7;clear h1 h3 h4 h5 h6 h9
  go_enter Tryz.func71,Tryz.ntmps71
  go_wp2_with fail;go_ret;exact ⟨by rw [HE.out];rfl,HB.out⟩
 have HE:Hid (partV ⟨k,vol,dst,size,pl,count,data⟩ = .nilIface):=hid (by
  unfold partV;rw [if_neg (fun h=>by rcases h with h | h;exact h1 h;exact h3 h),if_neg h4,if_neg h5,if_neg (fun h=>by rcases h with h | h;exact h6 h;exact h9 h),if_neg h7])
 have g1:=bneI h1;have g3:=bneI h3;have g4:=bneI h4;have g5:=bneI h5;have g6:=bneI h6;have g9:=bneI h9;have g7:=bneI h7;clear h1 h3 h4 h5 h6 h9 h7
 go_enter Tryz.func71,Tryz.ntmps71
 go_wp2_with fail;go_ret;exact ⟨by rw [HE.out];rfl,HB.out⟩
end Go.Proofs.YthkmihedkddnmaaGreat
namespace Go.Proofs.YthkmihedkddnmaaGreat
open Go.RowKit
section
variable {α:Type} {H:Type}
def insA (x:Nat × α):List (Nat × α)→List (Nat × α)
 | []=>[x]
 | y :: r=>if x.1<y.1 then x :: y :: r else y :: insA x r
def delA (k:Nat) (l:List (Nat × α)):List (Nat × α):=l.filter fun p => !(p.1 == k)
def putA (k:Nat) (a:α) (l:List (Nat × α)):List (Nat × α):=insA (k,a) (delA k l)
def getA (k:Nat) (l:List (Nat × α)):Option α:=(l.find? fun p=>p.1 == k).map (·.2)
def Ris (l:List (Nat × α)):Prop:=l.Pairwise fun p q=>p.1<q.1
theorem mem_insA {x y:Nat × α}:∀ {l:List (Nat × α)},y∈insA x l ↔ y=x∨y∈l
 | []=>by simp [insA]
 | z :: r=>by
  unfold insA
  split
  ·simp
  ·rw [List.mem_cons,mem_insA,List.mem_cons]
   constructor
   ·rintro (h | h | h)
    ·exact .inr (.inl h)
    ·exact .inl h
    ·exact .inr (.inr h)
   ·rintro (h | h | h)
    ·exact .inr (.inl h)
    ·exact .inl h
    ·exact .inr (.inr h)
theorem ris_insA {x:Nat × α}:∀ {l:List (Nat × α)},Ris l→(∀ y∈l,y.1≠x.1)→Ris (insA x l)
 | [],_,_=>by simp [insA,Ris]
 | z :: r,h,hn=>by
  obtain ⟨h1,h2⟩:=List.pairwise_cons.1 h;unfold insA
  split
  ·rename_i hlt
   refine List.pairwise_cons.2 ⟨fun y hy => ?_,h⟩
   rcases List.mem_cons.1 hy with rfl | hy
   ·exact hlt
   ·exact Nat.lt_trans hlt (h1 y hy)
  ·rename_i hlt
   have:=hn z (List.mem_cons_self ..);refine List.pairwise_cons.2 ⟨fun y hy => ?_,ris_insA h2 (fun y hy=>hn y (List.mem_cons_of_mem _ hy))⟩
   rcases mem_insA.1 hy with rfl | hy
   ·omega
   ·exact h1 y hy
theorem ris_filter {l:List (Nat × α)} (h:Ris l) (f:Nat × α→Bool):Ris (l.filter f):=List.Pairwise.filter f h
theorem ris_delA {l:List (Nat × α)} (h:Ris l) (k:Nat):Ris (delA k l):=ris_filter h _
theorem delA_ne {l:List (Nat × α)} {k:Nat}:∀ y∈delA k l,y.1≠k:=by
 intro y hy;have:=(List.mem_filter.1 hy).2
 simpa using this
theorem ris_putA {l:List (Nat × α)} (h:Ris l) (k:Nat) (a:α):Ris (putA k a l):=ris_insA (ris_delA h k) delA_ne
theorem mem_putA {y:Nat × α} {k:Nat} {a:α} {l:List (Nat × α)} (h:y∈putA k a l):y=(k,a)∨y∈l:=by
 rcases mem_insA.1 h with h | h
 ·exact .inl h
 ·exact .inr (List.mem_filter.1 h).1
theorem getA_none {k:Nat} {l:List (Nat × α)} (h:getA k l=none):∀ y∈l,y.1≠k:=by
 intro y hy he;unfold getA at h;rw [Option.map_eq_none_iff,List.find?_eq_none] at h;exact h y hy (by simpa using he)
theorem getA_some {k:Nat} {l:List (Nat × α)} {a:α} (h:getA k l=some a):(k,a)∈l:=by
 unfold getA at h;obtain ⟨p,hp,rfl⟩:=Option.map_eq_some_iff.1 h;have h1:=List.mem_of_find?_eq_some hp;have h2:=List.find?_some hp;have:p.1=k:=by simpa using h2
 subst this;exact h1
theorem getA_at {l:List (Nat × α)} (h:Ris l) {i:Nat} {p:Nat × α} (hp:l[i]? = some p):getA p.1 l=some p.2:=by
 induction l generalizing i with
 | nil=>simp at hp
 | cons y r ih =>
  obtain ⟨h1,h2⟩:=List.pairwise_cons.1 h
  cases i with
  | zero =>
   obtain rfl:y=p:=by simpa using hp
   simp [getA]
  | succ i =>
   have hp':r[i]? = some p:=by simpa using hp
   have:=h1 p (List.mem_of_getElem? hp');have e:(y.1 == p.1)=false:=by rw [beq_eq_false_iff_ne];omega
   have:=ih h2 hp';unfold getA at this ⊢;rw [List.find?_cons,e];exact this
def encA (q:IntKind) (f:α→DataW H) (l:List (Nat × α)):List (Lit × DataW H):=l.map fun p=>(.int q (p.1:Int),f p.2)
def encM (q:IntKind) (f:α→DataW H) (l:List (Nat × α)):DataW H:=.map (encA q f l)
theorem same_enc (q:IntKind) (a b:Nat):(Lit.int q (a:Int)).sameKey (.int q (b:Int))=(a == b):=by
 simp only [Lit.sameKey,true_and];rw [Bool.eq_iff_iff,decide_eq_true_eq,beq_iff_eq];omega
theorem encA_filter (q:IntKind) (f:α→DataW H) (k:Nat) (l:List (Nat × α)):(encA q f l).filter (fun p => !p.1.sameKey (.int q (k:Int)))=encA q f (delA k l):=by
 unfold encA delA;rw [List.filter_map]
 congr 1
 refine List.filter_congr fun p _ => ?_;simp only [Function.comp,same_enc]
theorem encA_insert (q:IntKind) (f:α→DataW H) (k:Nat) (a:α):∀ l:List (Nat × α),DataW.insert (.int q (k:Int),f a) (encA q f l)=encA q f (insA (k,a) l)
 | []=>rfl
 | y :: r=>by
  have ih:=encA_insert q f k a r;unfold encA at ih ⊢;simp only [List.map_cons,DataW.insert,insA,Lit.before,decide_eq_true_eq]
  by_cases h:k<y.1
  ·rw [if_pos (by omega),if_pos h]
   rfl
  ·rw [if_neg (by omega),if_neg h]
   simp only [List.map_cons,ih]
theorem put_enc (q:IntKind) (f:α→DataW H) (k:Nat) (a:α) (l:List (Nat × α)):(encM q f l).put (.int q (k:Int)) (f a)=encM q f (putA k a l):=by
 show DataW.map (DataW.insert _ (List.filter _ _))=_
 rw [encA_filter,encA_insert]
 rfl
theorem del_enc (q:IntKind) (f:α→DataW H) (k:Nat) (l:List (Nat × α)):(encM q f l).del (.int q (k:Int))=encM q f (delA k l):=by
 show DataW.map (List.filter _ _)=_
 rw [encA_filter]
 rfl
theorem find_enc (q:IntKind) (f:α→DataW H) (k:Nat):∀ l:List (Nat × α),(encA q f l).find? (fun p=>p.1.sameKey (.int q (k:Int)))=(l.find? fun p=>p.1 == k).map fun p=>(.int q (p.1:Int),f p.2)
 | []=>rfl
 | y :: r=>by
  have ih:=find_enc q f k r;unfold encA at ih ⊢;rw [List.map_cons,List.find?_cons,List.find?_cons,same_enc,ih]
  cases (y.1 == k) <;> rfl
theorem at_enc (q:IntKind) (f:α→DataW H) (k:Nat) (l:List (Nat × α)) (z:DataW H):(encM q f l).atKey (.int q (k:Int)) z=match getA k l with | some a=>f a | none=>z:=by
 show (match (encA q f l).find? _ with | some p=>p.2 | none=>z)=_
 rw [find_enc];unfold getA
 cases l.find? (fun p=>p.1 == k) <;> rfl
theorem has_enc (q:IntKind) (f:α→DataW H) (k:Nat) (l:List (Nat × α)):Maps.has (encM q f l) (.int q (k:Int))=(getA k l).isSome:=by
 show (encA q f l).any _=_
 unfold getA;rw [Option.isSome_map]
 induction l with
 | nil=>rfl
 | cons y r ih =>
  unfold encA at ih ⊢;rw [List.map_cons,List.any_cons,List.find?_cons,same_enc,ih]
  cases (y.1 == k) <;> simp
theorem size_enc (q:IntKind) (f:α→DataW H) (l:List (Nat × α)):Maps.size (encM q f l)=l.length:=by
 show (encA q f l).length=_
 simp [encA]
end
end Go.Proofs.YthkmihedkddnmaaGreat
