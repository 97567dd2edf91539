import Derived.Sort.WalkA6
import Derived.Test.YthkmihedkddnmaaGreatUG8
import Derived.Sort.Walk7
import Derived.Test.YthkmihedkddnmaaGreatUG6
import Derived.Sort.LotD4
import Derived.Sort.Grow
import Derived.Sort.AtCall
import Derived.BigGuard
import Derived.BigCall
import Derived.CellFam
set_option linter.unusedVariables false
set_option linter.unusedSimpArgs false
set_option maxHeartbeats 1600000
set_option maxRecDepth 100000
namespace Go.Proofs.YthkmihedkddnmaaGreat
open Go.RowKit Go.Sort
theorem pis64 (blk off cap a b:Nat) (d:Array Int) (w:World) (hH:Holds e64 w blk off d) (hab:a<b) (hb:b≤d.size) (hsz:d.size<4611686018427387904) :
  Calls Tryz.prog 131 #[.slice (some ⟨blk,off,none⟩) d.size cap,.int .i64 a,.int .i64 b] w fun e w' =>
   e = .returned (.bool (Sort.partialInsertionSort ltInt d a b).2)∧∃ n,w'=putRow e64 (Sort.ahead w n) blk off (Sort.partialInsertionSort ltInt d a b).1:=by
 have HH:Hid (Holds e64 w blk off d):=hH;have HST:Hid (w=putRow e64 (Sort.ahead w 0) blk off d):=(putRow_self _ _ _ _ _ hH).symm;clear hH
 go_enter Tryz.func131,Tryz.ntmps131
 go_wp2
 go_loopw [7,8] (fun vi vs wr=>∃ (i s n:Nat) (dk:Array Int),vi = .int .i64 i∧vs = .int .i64 s∧s≤5∧a<i∧i≤b∧dk.size=d.size∧wr=putRow e64 (Sort.ahead w n) blk off dk ∧
   partialIns ltInt a b (5 - s) i dk=partialIns ltInt a b 5 (a+1) d) (fun _ vs _=>5 - (Go.Proofs.intOf vs).toNat)
 case atStart=>exact ⟨a+1,0,0,d,by go_num,rfl,by omega,by omega,by omega,rfl,HST.out,rfl⟩
 case round =>
  obtain ⟨i,s,n,dk,rfl,rfl,hs5,hai,hib,hsk,hwr,hO⟩:=hrel;have HO:Hid (partialIns ltInt a b (5 - s) i dk=partialIns ltInt a b 5 (a+1) d):=hO;clear hO;go_wp2
  ·-- s<5: the scan
   have hs:s<5:=by omega
   go_loopw [7] (fun vi wr2=>∃ (k m:Nat),vi = .int .i64 k∧i≤k∧k≤b∧wr2=putRow e64 (Sort.ahead w m) blk off dk∧scanSorted ltInt dk b k=scanSorted ltInt dk b i) (fun vi _=>b - (Go.Proofs.intOf vi).toNat)
   case atStart=>exact ⟨i,n,rfl,Nat.le_refl _,hib,rfl,rfl⟩
   case round =>
    obtain ⟨k,m,rfl,hik,hkb,hw2,hS⟩:=hrel;obtain ⟨G,hG⟩:∃ G:Nat→Int,∀ t,G t=dk[t]!:=⟨fun t=>dk[t]!,fun _=>rfl⟩
    have hcw:∀ t,t<d.size→wr.cell? ⟨blk,off+t,none⟩=some (.int .u64 (G t)):=fun t ht=>by
     rw [hw2,hG];exact cell?_putRow _ _ _ _ d dk (holds_ahead _ _ _ _ _ _ HH.out) hsk t (by omega)
    have hfw:∀ t,t<d.size→wr.frozen? ⟨blk,off+t,none⟩=false:=fun t ht=>by
     rw [hw2,frozen?_putRow];exact ((holds_ahead _ _ m _ _ _ HH.out) t ht).2
    have HW:Hid (wr=putRow e64 (Sort.ahead w m) blk off dk):=hw2;have HG:Hid (∀ t,G t=dk[t]!):=hG;have HS:Hid (scanSorted ltInt dk b k=scanSorted ltInt dk b i):=hS;clear hw2 hG hS;go_wp2
    by_cases hkb':k<b
    ·go_quiet (first | (go_at_call 132;refine Calls.quiet_of_same (less64 _ _ _)))
     go_wp2
     all_goals first
      | (
        at_end
        have hl:ltInt (G k) (G (k - 1))=false:=by
         have h:(!ltInt (G k) (G (k - 1)))=true:=by assumption
         simpa using h
        go_roundw
        case rel=>exact ⟨k+1,m+nq,by go_num,by omega,by omega,by rw [HW.out];exact putRow_drewN _ _ _ _ _ _ _,by rw [← HS.out,scanSorted_go ltInt dk b k hkb' (by rw [← HG.out,← HG.out];exact hl)]⟩
        case measure=>simp [Go.Proofs.intOf];omega)
      | (
        have hl:ltInt (G k) (G (k - 1))=true:=by
         have h:(!ltInt (G k) (G (k - 1)))=false:=by assumption
         simpa using h
        have HK:Hid (scanSorted ltInt dk b i=k):=by
         show scanSorted ltInt dk b i=k
         rw [← HS.out,scanSorted_stop ltInt dk b k (Or.inr (by rw [← HG.out,← HG.out];exact hl))]
        first
         | (
          at_ret
          have hv:Sort.partialInsertionSort ltInt d a b=(dk,false):=by
           unfold Sort.partialInsertionSort;rw [← HO.out,pi_short ltInt a b s i dk hs (by rw [HK.out];omega) (by omega)]
          rw [hv];go_ret;exact ⟨rfl,m+nq,by rw [HW.out];exact putRow_drewN _ _ _ _ _ _ _⟩)
         | (
          at_region 11
          have h50 : ¬ b - a<50:=by omega
          go_region
          have hsw:((wr.drewN (nq+1)).setCell ⟨blk,off+k,none⟩ (.int .u64 (G (k - 1)))).setCell ⟨blk,off+(k - 1),none⟩ (.int .u64 (G k))=putRow e64 (Sort.ahead w (m+(nq+1))) blk off (swp dk k (k - 1)):=by
           rw [HW.out,HG.out,HG.out];exact swap_worldA _ w m (nq+1) blk off dk k (k - 1) (by omega) (by omega)
          have hs1:(swp dk k (k - 1)).size=d.size:=by rw [size_swp];exact hsk
          go_wp2
          all_goals first
           | (
             at_loop
             have hka:k - a ≥ 2:=by omega
             go_loopw [9] (fun vj wr2=>∃ (j m2:Nat) (dj:Array Int),vj = .int .i64 j∧j≤k - 1∧dj.size=d.size∧wr2=putRow e64 (Sort.ahead w m2) blk off dj ∧
               shiftDown ltInt j dj=shiftDown ltInt (k - 1) (swp dk k (k - 1))) (fun vj _=>(Go.Proofs.intOf vj).toNat)
             case atStart=>exact ⟨k - 1,_,(swp dk k (k - 1)),by congr 1;omega,Nat.le_refl _,hs1,rfl,rfl⟩
             case round =>
              obtain ⟨j,m2,dj,rfl,hjk,hsj,hw2,hDn⟩:=hrel;obtain ⟨G,hG⟩:∃ G:Nat→Int,∀ t,G t=dj[t]!:=⟨fun t=>dj[t]!,fun _=>rfl⟩
              have hcw:∀ t,t<d.size→wr.cell? ⟨blk,off+t,none⟩=some (.int .u64 (G t)):=fun t ht=>by
               rw [hw2,hG];exact cell?_putRow _ _ _ _ d dj (holds_ahead _ _ _ _ _ _ HH.out) hsj t (by omega)
              have hfw:∀ t,t<d.size→wr.frozen? ⟨blk,off+t,none⟩=false:=fun t ht=>by
               rw [hw2,frozen?_putRow];exact ((holds_ahead _ _ m2 _ _ _ HH.out) t ht).2
              have HW:Hid (wr=putRow e64 (Sort.ahead w m2) blk off dj):=hw2;have HG:Hid (∀ t,G t=dj[t]!):=hG;have HDn:Hid (shiftDown ltInt j dj=shiftDown ltInt (k - 1) (swp dk k (k - 1))):=hDn;clear hw2 hG hDn hsw;go_wp2
              all_goals first
               | (
                at_region 16
                go_quiet (first | (go_at_call 132;refine Calls.quiet_of_same (less64 _ _ _)))
                go_wp2
                all_goals first
                 | (
                   at_region 17
                   have hl:ltInt (G j) (G (j - 1))=true:=by
                    have h:(!ltInt (G j) (G (j - 1)))=false:=by assumption
                    simpa using h
                   go_region
                   all_goals go_wp2
                   go_roundw
                   case rel =>
                    refine ⟨j - 1,m2+(nq+1),swp dj j (j - 1),by congr 1;omega,by omega,by rw [size_swp];exact hsj,?_,?_⟩
                    ·rw [HW.out,HG.out,HG.out]
                     exact swap_worldA _ w m2 (nq+1) blk off dj j (j - 1) (by omega) (by omega)
                    ·rw [← HDn.out,shiftDown_go ltInt j dj (by omega) (by rw [← HG.out,← HG.out];exact hl)]
                   case measure=>simp [Go.Proofs.intOf];omega)
                 | (
                   have hl:ltInt (G j) (G (j - 1))=false:=by
                    have h:(!ltInt (G j) (G (j - 1)))=true:=by assumption
                    simpa using h
                   have HD:Hid (fixDown ltInt a k (swp dk k (k - 1))=dj):=by
                    show fixDown ltInt a k (swp dk k (k - 1))=dj
                    unfold fixDown;rw [if_pos hka,← HDn.out,shiftDown_stop ltInt j dj (Or.inr (by rw [← HG.out,← HG.out];exact hl))]
                   first
                    | (
                     at_end
                     go_roundw
                     case rel =>
                      refine ⟨k,s+1,_,dj,rfl,by go_num,by omega,by omega,by omega,hsj,(by first | rfl | exact HW.out | (rw [HW.out];exact putRow_drewN _ _ _ _ _ _ _)),?_⟩;rw [← HO.out,pi_go ltInt a b s i k dk hs HK.out (by omega) (by omega),HD.out,show fixUp ltInt b k dj=dj from by unfold fixUp;rw [if_neg (by omega)]]
                     case measure=>simp [Go.Proofs.intOf];omega)
                    | (
                     at_loop
                     go_loopw [10] (fun vj wr2=>∃ (j m3:Nat) (du:Array Int),vj = .int .i64 j∧k+1≤j∧j≤b∧du.size=d.size∧wr2=putRow e64 (Sort.ahead w m3) blk off du ∧
                       shiftUp ltInt b j du=shiftUp ltInt b (k+1) dj) (fun vj _=>b - (Go.Proofs.intOf vj).toNat)
                     case atStart=>exact ⟨k+1,_,dj,by go_num,Nat.le_refl _,by omega,hsj,(by first | rfl | exact HW.out | (rw [HW.out];exact putRow_drewN _ _ _ _ _ _ _)),rfl⟩
                     case round =>
                      obtain ⟨j,m3,du,rfl,hkj,hjb,hsu,hw3,hU⟩:=hrel;obtain ⟨G,hG⟩:∃ G:Nat→Int,∀ t,G t=du[t]!:=⟨fun t=>du[t]!,fun _=>rfl⟩
                      have hcw:∀ t,t<d.size→wr.cell? ⟨blk,off+t,none⟩=some (.int .u64 (G t)):=fun t ht=>by
                       rw [hw3,hG];exact cell?_putRow _ _ _ _ d du (holds_ahead _ _ _ _ _ _ HH.out) hsu t (by omega)
                      have hfw:∀ t,t<d.size→wr.frozen? ⟨blk,off+t,none⟩=false:=fun t ht=>by
                       rw [hw3,frozen?_putRow];exact ((holds_ahead _ _ m3 _ _ _ HH.out) t ht).2
                      have HW:Hid (wr=putRow e64 (Sort.ahead w m3) blk off du):=hw3;have HG:Hid (∀ t,G t=du[t]!):=hG;have HU:Hid (shiftUp ltInt b j du=shiftUp ltInt b (k+1) dj):=hU;clear hw3 hG hU;go_wp2
                      all_goals first
                       | (
                         at_region 22
                         go_quiet (first | (go_at_call 132;refine Calls.quiet_of_same (less64 _ _ _)))
                         go_wp2
                         all_goals first
                          | (
                           at_region 23
                           have hl:ltInt (G j) (G (j - 1))=true:=by
                            have h:(!ltInt (G j) (G (j - 1)))=false:=by assumption
                            simpa using h
                           go_region
                           all_goals go_wp2
                           go_roundw
                           case rel =>
                            refine ⟨j+1,m3+(nq+1),swp du j (j - 1),by go_num,by omega,by omega,by rw [size_swp];exact hsu,?_,?_⟩
                            ·rw [HW.out,HG.out,HG.out]
                             exact swap_worldA _ w m3 (nq+1) blk off du j (j - 1) (by omega) (by omega)
                            ·rw [← HU.out,shiftUp_go ltInt b j du (by omega) (by rw [← HG.out,← HG.out];exact hl)]
                           case measure=>simp [Go.Proofs.intOf];omega)
                          | (
                           at_end
                           have hl:ltInt (G j) (G (j - 1))=false:=by
                            have h:(!ltInt (G j) (G (j - 1)))=true:=by assumption
                            simpa using h
                           go_roundw
                           case rel =>
                            refine ⟨k,s+1,_,du,rfl,by go_num,by omega,by omega,by omega,hsu,(by first | rfl | exact HW.out | (rw [HW.out];exact putRow_drewN _ _ _ _ _ _ _)),?_⟩;rw [← HO.out,pi_go ltInt a b s i k dk hs HK.out (by omega) (by omega),HD.out,show fixUp ltInt b k dj=du from by unfold fixUp;rw [if_pos (by omega),← HU.out,shiftUp_stop ltInt b j du (Or.inr (by rw [← HG.out,← HG.out];exact hl))]]
                           case measure=>simp [Go.Proofs.intOf];omega))
                       | (
                         at_end
                         go_roundw
                         case rel =>
                          refine ⟨k,s+1,_,du,rfl,by go_num,by omega,by omega,by omega,hsu,(by first | rfl | exact HW.out | (rw [HW.out];exact putRow_drewN _ _ _ _ _ _ _)),?_⟩;rw [← HO.out,pi_go ltInt a b s i k dk hs HK.out (by omega) (by omega),HD.out,show fixUp ltInt b k dj=du from by unfold fixUp;rw [if_pos (by omega),← HU.out,shiftUp_stop ltInt b j du (Or.inl (by omega))]]
                         case measure=>simp [Go.Proofs.intOf];omega))))
               | (
                have HD:Hid (fixDown ltInt a k (swp dk k (k - 1))=dj):=by
                 show fixDown ltInt a k (swp dk k (k - 1))=dj
                 unfold fixDown;rw [if_pos hka,← HDn.out,shiftDown_stop ltInt j dj (Or.inl (by omega))]
                first
                 | (
                   at_end
                   go_roundw
                   case rel =>
                    refine ⟨k,s+1,_,dj,rfl,by go_num,by omega,by omega,by omega,hsj,(by first | rfl | exact HW.out | (rw [HW.out];exact putRow_drewN _ _ _ _ _ _ _)),?_⟩;rw [← HO.out,pi_go ltInt a b s i k dk hs HK.out (by omega) (by omega),HD.out,show fixUp ltInt b k dj=dj from by unfold fixUp;rw [if_neg (by omega)]]
                   case measure=>simp [Go.Proofs.intOf];omega)
                 | (
                   at_loop
                   go_loopw [10] (fun vj wr2=>∃ (j m3:Nat) (du:Array Int),vj = .int .i64 j∧k+1≤j∧j≤b∧du.size=d.size∧wr2=putRow e64 (Sort.ahead w m3) blk off du ∧
                     shiftUp ltInt b j du=shiftUp ltInt b (k+1) dj) (fun vj _=>b - (Go.Proofs.intOf vj).toNat)
                   case atStart=>exact ⟨k+1,_,dj,by go_num,Nat.le_refl _,by omega,hsj,(by first | rfl | exact HW.out | (rw [HW.out];exact putRow_drewN _ _ _ _ _ _ _)),rfl⟩
                   case round =>
                    obtain ⟨j,m3,du,rfl,hkj,hjb,hsu,hw3,hU⟩:=hrel;obtain ⟨G,hG⟩:∃ G:Nat→Int,∀ t,G t=du[t]!:=⟨fun t=>du[t]!,fun _=>rfl⟩
                    have hcw:∀ t,t<d.size→wr.cell? ⟨blk,off+t,none⟩=some (.int .u64 (G t)):=fun t ht=>by
                     rw [hw3,hG];exact cell?_putRow _ _ _ _ d du (holds_ahead _ _ _ _ _ _ HH.out) hsu t (by omega)
                    have hfw:∀ t,t<d.size→wr.frozen? ⟨blk,off+t,none⟩=false:=fun t ht=>by
                     rw [hw3,frozen?_putRow];exact ((holds_ahead _ _ m3 _ _ _ HH.out) t ht).2
                    have HW:Hid (wr=putRow e64 (Sort.ahead w m3) blk off du):=hw3;have HG:Hid (∀ t,G t=du[t]!):=hG;have HU:Hid (shiftUp ltInt b j du=shiftUp ltInt b (k+1) dj):=hU;clear hw3 hG hU;go_wp2
                    all_goals first
                     | (
                      at_region 22
                      go_quiet (first | (go_at_call 132;refine Calls.quiet_of_same (less64 _ _ _)))
                      go_wp2
                      all_goals first
                       | (
                         at_region 23
                         have hl:ltInt (G j) (G (j - 1))=true:=by
                          have h:(!ltInt (G j) (G (j - 1)))=false:=by assumption
                          simpa using h
                         go_region
                         all_goals go_wp2
                         go_roundw
                         case rel =>
                          refine ⟨j+1,m3+(nq+1),swp du j (j - 1),by go_num,by omega,by omega,by rw [size_swp];exact hsu,?_,?_⟩
                          ·rw [HW.out,HG.out,HG.out]
                           exact swap_worldA _ w m3 (nq+1) blk off du j (j - 1) (by omega) (by omega)
                          ·rw [← HU.out,shiftUp_go ltInt b j du (by omega) (by rw [← HG.out,← HG.out];exact hl)]
                         case measure=>simp [Go.Proofs.intOf];omega)
                       | (
                         at_end
                         have hl:ltInt (G j) (G (j - 1))=false:=by
                          have h:(!ltInt (G j) (G (j - 1)))=true:=by assumption
                          simpa using h
                         go_roundw
                         case rel =>
                          refine ⟨k,s+1,_,du,rfl,by go_num,by omega,by omega,by omega,hsu,(by first | rfl | exact HW.out | (rw [HW.out];exact putRow_drewN _ _ _ _ _ _ _)),?_⟩;rw [← HO.out,pi_go ltInt a b s i k dk hs HK.out (by omega) (by omega),HD.out,show fixUp ltInt b k dj=du from by unfold fixUp;rw [if_pos (by omega),← HU.out,shiftUp_stop ltInt b j du (Or.inr (by rw [← HG.out,← HG.out];exact hl))]]
                         case measure=>simp [Go.Proofs.intOf];omega))
                     | (
                      at_end
                      go_roundw
                      case rel =>
                       refine ⟨k,s+1,_,du,rfl,by go_num,by omega,by omega,by omega,hsu,(by first | rfl | exact HW.out | (rw [HW.out];exact putRow_drewN _ _ _ _ _ _ _)),?_⟩;rw [← HO.out,pi_go ltInt a b s i k dk hs HK.out (by omega) (by omega),HD.out,show fixUp ltInt b k dj=du from by unfold fixUp;rw [if_pos (by omega),← HU.out,shiftUp_stop ltInt b j du (Or.inl (by omega))]]
                      case measure=>simp [Go.Proofs.intOf];omega))))
           | (
             have HD:Hid (fixDown ltInt a k (swp dk k (k - 1))=(swp dk k (k - 1))):=by
              show fixDown ltInt a k (swp dk k (k - 1))=(swp dk k (k - 1))
              unfold fixDown;rw [if_neg (by omega)]
             first
              | (
               at_end
               go_roundw
               case rel =>
                refine ⟨k,s+1,_,(swp dk k (k - 1)),rfl,by go_num,by omega,by omega,by omega,hs1,(by first | rfl | exact HW.out | (rw [HW.out];exact putRow_drewN _ _ _ _ _ _ _)),?_⟩;rw [← HO.out,pi_go ltInt a b s i k dk hs HK.out (by omega) (by omega),HD.out,show fixUp ltInt b k (swp dk k (k - 1))=(swp dk k (k - 1)) from by unfold fixUp;rw [if_neg (by omega)]]
               case measure=>simp [Go.Proofs.intOf];omega)
              | (
               at_loop
               go_loopw [10] (fun vj wr2=>∃ (j m3:Nat) (du:Array Int),vj = .int .i64 j∧k+1≤j∧j≤b∧du.size=d.size∧wr2=putRow e64 (Sort.ahead w m3) blk off du ∧
                 shiftUp ltInt b j du=shiftUp ltInt b (k+1) (swp dk k (k - 1))) (fun vj _=>b - (Go.Proofs.intOf vj).toNat)
               case atStart=>exact ⟨k+1,_,(swp dk k (k - 1)),by go_num,Nat.le_refl _,by omega,hs1,(by first | rfl | exact HW.out | (rw [HW.out];exact putRow_drewN _ _ _ _ _ _ _)),rfl⟩
               case round =>
                obtain ⟨j,m3,du,rfl,hkj,hjb,hsu,hw3,hU⟩:=hrel;obtain ⟨G,hG⟩:∃ G:Nat→Int,∀ t,G t=du[t]!:=⟨fun t=>du[t]!,fun _=>rfl⟩
                have hcw:∀ t,t<d.size→wr.cell? ⟨blk,off+t,none⟩=some (.int .u64 (G t)):=fun t ht=>by
                 rw [hw3,hG];exact cell?_putRow _ _ _ _ d du (holds_ahead _ _ _ _ _ _ HH.out) hsu t (by omega)
                have hfw:∀ t,t<d.size→wr.frozen? ⟨blk,off+t,none⟩=false:=fun t ht=>by
                 rw [hw3,frozen?_putRow];exact ((holds_ahead _ _ m3 _ _ _ HH.out) t ht).2
                have HW:Hid (wr=putRow e64 (Sort.ahead w m3) blk off du):=hw3;have HG:Hid (∀ t,G t=du[t]!):=hG;have HU:Hid (shiftUp ltInt b j du=shiftUp ltInt b (k+1) (swp dk k (k - 1))):=hU;clear hw3 hG hU;go_wp2
                all_goals first
                 | (
                   at_region 22
                   go_quiet (first | (go_at_call 132;refine Calls.quiet_of_same (less64 _ _ _)))
                   go_wp2
                   all_goals first
                    | (
                     at_region 23
                     have hl:ltInt (G j) (G (j - 1))=true:=by
                      have h:(!ltInt (G j) (G (j - 1)))=false:=by assumption
                      simpa using h
                     go_region
                     all_goals go_wp2
                     go_roundw
                     case rel =>
                      refine ⟨j+1,m3+(nq+1),swp du j (j - 1),by go_num,by omega,by omega,by rw [size_swp];exact hsu,?_,?_⟩
                      ·rw [HW.out,HG.out,HG.out]
                       exact swap_worldA _ w m3 (nq+1) blk off du j (j - 1) (by omega) (by omega)
                      ·rw [← HU.out,shiftUp_go ltInt b j du (by omega) (by rw [← HG.out,← HG.out];exact hl)]
                     case measure=>simp [Go.Proofs.intOf];omega)
                    | (
                     at_end
                     have hl:ltInt (G j) (G (j - 1))=false:=by
                      have h:(!ltInt (G j) (G (j - 1)))=true:=by assumption
                      simpa using h
                     go_roundw
                     case rel =>
                      refine ⟨k,s+1,_,du,rfl,by go_num,by omega,by omega,by omega,hsu,(by first | rfl | exact HW.out | (rw [HW.out];exact putRow_drewN _ _ _ _ _ _ _)),?_⟩;rw [← HO.out,pi_go ltInt a b s i k dk hs HK.out (by omega) (by omega),HD.out,show fixUp ltInt b k (swp dk k (k - 1))=du from by unfold fixUp;rw [if_pos (by omega),← HU.out,shiftUp_stop ltInt b j du (Or.inr (by rw [← HG.out,← HG.out];exact hl))]]
                     case measure=>simp [Go.Proofs.intOf];omega))
                 | (
                   at_end
                   go_roundw
                   case rel =>
                    refine ⟨k,s+1,_,du,rfl,by go_num,by omega,by omega,by omega,hsu,(by first | rfl | exact HW.out | (rw [HW.out];exact putRow_drewN _ _ _ _ _ _ _)),?_⟩;rw [← HO.out,pi_go ltInt a b s i k dk hs HK.out (by omega) (by omega),HD.out,show fixUp ltInt b k (swp dk k (k - 1))=du from by unfold fixUp;rw [if_pos (by omega),← HU.out,shiftUp_stop ltInt b j du (Or.inl (by omega))]]
                   case measure=>simp [Go.Proofs.intOf];omega)))))
    ·-- the scan has come to b: true
     go_quiet (first | (go_at_call 132;refine Calls.quiet_of_same (less64 _ _ _)))
     go_wp2;obtain rfl:k=b:=by omega
     have hv:Sort.partialInsertionSort ltInt d a k=(dk,true):=by
      unfold Sort.partialInsertionSort;rw [← HO.out,pi_true ltInt a k s i dk hs (by rw [← HS.out,scanSorted_stop ltInt dk k k (Or.inl (by omega))])]
     rw [hv];go_ret;exact ⟨rfl,m+nq,by rw [HW.out];exact putRow_drewN _ _ _ _ _ _ _⟩
  ·-- five steps are done: false
   obtain rfl:s=5:=by omega
   have hv:Sort.partialInsertionSort ltInt d a b=(dk,false):=by
    unfold Sort.partialInsertionSort;rw [← HO.out,pi_end]
   rw [hv];go_ret;exact ⟨rfl,n,rfl⟩
end Go.Proofs.YthkmihedkddnmaaGreat
namespace Go.Proofs.YthkmihedkddnmaaGreat
open Go.RowKit Go.Sort
theorem brkgo64 (blk off cap a L:Nat) (d:Array Int) (w:World) (hH:Holds e64 w blk off d) (hblk:blk<w.heap.size) (hb:a+L≤d.size) (hsz:d.size<4611686018427387904) (h8:8≤L) :
  Calls Tryz.prog 128 #[.slice (some ⟨blk,off,none⟩) d.size cap,.int .i64 a,.int .i64 ((a+L:Nat):Int)] w fun e w' =>
   e = .returned (.tuple #[])∧∃ n os,w'=grow (putRow e64 (Sort.ahead w n) blk off (breakPatterns d a (a+L))) os:=by
 rw [breakPatterns_eq d a L h8];obtain ⟨M,hM⟩:∃ M:Nat,M=1 <<< bitsLen L:=⟨_,rfl⟩
 have hM1:1≤M:=by rw [hM,Nat.one_shiftLeft];exact Nat.two_pow_pos _
 have hM2:M≤2 * L:=by rw [hM,Nat.one_shiftLeft];exact two_pow_bitsLen_le (by omega)
 have hNP:∀ w,Calls Tryz.prog 140 #[.int .i64 (L:Int)] w fun e w'=>e = .returned (.int .u64 (M:Int))∧w'=w:=by rw [hM];exact fun w=>npow L (by omega) w
 rw [← hM];clear hM;have HH:Hid (Holds e64 w blk off d):=hH;have HST:Hid (w.alloc (Obj.cells #[.int .u64 (L:Int)] 201)=grow (putRow e64 (Sort.ahead w 0) blk off d) #[Obj.cells #[.int .u64 ((UInt64.ofNat L).toNat:Int)] 201]):=by
  show _=_
  rw [show Sort.ahead w 0=w from rfl,putRow_self _ _ _ _ _ hH,alloc_eq_grow,show (UInt64.ofNat L).toNat=L from by simp;omega]
 clear hH
 go_enter Tryz.func128,Tryz.ntmps128
 go_wp2_with (first | (go_at_call 140;rw [show ((a:Int)+(L:Int) - (a:Int))=(L:Int) by omega];refine (hNP _).mono ?_;rintro e w' ⟨rfl,rfl⟩))
 go_loopw [9] (fun vi wr=>∃ (t n:Nat) (r:UInt64) (dk:Array Int),vi = .int .i64 ((a+L / 4 * 2 - 1+t:Nat):Int)∧t≤3∧dk.size=d.size ∧
   wr=grow (putRow e64 (Sort.ahead w n) blk off dk) #[Obj.cells #[.int .u64 (r.toNat:Int)] 201] ∧
   bpRest a L M (a+L / 4 * 2 - 1) (3 - t) t (r,dk)=bpRest a L M (a+L / 4 * 2 - 1) 3 0 (UInt64.ofNat L,d)) (fun vi _=>a+L / 4 * 2+3 - (Go.Proofs.intOf vi).toNat)
 case atStart=>exact ⟨0,0,UInt64.ofNat L,d,by congr 1;omega,by omega,rfl,HST.out,rfl⟩
 case round =>
  obtain ⟨t,n,r,dk,rfl,ht,hsk,hw,hR⟩:=hrel;obtain ⟨R,hRr⟩:∃ R:Nat,R=r.toNat:=⟨_,rfl⟩
  have lR:R<18446744073709551616:=by rw [hRr];exact r.toNat_lt
  obtain ⟨R',hR'⟩:∃ R':Nat,R'=xorNextN R:=⟨_,rfl⟩
  have lR':R'<18446744073709551616:=by rw [hR'];exact xorNextN_lt R lR
  obtain ⟨O,hO⟩:∃ O:Nat,O=R' &&& (M - 1):=⟨_,rfl⟩
  have lO:O≤M - 1:=by rw [hO];exact Nat.and_le_right
  have eAnd:bits .and .u64 (R':Int) ((M:Int) - 1)=(O:Int):=by
   rw [show ((M:Int) - 1)=((M - 1:Nat):Int) by omega,bits_and_u64_nat _ _ lR' (by omega),hO]
  obtain ⟨G,hG⟩:∃ G:Nat→Int,∀ x,G x=dk[x]!:=⟨fun x=>dk[x]!,fun _=>rfl⟩
  have hz:(putRow e64 (Sort.ahead w n) blk off dk).heap.size=w.heap.size:=by simp
  have hcw:∀ x,x<d.size→wr.cell? ⟨blk,off+x,none⟩=some (.int .u64 (G x)):=fun x hx=>by
   rw [hw,cell?_grow _ _ _ (by rw [hz];exact hblk),hG];exact cell?_putRow _ _ _ _ d dk (holds_ahead _ _ _ _ _ _ HH.out) hsk x (by omega)
  have hfw:∀ x,x<d.size→wr.frozen? ⟨blk,off+x,none⟩=false:=fun x hx=>by
   rw [hw,frozen?_grow _ _ _ (by rw [hz];exact hblk),frozen?_putRow];exact ((holds_ahead _ _ n _ _ _ HH.out) x hx).2
  have hcB:wr.cell? ⟨w.heap.size,0,none⟩=some (.int .u64 (R:Int)):=by rw [hw,hRr,← hz];exact grow_one_cell _ _ _
  have hfB:wr.frozen? ⟨w.heap.size,0,none⟩=false:=by rw [hw,← hz];exact grow_one_frozen _ _ _
  have hNext:Calls Tryz.prog 141 #[.pointer (some ⟨w.heap.size,0,none⟩)] wr fun e w'=>e = .returned (.int .u64 (R':Int))∧w'=(wr.setCell ⟨w.heap.size,0,none⟩ (.int .u64 (R':Int))).drewN 3:=by
   rw [hR'];exact xnext _ _ R lR wr hcB hfB
  have HW:Hid (wr=grow (putRow e64 (Sort.ahead w n) blk off dk) #[Obj.cells #[.int .u64 (r.toNat:Int)] 201]):=hw;have HG:Hid (∀ x,G x=dk[x]!):=hG;have HR:Hid (bpRest a L M (a+L / 4 * 2 - 1) (3 - t) t (r,dk)=bpRest a L M (a+L / 4 * 2 - 1) 3 0 (UInt64.ofNat L,d)):=hR;have HN:Hid (R'=(xorNext r).toNat∧O=(xorNext r).toNat &&& (M - 1)):=by
   have e:R'=(xorNext r).toNat:=by rw [hR',hRr,xorNext_toNat]
   exact ⟨e,by rw [hO,e]⟩
  clear hw hG hR hRr hR' hO
  go_wp2_with (first | (go_at_call 141;refine hNext.mono ?_;rintro e w' ⟨rfl,rfl⟩))
  ·-- other >= length: other -= length
   have hLO:L≤O:=by omega
   by_cases hEq:a+L / 4 * 2 - 1+t=a+(O - L)
   all_goals
    go_region
    all_goals go_wp2
    go_roundw
    case rel =>
     refine ⟨t+1,n+4,xorNext r,swp dk (a+L / 4 * 2 - 1+t) (a+(O - L)),by first | rfl | (congr 1 <;> omega),by omega,by rw [size_swp];exact hsk,?_,?_⟩
     ·(try rw [hEq])      -- (where the two places are one,the walk has written the one for the other)
      rw [HW.out,HN.out.1];simp only [HG.out];exact step_world e64 w n 4 blk off dk _ _ hblk (by omega) (by omega) _ _ _
     ·rw [← HR.out,bp_step a L M _ t r dk (O - L) (by omega) (by rw [← HN.out.2,if_pos (by omega)])]
    case measure=>simp [Go.Proofs.intOf];omega
  ·have hLO : ¬ L≤O:=by omega
   by_cases hEq:a+L / 4 * 2 - 1+t=a+O
   all_goals
    go_region
    all_goals go_wp2
    go_roundw
    case rel =>
     refine ⟨t+1,n+4,xorNext r,swp dk (a+L / 4 * 2 - 1+t) (a+O),by first | rfl | (congr 1 <;> omega),by omega,by rw [size_swp];exact hsk,?_,?_⟩
     ·(try rw [hEq])      -- (where the two places are one,the walk has written the one for the other)
      rw [HW.out,HN.out.1];simp only [HG.out];exact step_world e64 w n 4 blk off dk _ _ hblk (by omega) (by omega) _ _ _
     ·rw [← HR.out,bp_step a L M _ t r dk O (by omega) (by rw [← HN.out.2,if_neg (by omega)])]
    case measure=>simp [Go.Proofs.intOf];omega
  ·-- three rounds are done
   obtain rfl:t=3:=by omega
   go_end0
   exact ⟨rfl,n,_,by rw [← HR.out,HW.out];rfl⟩
theorem brk64 (blk off cap a b:Nat) (d:Array Int) (w:World) (hH:Holds e64 w blk off d) (hblk:blk<w.heap.size) (hab:a≤b) (hb:b≤d.size) (hsz:d.size<4611686018427387904) :
  Calls Tryz.prog 128 #[.slice (some ⟨blk,off,none⟩) d.size cap,.int .i64 a,.int .i64 b] w fun e w' =>
   e = .returned (.tuple #[])∧∃ n os,w'=grow (putRow e64 (Sort.ahead w n) blk off (breakPatterns d a b)) os:=by
 obtain ⟨L,rfl⟩:∃ L,b=a+L:=⟨b - a,by omega⟩
 by_cases h8:8≤L
 ·exact brkgo64 blk off cap a L d w hH hblk hb hsz h8
 ·have hv:breakPatterns d a (a+L)=d:=by unfold breakPatterns;simp only [Nat.add_sub_cancel_left];rw [if_neg h8]
  rw [hv];have HST:Hid (w=grow (putRow e64 (Sort.ahead w 0) blk off d) #[]):=by
   show _=_
   rw [grow_empty,show Sort.ahead w 0=w from rfl,putRow_self _ _ _ _ _ hH]
  clear hH
  go_enter Tryz.func128,Tryz.ntmps128
  go_wp2
  go_end0
  exact ⟨rfl,0,#[],HST.out⟩
end Go.Proofs.YthkmihedkddnmaaGreat
namespace Go.Proofs.YthkmihedkddnmaaGreat
open Go.RowKit Go.Sort
theorem cgrow64 (w:World) (N S:Nat):∃ os,putRow (Value.int .i64) (Sort.ahead (w.alloc (.cells #[.int .i64 0] 3)) N) w.heap.size 0 (one S)=grow (Sort.ahead w N) os:=by
 rw [alloc_eq_grow,ahead_grow];obtain ⟨os,_,h⟩:=putRow_grow_new (Value.int .i64) (Sort.ahead w N) #[.cells #[.int .i64 0] 3] w.heap.size 0 (one S) (Nat.le_refl _);exact ⟨os,h⟩
theorem beq64 {x y:Int} (h:(x == y)=true):x=y:=by simpa using h
theorem bne64 {x y:Int} (h:(x == y)=false):x≠y:=by simpa using h
theorem pworld64 (blk off cap:Nat) (d:Array Int) (w:World) (hH:Holds e64 w blk off d) (hblk:blk<w.heap.size) (hsz:d.size<4611686018427387904) :
  ∃ Wc:Nat→Nat→World,
   w.alloc (.cells #[.int .i64 0] 3)=Wc 0 0 ∧
   (∀ N S:Nat,(Wc N S).cell? ⟨w.heap.size,0,none⟩=some (.int .i64 (S:Int))) ∧
   (∀ N S:Nat,∃ os,Wc N S=grow (Sort.ahead w N) os) ∧
   (∀ x s N:Nat,1≤x→x+1<d.size→s<900→Calls Tryz.prog 146 #[.slice (some ⟨blk,off,none⟩) d.size cap,.int .i64 (x:Int),.pointer (some ⟨w.heap.size,0,none⟩)] (Wc N s) fun e w' =>
    e = .returned (.int .i64 ((medianAdjacent ltInt d x s).1:Int))∧∃ N',w'=Wc N' (medianAdjacent ltInt d x s).2) ∧
   (∀ x y z s N:Nat,x<d.size→y<d.size→z<d.size→s<900→Calls Tryz.prog 147 #[.slice (some ⟨blk,off,none⟩) d.size cap,.int .i64 (x:Int),.int .i64 (y:Int),.int .i64 (z:Int),.pointer (some ⟨w.heap.size,0,none⟩)] (Wc N s) fun e w' =>
    e = .returned (.int .i64 ((median ltInt d x y z s).1:Int))∧∃ N',w'=Wc N' (median ltInt d x y z s).2):=by
 have hne:w.heap.size≠blk:=by omega
 have hH0:Holds e64 (w.alloc (.cells #[.int .i64 0] 3)) blk off d:=by rw [alloc_eq_grow];exact holds_grow _ _ _ _ _ _ hblk hH
 have hS0:Holds (Value.int .i64) (w.alloc (.cells #[.int .i64 0] 3)) w.heap.size 0 (one 0):=fun j hj=>by
  obtain rfl:j=0:=by simpa using hj
  simp
 refine ⟨fun N S=>putRow (Value.int .i64) (Sort.ahead (w.alloc (.cells #[.int .i64 0] 3)) N) w.heap.size 0 (one S),(putRow_self _ _ _ _ _ hS0).symm,fun N S=>(one_cell (holds_one (n:=N) (t:=S) hS0)).1,fun N S=>cgrow64 w N S,?_,?_⟩
 ·intro x s N h1 h2 hs
  refine (adj64 blk off cap x w.heap.size 0 s d _ (aside64 hH0 hne) h1 h2 hsz (holds_one hS0) hne hs).mono ?_;rintro e w' ⟨he,_,_,n,hw⟩;exact ⟨he,N+n,by rw [hw,one_one]⟩
 ·intro x y z s N h1 h2 h3 hs
  refine (med64 blk off cap x y z w.heap.size 0 s d _ (aside64 hH0 hne) h1 h2 h3 hsz (holds_one hS0) hne hs).mono ?_;rintro e w' ⟨he,_,_,n,hw⟩;exact ⟨he,N+n,by rw [hw,one_one]⟩
theorem piv64 (blk off cap a b:Nat) (d:Array Int) (w:World) (hH:Holds e64 w blk off d) (hblk:blk<w.heap.size) (hab:a<b) (hb:b≤d.size) (hsz:d.size<4611686018427387904) :
  Calls Tryz.prog 129 #[.slice (some ⟨blk,off,none⟩) d.size cap,.int .i64 a,.int .i64 b] w fun e w' =>
   e = .returned (.tuple #[.int .i64 (choosePivot ltInt d a b).1,.int .i64 (hintCode (choosePivot ltInt d a b).2)])∧∃ n os,w'=grow (Sort.ahead w n) os:=by
 obtain ⟨Wc,hW0,cS,hG,MA,MD⟩:=pworld64 blk off cap d w hH hblk hsz;clear hH;rw [choosePivot_eq];obtain ⟨I,hI⟩:∃ I:Nat,I=a+(b - a) / 4 * 1:=⟨_,rfl⟩
 obtain ⟨J,hJ⟩:∃ J:Nat,J=a+(b - a) / 4 * 2:=⟨_,rfl⟩
 obtain ⟨K,hK⟩:∃ K:Nat,K=a+(b - a) / 4 * 3:=⟨_,rfl⟩
 have eI:((a:Int)+((b:Int) - (a:Int)) / 4)=(I:Int):=by omega
 have eJ:((a:Int)+((b:Int) - (a:Int)) / 4 * 2)=(J:Int):=by omega
 have eK:((a:Int)+((b:Int) - (a:Int)) / 4 * 3)=(K:Int):=by omega
 by_cases h8:b - a ≥ 8
 ·by_cases h50:b - a ≥ 50
  ·-- THE NINTHER
   obtain ⟨i1,s1,h1⟩:∃ i1 s1,medianAdjacent ltInt d I 0=(i1,s1):=⟨_,_,rfl⟩
   obtain ⟨j1,s2,h2⟩:∃ j1 s2,medianAdjacent ltInt d J s1=(j1,s2):=⟨_,_,rfl⟩
   obtain ⟨k1,s3,h3⟩:∃ k1 s3,medianAdjacent ltInt d K s2=(k1,s3):=⟨_,_,rfl⟩
   obtain ⟨p,s,h4⟩:∃ p s,median ltInt d i1 j1 k1 s3=(p,s):=⟨_,_,rfl⟩
   have hraw:rawPivot ltInt d a b=(p,s):=by simp only [rawPivot,if_pos h8,if_pos h50,← hI,← hJ,← hK,h1,h2,h3,h4]
   have m1:=medianAdjacent_mem ltInt d I 0;rw [h1] at m1;have m2:=medianAdjacent_mem ltInt d J s1;rw [h2] at m2;have m3:=medianAdjacent_mem ltInt d K s2;rw [h3] at m3;have n1:=medianAdjacent_count ltInt d I 0;rw [h1] at n1;have n2:=medianAdjacent_count ltInt d J s1;rw [h2] at n2;have n3:=medianAdjacent_count ltInt d K s2;rw [h3] at n3;simp only [] at m1 m2 m3 n1 n2 n3
   have c1:Calls Tryz.prog 146 #[.slice (some ⟨blk,off,none⟩) d.size cap,.int .i64 (I:Int),.pointer (some ⟨w.heap.size,0,none⟩)] (Wc 0 0) fun e w'=>e = .returned (.int .i64 (i1:Int))∧∃ N',w'=Wc N' s1:=by
    have h:=MA I 0 0 (by omega) (by omega) (by omega);rw [h1] at h;exact h
   have c2:∀ N,Calls Tryz.prog 146 #[.slice (some ⟨blk,off,none⟩) d.size cap,.int .i64 (J:Int),.pointer (some ⟨w.heap.size,0,none⟩)] (Wc N s1) fun e w'=>e = .returned (.int .i64 (j1:Int))∧∃ N',w'=Wc N' s2:=fun N=>by
    have h:=MA J s1 N (by omega) (by omega) (by omega);rw [h2] at h;exact h
   have c3:∀ N,Calls Tryz.prog 146 #[.slice (some ⟨blk,off,none⟩) d.size cap,.int .i64 (K:Int),.pointer (some ⟨w.heap.size,0,none⟩)] (Wc N s2) fun e w'=>e = .returned (.int .i64 (k1:Int))∧∃ N',w'=Wc N' s3:=fun N=>by
    have h:=MA K s2 N (by omega) (by omega) (by omega);rw [h3] at h;exact h
   have c4:∀ N,Calls Tryz.prog 147 #[.slice (some ⟨blk,off,none⟩) d.size cap,.int .i64 (i1:Int),.int .i64 (j1:Int),.int .i64 (k1:Int),.pointer (some ⟨w.heap.size,0,none⟩)] (Wc N s3) fun e w'=>e = .returned (.int .i64 (p:Int))∧∃ N',w'=Wc N' s:=fun N=>by
    have h:=MD i1 j1 k1 s3 N (by omega) (by omega) (by omega) (by omega);rw [h4] at h;exact h
   rw [hraw];obtain ⟨Hc,hHc⟩:∃ Hc:Int,Hc=hintCode (hintOf s):=⟨_,rfl⟩
   have hh0:s=0→Hc=1:=fun h=>by rw [hHc,h];rfl
   have hh12:s=12→Hc=2:=fun h=>by rw [hHc,h];rfl
   have hhx:s≠0→s≠12→Hc=0:=fun h1 h2=>by rw [hHc];unfold hintOf;rw [if_neg h1,if_neg h2];rfl
   show Calls Tryz.prog 129 _ w fun e w'=>e = .returned (.tuple #[.int .i64 (p:Int),.int .i64 (hintCode (hintOf s))])∧∃ n os,w'=grow (Sort.ahead w n) os
   rw [← hHc];clear hHc hraw;clear h1 h2 h3 h4 MA MD hI hJ hK m1 m2 m3
   go_enter Tryz.func129,Tryz.ntmps129
   go_wp2_with (first
    | (go_at_call_has 146 (Value.int .i64 (I:Int));refine c1.mono ?_;rintro e w' ⟨rfl,N1,rfl⟩)
    | (go_at_call_has 146 (Value.int .i64 (J:Int));refine (c2 _).mono ?_;rintro e w' ⟨rfl,N2,rfl⟩)
    | (go_at_call_has 146 (Value.int .i64 (K:Int));refine (c3 _).mono ?_;rintro e w' ⟨rfl,N3,rfl⟩)
    | (go_at_call 147;refine (c4 _).mono ?_;rintro e w' ⟨rfl,N4,rfl⟩))
   all_goals
    go_ret2
    refine ⟨?_,_,hG _ _⟩
    first
     | (
       have e0:(s:Int)=0:=beq64 (by assumption);rw [hh0 (by omega)];rfl)
     | (
       have e1:(s:Int)=12:=beq64 (by assumption);rw [hh12 (by omega)];rfl)
     | (
       have e0:(s:Int)≠0:=bne64 (by assumption);have e1:(s:Int)≠12:=bne64 (by assumption);rw [hhx (by omega) (by omega)];rfl)
     | (rw [hh0 (by omega)];rfl)
  ·-- THE MEDIAN OF THREE
   obtain ⟨p,s,h4⟩:∃ p s,median ltInt d I J K 0=(p,s):=⟨_,_,rfl⟩
   have hraw:rawPivot ltInt d a b=(p,s):=by simp only [rawPivot,if_pos h8,if_neg h50,← hI,← hJ,← hK,h4]
   have c4:Calls Tryz.prog 147 #[.slice (some ⟨blk,off,none⟩) d.size cap,.int .i64 (I:Int),.int .i64 (J:Int),.int .i64 (K:Int),.pointer (some ⟨w.heap.size,0,none⟩)] (Wc 0 0) fun e w'=>e = .returned (.int .i64 (p:Int))∧∃ N',w'=Wc N' s:=by
    have h:=MD I J K 0 0 (by omega) (by omega) (by omega) (by omega);rw [h4] at h;exact h
   rw [hraw];obtain ⟨Hc,hHc⟩:∃ Hc:Int,Hc=hintCode (hintOf s):=⟨_,rfl⟩
   have hh0:s=0→Hc=1:=fun h=>by rw [hHc,h];rfl
   have hh12:s=12→Hc=2:=fun h=>by rw [hHc,h];rfl
   have hhx:s≠0→s≠12→Hc=0:=fun h1 h2=>by rw [hHc];unfold hintOf;rw [if_neg h1,if_neg h2];rfl
   show Calls Tryz.prog 129 _ w fun e w'=>e = .returned (.tuple #[.int .i64 (p:Int),.int .i64 (hintCode (hintOf s))])∧∃ n os,w'=grow (Sort.ahead w n) os
   rw [← hHc];clear hHc hraw;clear h4 MA MD hI hJ hK
   go_enter Tryz.func129,Tryz.ntmps129
   go_wp2_with (first | (go_at_call 147;refine c4.mono ?_;rintro e w' ⟨rfl,N4,rfl⟩))
   all_goals
    go_ret2
    refine ⟨?_,_,hG _ _⟩
    first
     | (
       have e0:(s:Int)=0:=beq64 (by assumption);rw [hh0 (by omega)];rfl)
     | (
       have e1:(s:Int)=12:=beq64 (by assumption);rw [hh12 (by omega)];rfl)
     | (
       have e0:(s:Int)≠0:=bne64 (by assumption);have e1:(s:Int)≠12:=bne64 (by assumption);rw [hhx (by omega) (by omega)];rfl)
     | (rw [hh0 (by omega)];rfl)
 ·-- FEWER THAN EIGHT: the middle;nothing is counted
  obtain ⟨p,hp⟩:∃ p:Nat,p=J:=⟨_,rfl⟩
  obtain ⟨s,hs⟩:∃ s:Nat,s=0:=⟨_,rfl⟩
  have hraw:rawPivot ltInt d a b=(p,s):=by simp only [rawPivot,if_neg h8,← hJ,hp,hs]
  rw [hraw];obtain ⟨Hc,hHc⟩:∃ Hc:Int,Hc=hintCode (hintOf s):=⟨_,rfl⟩
  have hh0:s=0→Hc=1:=fun h=>by rw [hHc,h];rfl
  have hh12:s=12→Hc=2:=fun h=>by rw [hHc,h];rfl
  have hhx:s≠0→s≠12→Hc=0:=fun h1 h2=>by rw [hHc];unfold hintOf;rw [if_neg h1,if_neg h2];rfl
  show Calls Tryz.prog 129 _ w fun e w'=>e = .returned (.tuple #[.int .i64 (p:Int),.int .i64 (hintCode (hintOf s))])∧∃ n os,w'=grow (Sort.ahead w n) os
  rw [← hHc];clear hHc hraw;subst hp;clear MA MD hI hJ hK;have hW0':w.alloc (.cells #[.int .i64 0] 3)=Wc 0 s:=by rw [hs];exact hW0
  clear hW0
  go_enter Tryz.func129,Tryz.ntmps129
  go_wp2
  all_goals
   go_ret2
   refine ⟨?_,_,hG _ _⟩
   first
    | (
      have e0:(s:Int)=0:=beq64 (by assumption);rw [hh0 (by omega)];rfl)
    | (
      have e1:(s:Int)=12:=beq64 (by assumption);rw [hh12 (by omega)];rfl)
    | (
      have e0:(s:Int)≠0:=bne64 (by assumption);have e1:(s:Int)≠12:=bne64 (by assumption);rw [hhx (by omega) (by omega)];rfl)
    | (rw [hh0 (by omega)];rfl)
end Go.Proofs.YthkmihedkddnmaaGreat
