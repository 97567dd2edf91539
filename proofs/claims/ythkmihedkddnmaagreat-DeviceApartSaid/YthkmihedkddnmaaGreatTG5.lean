import Derived.Test.YthkmihedkddnmaaGreatTG2
import Derived.Test.YthkmihedkddnmaaGreatTG4
set_option linter.unusedVariables false
set_option linter.unusedSimpArgs false
set_option maxHeartbeats 6400000
set_option maxRecDepth 100000
namespace Go.Proofs.YthkmihedkddnmaaGreat
open Lib (hid)
open Go.RowKit
open Wire Cmd
theorem rmayO_any (o:Op0) (ok:o.Ok) (ao:Option Addr) (cap:Nat) (w:World) (hl:o.data.length≤1000000) :
  Calls Tryz.prog 79 #[.agg (oC o (.slice ao o.data.length cap))] w fun e w'=>e = .returned (.bool (mayR o))∧Below w.heap.size w w':=by
 have hb:=balloc (Below.refl _ w) (.cells (oC o (.slice ao o.data.length cap)) 40);have hMR:mayR o=(b0 o && (b1 o && (b2 o && (b3 o && (b4 o && (b5 o && (b6 o && (b7 o && b8 o)))))))):=rfl;obtain ⟨k1,v1,t1,s1,p1,c1,d1⟩:=o;unfold oC at *;dsimp only at hb hl ⊢;have HB2:=hid hb;clear hb;have HMR:=hid hMR;have hk:=ok.k;have hs:=ok.size;have hp:=ok.pl;have hc:=ok.count;have hv:=ok.vol;have ht:=ok.to;dsimp only at hk hs hp hc hv ht;obtain ⟨hk1,hk2⟩:=hk;obtain ⟨hs1,hs2⟩:=hs;obtain ⟨hp1,hp2⟩:=hp;obtain ⟨hc1,hc2⟩:=hc;clear ok hMR
 have CHv:∀ W:World,Calls Tryz.prog 104 #[.int .i64 k1,.int .u8 118] W fun e w'=>e = .returned (.bool (hasK k1 118))∧W=w':=fun W=>has_any k1 118 W;have CHt:∀ W:World,Calls Tryz.prog 104 #[.int .i64 k1,.int .u8 116] W fun e w'=>e = .returned (.bool (hasK k1 116))∧W=w':=fun W=>has_any k1 116 W;have CHs:∀ W:World,Calls Tryz.prog 104 #[.int .i64 k1,.int .u8 115] W fun e w'=>e = .returned (.bool (hasK k1 115))∧W=w':=fun W=>has_any k1 115 W
 have CHa:∀ W:World,Calls Tryz.prog 104 #[.int .i64 k1,.int .u8 97] W fun e w'=>e = .returned (.bool (hasK k1 97))∧W=w':=fun W=>has_any k1 97 W;have CHc:∀ W:World,Calls Tryz.prog 104 #[.int .i64 k1,.int .u8 99] W fun e w'=>e = .returned (.bool (hasK k1 99))∧W=w':=fun W=>has_any k1 99 W;have CHd:∀ W:World,Calls Tryz.prog 104 #[.int .i64 k1,.int .u8 100] W fun e w'=>e = .returned (.bool (hasK k1 100))∧W=w':=fun W=>has_any k1 100 W;unfold b1 b2 b3 b4 b5 b6 b7 b8 at HMR;dsimp only at HMR
 generalize hasK k1 118=hv1 at *
 generalize hasK k1 116=ht1 at *
 generalize hasK k1 115=hs0 at *
 generalize hasK k1 97=ha0 at *
 generalize hasK k1 99=hc0 at *
 generalize hasK k1 100=hd0 at *
 have CI1:=fun W=>in_any hv1 1 (v1:Int) 4294967295 W;have CI2:=fun W=>in_any ht1 1 (t1:Int) 4294967295 W;have CI4:=fun W=>in_any hs0 0 s1 256 W;have CI5:=fun W=>in_any ha0 0 p1 1048576 W;have CI6:=fun W=>in_any hc0 1 c1 1024 W;have CI8:=fun W=>in_any hd0 1 ((d1.length:Int) / 64) 32 W
 generalize inP hv1 1 (v1:Int) 4294967295=q1 at *
 generalize inP ht1 1 (t1:Int) 4294967295=q2 at *
 generalize inP hs0 0 s1 256=q4 at *
 generalize inP ha0 0 p1 1048576=q5 at *
 generalize inP hc0 1 c1 1024=q6 at *
 generalize inP hd0 1 ((d1.length:Int) / 64) 32=q8 at *
 have H0:Hid (b0 ⟨k1,v1,t1,s1,p1,c1,d1⟩=(decide (1≤k1) && decide (k1≤9) && decide (v1≤4294967295) && decide (t1≤4294967295))):=hid rfl
 by_cases h0:1≤k1∧k1≤9∧v1≤4294967295∧t1≤4294967295
 ·obtain ⟨i1,i2,i3,i4⟩:=h0
  have j3:(v1:Int)≤4294967295:=by omega
  have j4:(t1:Int)≤4294967295:=by omega
  have HM1:Hid (mayR ⟨k1,v1,t1,s1,p1,c1,d1⟩=(q1 && (q2 && (!(ht1 && (t1 == v1)) && (q4 && (q5 && (q6 && ((d1.length % 64 == 0) && q8)))))))):=hid (by
   rw [HMR.out,H0.out,decide_eq_true i1,decide_eq_true i2,decide_eq_true i3,decide_eq_true i4];rfl)
  clear HMR H0
  cases q1 with
  | false =>
   have HE:Hid (mayR ⟨k1,v1,t1,s1,p1,c1,d1⟩=false):=hid (by rw [HM1.out];rfl)
   go_enter Tryz.func79,Tryz.ntmps79
   go_wp2_with fail
   go_quiet ((first
    | (go_at_call 104;with_reducible exact qS (CHv _))
    | (go_at_call 104;with_reducible exact qS (CHt _))
    | (go_at_call 104;with_reducible exact qS (CHs _))
    | (go_at_call 104;with_reducible exact qS (CHa _))
    | (go_at_call 104;with_reducible exact qS (CHc _))
    | (go_at_call 104;with_reducible exact qS (CHd _))
    | (go_at_call 103;with_reducible exact qS (CI1 _))
    | (go_at_call 103;with_reducible exact qS (CI2 _))
    | (go_at_call 103;with_reducible exact qS (CI4 _))
    | (go_at_call 103;with_reducible exact qS (CI5 _))
    | (go_at_call 103;with_reducible exact qS (CI6 _))
    | (go_at_call 103;with_reducible exact qS (CI8 _))))
   rename_i nq;obtain ⟨W1,hW1⟩:∃ W,(w.alloc (.cells #[.int .i64 k1,.int .u64 (v1:Int),.int .u64 (t1:Int),.int .i64 s1,.int .i64 p1,.int .i64 c1,.slice ao d1.length cap] 40)).drewN nq=W:=⟨_,rfl⟩
   have hbxW1:W1.heap[w.heap.size]? = some (.cells #[.int .i64 k1,.int .u64 (v1:Int),.int .u64 (t1:Int),.int .i64 s1,.int .i64 p1,.int .i64 c1,.slice ao d1.length cap] 40 (0,0)):=by rw [← hW1];exact ((below_drewN (Below.refl (w.heap.size+1) (w.alloc (.cells #[.int .i64 k1,.int .u64 (v1:Int),.int .u64 (t1:Int),.int .i64 s1,.int .i64 p1,.int .i64 c1,.slice ao d1.length cap] 40))) nq).block _ (Nat.lt_succ_self _)).trans (heap_alloc_new w _)
   have HB3:Hid (Below w.heap.size w W1):=hid (by rw [← hW1];exact below_drewN HB2.out nq);rw [hW1];have HBX1:=hid hbxW1;have e0:W1.cell? ⟨w.heap.size,0,none⟩=some (.int .i64 k1):=cellIs hbxW1 rfl;have e1:W1.cell? ⟨w.heap.size,1,none⟩=some (.int .u64 (v1:Int)):=cellIs hbxW1 rfl;have e2:W1.cell? ⟨w.heap.size,2,none⟩=some (.int .u64 (t1:Int)):=cellIs hbxW1 rfl;have e3:W1.cell? ⟨w.heap.size,3,none⟩=some (.int .i64 s1):=cellIs hbxW1 rfl;have e4:W1.cell? ⟨w.heap.size,4,none⟩=some (.int .i64 p1):=cellIs hbxW1 rfl
   have e5:W1.cell? ⟨w.heap.size,5,none⟩=some (.int .i64 c1):=cellIs hbxW1 rfl;have e6:W1.cell? ⟨w.heap.size,6,none⟩=some (.slice ao d1.length cap):=cellIs hbxW1 rfl;clear hW1 hbxW1;go_wp2_with fail;go_ret;exact ⟨by rw [HE.out];rfl,HB3.out⟩
  | true =>
  cases q2 with
  | false =>
   have HE:Hid (mayR ⟨k1,v1,t1,s1,p1,c1,d1⟩=false):=hid (by rw [HM1.out];rfl)
   go_enter Tryz.func79,Tryz.ntmps79
   go_wp2_with fail
   go_quiet ((first
    | (go_at_call 104;with_reducible exact qS (CHv _))
    | (go_at_call 104;with_reducible exact qS (CHt _))
    | (go_at_call 104;with_reducible exact qS (CHs _))
    | (go_at_call 104;with_reducible exact qS (CHa _))
    | (go_at_call 104;with_reducible exact qS (CHc _))
    | (go_at_call 104;with_reducible exact qS (CHd _))
    | (go_at_call 103;with_reducible exact qS (CI1 _))
    | (go_at_call 103;with_reducible exact qS (CI2 _))
    | (go_at_call 103;with_reducible exact qS (CI4 _))
    | (go_at_call 103;with_reducible exact qS (CI5 _))
    | (go_at_call 103;with_reducible exact qS (CI6 _))
    | (go_at_call 103;with_reducible exact qS (CI8 _))))
   rename_i nq;obtain ⟨W1,hW1⟩:∃ W,(w.alloc (.cells #[.int .i64 k1,.int .u64 (v1:Int),.int .u64 (t1:Int),.int .i64 s1,.int .i64 p1,.int .i64 c1,.slice ao d1.length cap] 40)).drewN nq=W:=⟨_,rfl⟩
   have hbxW1:W1.heap[w.heap.size]? = some (.cells #[.int .i64 k1,.int .u64 (v1:Int),.int .u64 (t1:Int),.int .i64 s1,.int .i64 p1,.int .i64 c1,.slice ao d1.length cap] 40 (0,0)):=by rw [← hW1];exact ((below_drewN (Below.refl (w.heap.size+1) (w.alloc (.cells #[.int .i64 k1,.int .u64 (v1:Int),.int .u64 (t1:Int),.int .i64 s1,.int .i64 p1,.int .i64 c1,.slice ao d1.length cap] 40))) nq).block _ (Nat.lt_succ_self _)).trans (heap_alloc_new w _)
   have HB3:Hid (Below w.heap.size w W1):=hid (by rw [← hW1];exact below_drewN HB2.out nq);rw [hW1];have HBX1:=hid hbxW1;have e0:W1.cell? ⟨w.heap.size,0,none⟩=some (.int .i64 k1):=cellIs hbxW1 rfl;have e1:W1.cell? ⟨w.heap.size,1,none⟩=some (.int .u64 (v1:Int)):=cellIs hbxW1 rfl;have e2:W1.cell? ⟨w.heap.size,2,none⟩=some (.int .u64 (t1:Int)):=cellIs hbxW1 rfl;have e3:W1.cell? ⟨w.heap.size,3,none⟩=some (.int .i64 s1):=cellIs hbxW1 rfl;have e4:W1.cell? ⟨w.heap.size,4,none⟩=some (.int .i64 p1):=cellIs hbxW1 rfl
   have e5:W1.cell? ⟨w.heap.size,5,none⟩=some (.int .i64 c1):=cellIs hbxW1 rfl;have e6:W1.cell? ⟨w.heap.size,6,none⟩=some (.slice ao d1.length cap):=cellIs hbxW1 rfl;clear hW1 hbxW1;go_wp2_with fail;go_ret;exact ⟨by rw [HE.out];rfl,HB3.out⟩
  | true =>
  cases ht1 with
  | true =>
   by_cases htv:t1=v1
   ·have gt:((t1:Int) == (v1:Int))=true:=beqI (by omega)
    have HE:Hid (mayR ⟨k1,v1,t1,s1,p1,c1,d1⟩=false):=hid (by rw [HM1.out];simp [htv]);clear htv
    go_enter Tryz.func79,Tryz.ntmps79
    go_wp2_with fail
    go_quiet ((first
     | (go_at_call 104;with_reducible exact qS (CHv _))
     | (go_at_call 104;with_reducible exact qS (CHt _))
     | (go_at_call 104;with_reducible exact qS (CHs _))
     | (go_at_call 104;with_reducible exact qS (CHa _))
     | (go_at_call 104;with_reducible exact qS (CHc _))
     | (go_at_call 104;with_reducible exact qS (CHd _))
     | (go_at_call 103;with_reducible exact qS (CI1 _))
     | (go_at_call 103;with_reducible exact qS (CI2 _))
     | (go_at_call 103;with_reducible exact qS (CI4 _))
     | (go_at_call 103;with_reducible exact qS (CI5 _))
     | (go_at_call 103;with_reducible exact qS (CI6 _))
     | (go_at_call 103;with_reducible exact qS (CI8 _))))
    rename_i nq;obtain ⟨W1,hW1⟩:∃ W,(w.alloc (.cells #[.int .i64 k1,.int .u64 (v1:Int),.int .u64 (t1:Int),.int .i64 s1,.int .i64 p1,.int .i64 c1,.slice ao d1.length cap] 40)).drewN nq=W:=⟨_,rfl⟩
    have hbxW1:W1.heap[w.heap.size]? = some (.cells #[.int .i64 k1,.int .u64 (v1:Int),.int .u64 (t1:Int),.int .i64 s1,.int .i64 p1,.int .i64 c1,.slice ao d1.length cap] 40 (0,0)):=by rw [← hW1];exact ((below_drewN (Below.refl (w.heap.size+1) (w.alloc (.cells #[.int .i64 k1,.int .u64 (v1:Int),.int .u64 (t1:Int),.int .i64 s1,.int .i64 p1,.int .i64 c1,.slice ao d1.length cap] 40))) nq).block _ (Nat.lt_succ_self _)).trans (heap_alloc_new w _)
    have HB3:Hid (Below w.heap.size w W1):=hid (by rw [← hW1];exact below_drewN HB2.out nq);rw [hW1];have HBX1:=hid hbxW1;have e0:W1.cell? ⟨w.heap.size,0,none⟩=some (.int .i64 k1):=cellIs hbxW1 rfl;have e1:W1.cell? ⟨w.heap.size,1,none⟩=some (.int .u64 (v1:Int)):=cellIs hbxW1 rfl;have e2:W1.cell? ⟨w.heap.size,2,none⟩=some (.int .u64 (t1:Int)):=cellIs hbxW1 rfl;have e3:W1.cell? ⟨w.heap.size,3,none⟩=some (.int .i64 s1):=cellIs hbxW1 rfl;have e4:W1.cell? ⟨w.heap.size,4,none⟩=some (.int .i64 p1):=cellIs hbxW1 rfl
    have e5:W1.cell? ⟨w.heap.size,5,none⟩=some (.int .i64 c1):=cellIs hbxW1 rfl;have e6:W1.cell? ⟨w.heap.size,6,none⟩=some (.slice ao d1.length cap):=cellIs hbxW1 rfl;clear hW1 hbxW1;go_wp2_with fail;go_ret;exact ⟨by rw [HE.out];rfl,HB3.out⟩
   ·have gt:((t1:Int) == (v1:Int))=false:=bneI (by omega)
    have HM3:Hid (mayR ⟨k1,v1,t1,s1,p1,c1,d1⟩=(q4 && (q5 && (q6 && ((d1.length % 64 == 0) && q8))))):=hid (by rw [HM1.out];simp [htv]);clear htv
    cases q4 with
    | false =>
     have HE:Hid (mayR ⟨k1,v1,t1,s1,p1,c1,d1⟩=false):=hid (by rw [HM3.out];rfl)
     go_enter Tryz.func79,Tryz.ntmps79
     go_wp2_with fail
     go_quiet ((first
      | (go_at_call 104;with_reducible exact qS (CHv _))
      | (go_at_call 104;with_reducible exact qS (CHt _))
      | (go_at_call 104;with_reducible exact qS (CHs _))
      | (go_at_call 104;with_reducible exact qS (CHa _))
      | (go_at_call 104;with_reducible exact qS (CHc _))
      | (go_at_call 104;with_reducible exact qS (CHd _))
      | (go_at_call 103;with_reducible exact qS (CI1 _))
      | (go_at_call 103;with_reducible exact qS (CI2 _))
      | (go_at_call 103;with_reducible exact qS (CI4 _))
      | (go_at_call 103;with_reducible exact qS (CI5 _))
      | (go_at_call 103;with_reducible exact qS (CI6 _))
      | (go_at_call 103;with_reducible exact qS (CI8 _))))
     rename_i nq;obtain ⟨W1,hW1⟩:∃ W,(w.alloc (.cells #[.int .i64 k1,.int .u64 (v1:Int),.int .u64 (t1:Int),.int .i64 s1,.int .i64 p1,.int .i64 c1,.slice ao d1.length cap] 40)).drewN nq=W:=⟨_,rfl⟩
     have hbxW1:W1.heap[w.heap.size]? = some (.cells #[.int .i64 k1,.int .u64 (v1:Int),.int .u64 (t1:Int),.int .i64 s1,.int .i64 p1,.int .i64 c1,.slice ao d1.length cap] 40 (0,0)):=by rw [← hW1];exact ((below_drewN (Below.refl (w.heap.size+1) (w.alloc (.cells #[.int .i64 k1,.int .u64 (v1:Int),.int .u64 (t1:Int),.int .i64 s1,.int .i64 p1,.int .i64 c1,.slice ao d1.length cap] 40))) nq).block _ (Nat.lt_succ_self _)).trans (heap_alloc_new w _)
     have HB3:Hid (Below w.heap.size w W1):=hid (by rw [← hW1];exact below_drewN HB2.out nq);rw [hW1];have HBX1:=hid hbxW1;have e0:W1.cell? ⟨w.heap.size,0,none⟩=some (.int .i64 k1):=cellIs hbxW1 rfl;have e1:W1.cell? ⟨w.heap.size,1,none⟩=some (.int .u64 (v1:Int)):=cellIs hbxW1 rfl;have e2:W1.cell? ⟨w.heap.size,2,none⟩=some (.int .u64 (t1:Int)):=cellIs hbxW1 rfl;have e3:W1.cell? ⟨w.heap.size,3,none⟩=some (.int .i64 s1):=cellIs hbxW1 rfl;have e4:W1.cell? ⟨w.heap.size,4,none⟩=some (.int .i64 p1):=cellIs hbxW1 rfl
     have e5:W1.cell? ⟨w.heap.size,5,none⟩=some (.int .i64 c1):=cellIs hbxW1 rfl;have e6:W1.cell? ⟨w.heap.size,6,none⟩=some (.slice ao d1.length cap):=cellIs hbxW1 rfl;clear hW1 hbxW1;go_wp2_with fail
     go_quiet ((first
      | (go_at_call 104;with_reducible exact qS (CHv _))
      | (go_at_call 104;with_reducible exact qS (CHt _))
      | (go_at_call 104;with_reducible exact qS (CHs _))
      | (go_at_call 104;with_reducible exact qS (CHa _))
      | (go_at_call 104;with_reducible exact qS (CHc _))
      | (go_at_call 104;with_reducible exact qS (CHd _))
      | (go_at_call 103;with_reducible exact qS (CI1 _))
      | (go_at_call 103;with_reducible exact qS (CI2 _))
      | (go_at_call 103;with_reducible exact qS (CI4 _))
      | (go_at_call 103;with_reducible exact qS (CI5 _))
      | (go_at_call 103;with_reducible exact qS (CI6 _))
      | (go_at_call 103;with_reducible exact qS (CI8 _))))
     rename Nat=>nq2
     obtain ⟨W2,hW2⟩:∃ W,W1.drewN nq2=W:=⟨_,rfl⟩
     have hbxW2:W2.heap[w.heap.size]? = some (.cells #[.int .i64 k1,.int .u64 (v1:Int),.int .u64 (t1:Int),.int .i64 s1,.int .i64 p1,.int .i64 c1,.slice ao d1.length cap] 40 (0,0)):=by rw [← hW2];exact ((below_drewN (Below.refl (w.heap.size+1) W1) nq2).block _ (Nat.lt_succ_self _)).trans HBX1.out
     have HB4:Hid (Below w.heap.size w W2):=hid (by rw [← hW2];exact below_drewN HB3.out nq2);rw [hW2];clear e0 e1 e2 e3 e4 e5 e6;have e0:W2.cell? ⟨w.heap.size,0,none⟩=some (.int .i64 k1):=cellIs hbxW2 rfl;have e1:W2.cell? ⟨w.heap.size,1,none⟩=some (.int .u64 (v1:Int)):=cellIs hbxW2 rfl;have e2:W2.cell? ⟨w.heap.size,2,none⟩=some (.int .u64 (t1:Int)):=cellIs hbxW2 rfl;have e3:W2.cell? ⟨w.heap.size,3,none⟩=some (.int .i64 s1):=cellIs hbxW2 rfl;have e4:W2.cell? ⟨w.heap.size,4,none⟩=some (.int .i64 p1):=cellIs hbxW2 rfl
     have e5:W2.cell? ⟨w.heap.size,5,none⟩=some (.int .i64 c1):=cellIs hbxW2 rfl;have e6:W2.cell? ⟨w.heap.size,6,none⟩=some (.slice ao d1.length cap):=cellIs hbxW2 rfl;clear hW2 hbxW2;go_wp2_with fail;go_ret;exact ⟨by rw [HE.out];rfl,HB4.out⟩
    | true =>
    cases q5 with
    | false =>
     have HE:Hid (mayR ⟨k1,v1,t1,s1,p1,c1,d1⟩=false):=hid (by rw [HM3.out];rfl)
     go_enter Tryz.func79,Tryz.ntmps79
     go_wp2_with fail
     go_quiet ((first
      | (go_at_call 104;with_reducible exact qS (CHv _))
      | (go_at_call 104;with_reducible exact qS (CHt _))
      | (go_at_call 104;with_reducible exact qS (CHs _))
      | (go_at_call 104;with_reducible exact qS (CHa _))
      | (go_at_call 104;with_reducible exact qS (CHc _))
      | (go_at_call 104;with_reducible exact qS (CHd _))
      | (go_at_call 103;with_reducible exact qS (CI1 _))
      | (go_at_call 103;with_reducible exact qS (CI2 _))
      | (go_at_call 103;with_reducible exact qS (CI4 _))
      | (go_at_call 103;with_reducible exact qS (CI5 _))
      | (go_at_call 103;with_reducible exact qS (CI6 _))
      | (go_at_call 103;with_reducible exact qS (CI8 _))))
     rename_i nq;obtain ⟨W1,hW1⟩:∃ W,(w.alloc (.cells #[.int .i64 k1,.int .u64 (v1:Int),.int .u64 (t1:Int),.int .i64 s1,.int .i64 p1,.int .i64 c1,.slice ao d1.length cap] 40)).drewN nq=W:=⟨_,rfl⟩
     have hbxW1:W1.heap[w.heap.size]? = some (.cells #[.int .i64 k1,.int .u64 (v1:Int),.int .u64 (t1:Int),.int .i64 s1,.int .i64 p1,.int .i64 c1,.slice ao d1.length cap] 40 (0,0)):=by rw [← hW1];exact ((below_drewN (Below.refl (w.heap.size+1) (w.alloc (.cells #[.int .i64 k1,.int .u64 (v1:Int),.int .u64 (t1:Int),.int .i64 s1,.int .i64 p1,.int .i64 c1,.slice ao d1.length cap] 40))) nq).block _ (Nat.lt_succ_self _)).trans (heap_alloc_new w _)
     have HB3:Hid (Below w.heap.size w W1):=hid (by rw [← hW1];exact below_drewN HB2.out nq);rw [hW1];have HBX1:=hid hbxW1;have e0:W1.cell? ⟨w.heap.size,0,none⟩=some (.int .i64 k1):=cellIs hbxW1 rfl;have e1:W1.cell? ⟨w.heap.size,1,none⟩=some (.int .u64 (v1:Int)):=cellIs hbxW1 rfl;have e2:W1.cell? ⟨w.heap.size,2,none⟩=some (.int .u64 (t1:Int)):=cellIs hbxW1 rfl;have e3:W1.cell? ⟨w.heap.size,3,none⟩=some (.int .i64 s1):=cellIs hbxW1 rfl;have e4:W1.cell? ⟨w.heap.size,4,none⟩=some (.int .i64 p1):=cellIs hbxW1 rfl
     have e5:W1.cell? ⟨w.heap.size,5,none⟩=some (.int .i64 c1):=cellIs hbxW1 rfl;have e6:W1.cell? ⟨w.heap.size,6,none⟩=some (.slice ao d1.length cap):=cellIs hbxW1 rfl;clear hW1 hbxW1;go_wp2_with fail
     go_quiet ((first
      | (go_at_call 104;with_reducible exact qS (CHv _))
      | (go_at_call 104;with_reducible exact qS (CHt _))
      | (go_at_call 104;with_reducible exact qS (CHs _))
      | (go_at_call 104;with_reducible exact qS (CHa _))
      | (go_at_call 104;with_reducible exact qS (CHc _))
      | (go_at_call 104;with_reducible exact qS (CHd _))
      | (go_at_call 103;with_reducible exact qS (CI1 _))
      | (go_at_call 103;with_reducible exact qS (CI2 _))
      | (go_at_call 103;with_reducible exact qS (CI4 _))
      | (go_at_call 103;with_reducible exact qS (CI5 _))
      | (go_at_call 103;with_reducible exact qS (CI6 _))
      | (go_at_call 103;with_reducible exact qS (CI8 _))))
     rename Nat=>nq2
     obtain ⟨W2,hW2⟩:∃ W,W1.drewN nq2=W:=⟨_,rfl⟩
     have hbxW2:W2.heap[w.heap.size]? = some (.cells #[.int .i64 k1,.int .u64 (v1:Int),.int .u64 (t1:Int),.int .i64 s1,.int .i64 p1,.int .i64 c1,.slice ao d1.length cap] 40 (0,0)):=by rw [← hW2];exact ((below_drewN (Below.refl (w.heap.size+1) W1) nq2).block _ (Nat.lt_succ_self _)).trans HBX1.out
     have HB4:Hid (Below w.heap.size w W2):=hid (by rw [← hW2];exact below_drewN HB3.out nq2);rw [hW2];clear e0 e1 e2 e3 e4 e5 e6;have e0:W2.cell? ⟨w.heap.size,0,none⟩=some (.int .i64 k1):=cellIs hbxW2 rfl;have e1:W2.cell? ⟨w.heap.size,1,none⟩=some (.int .u64 (v1:Int)):=cellIs hbxW2 rfl;have e2:W2.cell? ⟨w.heap.size,2,none⟩=some (.int .u64 (t1:Int)):=cellIs hbxW2 rfl;have e3:W2.cell? ⟨w.heap.size,3,none⟩=some (.int .i64 s1):=cellIs hbxW2 rfl;have e4:W2.cell? ⟨w.heap.size,4,none⟩=some (.int .i64 p1):=cellIs hbxW2 rfl
     have e5:W2.cell? ⟨w.heap.size,5,none⟩=some (.int .i64 c1):=cellIs hbxW2 rfl;have e6:W2.cell? ⟨w.heap.size,6,none⟩=some (.slice ao d1.length cap):=cellIs hbxW2 rfl;clear hW2 hbxW2;go_wp2_with fail;go_ret;exact ⟨by rw [HE.out];rfl,HB4.out⟩
    | true =>
    cases q6 with
    | false =>
     have HE:Hid (mayR ⟨k1,v1,t1,s1,p1,c1,d1⟩=false):=hid (by rw [HM3.out];rfl)
     go_enter Tryz.func79,Tryz.ntmps79
     go_wp2_with fail
     go_quiet ((first
      | (go_at_call 104;with_reducible exact qS (CHv _))
      | (go_at_call 104;with_reducible exact qS (CHt _))
      | (go_at_call 104;with_reducible exact qS (CHs _))
      | (go_at_call 104;with_reducible exact qS (CHa _))
      | (go_at_call 104;with_reducible exact qS (CHc _))
      | (go_at_call 104;with_reducible exact qS (CHd _))
      | (go_at_call 103;with_reducible exact qS (CI1 _))
      | (go_at_call 103;with_reducible exact qS (CI2 _))
      | (go_at_call 103;with_reducible exact qS (CI4 _))
      | (go_at_call 103;with_reducible exact qS (CI5 _))
      | (go_at_call 103;with_reducible exact qS (CI6 _))
      | (go_at_call 103;with_reducible exact qS (CI8 _))))
     rename_i nq;obtain ⟨W1,hW1⟩:∃ W,(w.alloc (.cells #[.int .i64 k1,.int .u64 (v1:Int),.int .u64 (t1:Int),.int .i64 s1,.int .i64 p1,.int .i64 c1,.slice ao d1.length cap] 40)).drewN nq=W:=⟨_,rfl⟩
     have hbxW1:W1.heap[w.heap.size]? = some (.cells #[.int .i64 k1,.int .u64 (v1:Int),.int .u64 (t1:Int),.int .i64 s1,.int .i64 p1,.int .i64 c1,.slice ao d1.length cap] 40 (0,0)):=by rw [← hW1];exact ((below_drewN (Below.refl (w.heap.size+1) (w.alloc (.cells #[.int .i64 k1,.int .u64 (v1:Int),.int .u64 (t1:Int),.int .i64 s1,.int .i64 p1,.int .i64 c1,.slice ao d1.length cap] 40))) nq).block _ (Nat.lt_succ_self _)).trans (heap_alloc_new w _)
     have HB3:Hid (Below w.heap.size w W1):=hid (by rw [← hW1];exact below_drewN HB2.out nq);rw [hW1];have HBX1:=hid hbxW1;have e0:W1.cell? ⟨w.heap.size,0,none⟩=some (.int .i64 k1):=cellIs hbxW1 rfl;have e1:W1.cell? ⟨w.heap.size,1,none⟩=some (.int .u64 (v1:Int)):=cellIs hbxW1 rfl;have e2:W1.cell? ⟨w.heap.size,2,none⟩=some (.int .u64 (t1:Int)):=cellIs hbxW1 rfl;have e3:W1.cell? ⟨w.heap.size,3,none⟩=some (.int .i64 s1):=cellIs hbxW1 rfl;have e4:W1.cell? ⟨w.heap.size,4,none⟩=some (.int .i64 p1):=cellIs hbxW1 rfl
     have e5:W1.cell? ⟨w.heap.size,5,none⟩=some (.int .i64 c1):=cellIs hbxW1 rfl;have e6:W1.cell? ⟨w.heap.size,6,none⟩=some (.slice ao d1.length cap):=cellIs hbxW1 rfl;clear hW1 hbxW1;go_wp2_with fail
     go_quiet ((first
      | (go_at_call 104;with_reducible exact qS (CHv _))
      | (go_at_call 104;with_reducible exact qS (CHt _))
      | (go_at_call 104;with_reducible exact qS (CHs _))
      | (go_at_call 104;with_reducible exact qS (CHa _))
      | (go_at_call 104;with_reducible exact qS (CHc _))
      | (go_at_call 104;with_reducible exact qS (CHd _))
      | (go_at_call 103;with_reducible exact qS (CI1 _))
      | (go_at_call 103;with_reducible exact qS (CI2 _))
      | (go_at_call 103;with_reducible exact qS (CI4 _))
      | (go_at_call 103;with_reducible exact qS (CI5 _))
      | (go_at_call 103;with_reducible exact qS (CI6 _))
      | (go_at_call 103;with_reducible exact qS (CI8 _))))
     rename Nat=>nq2
     obtain ⟨W2,hW2⟩:∃ W,W1.drewN nq2=W:=⟨_,rfl⟩
     have hbxW2:W2.heap[w.heap.size]? = some (.cells #[.int .i64 k1,.int .u64 (v1:Int),.int .u64 (t1:Int),.int .i64 s1,.int .i64 p1,.int .i64 c1,.slice ao d1.length cap] 40 (0,0)):=by rw [← hW2];exact ((below_drewN (Below.refl (w.heap.size+1) W1) nq2).block _ (Nat.lt_succ_self _)).trans HBX1.out
     have HB4:Hid (Below w.heap.size w W2):=hid (by rw [← hW2];exact below_drewN HB3.out nq2);rw [hW2];clear e0 e1 e2 e3 e4 e5 e6;have e0:W2.cell? ⟨w.heap.size,0,none⟩=some (.int .i64 k1):=cellIs hbxW2 rfl;have e1:W2.cell? ⟨w.heap.size,1,none⟩=some (.int .u64 (v1:Int)):=cellIs hbxW2 rfl;have e2:W2.cell? ⟨w.heap.size,2,none⟩=some (.int .u64 (t1:Int)):=cellIs hbxW2 rfl;have e3:W2.cell? ⟨w.heap.size,3,none⟩=some (.int .i64 s1):=cellIs hbxW2 rfl;have e4:W2.cell? ⟨w.heap.size,4,none⟩=some (.int .i64 p1):=cellIs hbxW2 rfl
     have e5:W2.cell? ⟨w.heap.size,5,none⟩=some (.int .i64 c1):=cellIs hbxW2 rfl;have e6:W2.cell? ⟨w.heap.size,6,none⟩=some (.slice ao d1.length cap):=cellIs hbxW2 rfl;clear hW2 hbxW2;go_wp2_with fail;go_ret;exact ⟨by rw [HE.out];rfl,HB4.out⟩
    | true =>
    by_cases h64:d1.length % 64=0
    ·have HE:Hid (mayR ⟨k1,v1,t1,s1,p1,c1,d1⟩=q8):=hid (by rw [HM3.out];simp [h64])
     have hm:((d1.length:Int) % 64 == 0)=true:=by simp;omega
     have hm2:(d1.length:Int) % 64=0:=by omega
     clear h64
     go_enter Tryz.func79,Tryz.ntmps79
     go_wp2_with fail
     go_quiet ((first
      | (go_at_call 104;with_reducible exact qS (CHv _))
      | (go_at_call 104;with_reducible exact qS (CHt _))
      | (go_at_call 104;with_reducible exact qS (CHs _))
      | (go_at_call 104;with_reducible exact qS (CHa _))
      | (go_at_call 104;with_reducible exact qS (CHc _))
      | (go_at_call 104;with_reducible exact qS (CHd _))
      | (go_at_call 103;with_reducible exact qS (CI1 _))
      | (go_at_call 103;with_reducible exact qS (CI2 _))
      | (go_at_call 103;with_reducible exact qS (CI4 _))
      | (go_at_call 103;with_reducible exact qS (CI5 _))
      | (go_at_call 103;with_reducible exact qS (CI6 _))
      | (go_at_call 103;with_reducible exact qS (CI8 _))))
     rename_i nq;obtain ⟨W1,hW1⟩:∃ W,(w.alloc (.cells #[.int .i64 k1,.int .u64 (v1:Int),.int .u64 (t1:Int),.int .i64 s1,.int .i64 p1,.int .i64 c1,.slice ao d1.length cap] 40)).drewN nq=W:=⟨_,rfl⟩
     have hbxW1:W1.heap[w.heap.size]? = some (.cells #[.int .i64 k1,.int .u64 (v1:Int),.int .u64 (t1:Int),.int .i64 s1,.int .i64 p1,.int .i64 c1,.slice ao d1.length cap] 40 (0,0)):=by rw [← hW1];exact ((below_drewN (Below.refl (w.heap.size+1) (w.alloc (.cells #[.int .i64 k1,.int .u64 (v1:Int),.int .u64 (t1:Int),.int .i64 s1,.int .i64 p1,.int .i64 c1,.slice ao d1.length cap] 40))) nq).block _ (Nat.lt_succ_self _)).trans (heap_alloc_new w _)
     have HB3:Hid (Below w.heap.size w W1):=hid (by rw [← hW1];exact below_drewN HB2.out nq);rw [hW1];have HBX1:=hid hbxW1;have e0:W1.cell? ⟨w.heap.size,0,none⟩=some (.int .i64 k1):=cellIs hbxW1 rfl;have e1:W1.cell? ⟨w.heap.size,1,none⟩=some (.int .u64 (v1:Int)):=cellIs hbxW1 rfl;have e2:W1.cell? ⟨w.heap.size,2,none⟩=some (.int .u64 (t1:Int)):=cellIs hbxW1 rfl;have e3:W1.cell? ⟨w.heap.size,3,none⟩=some (.int .i64 s1):=cellIs hbxW1 rfl;have e4:W1.cell? ⟨w.heap.size,4,none⟩=some (.int .i64 p1):=cellIs hbxW1 rfl
     have e5:W1.cell? ⟨w.heap.size,5,none⟩=some (.int .i64 c1):=cellIs hbxW1 rfl;have e6:W1.cell? ⟨w.heap.size,6,none⟩=some (.slice ao d1.length cap):=cellIs hbxW1 rfl;clear hW1 hbxW1;go_wp2_with fail
     go_quiet ((first
      | (go_at_call 104;with_reducible exact qS (CHv _))
      | (go_at_call 104;with_reducible exact qS (CHt _))
      | (go_at_call 104;with_reducible exact qS (CHs _))
      | (go_at_call 104;with_reducible exact qS (CHa _))
      | (go_at_call 104;with_reducible exact qS (CHc _))
      | (go_at_call 104;with_reducible exact qS (CHd _))
      | (go_at_call 103;with_reducible exact qS (CI1 _))
      | (go_at_call 103;with_reducible exact qS (CI2 _))
      | (go_at_call 103;with_reducible exact qS (CI4 _))
      | (go_at_call 103;with_reducible exact qS (CI5 _))
      | (go_at_call 103;with_reducible exact qS (CI6 _))
      | (go_at_call 103;with_reducible exact qS (CI8 _))))
     rename Nat=>nq2
     obtain ⟨W2,hW2⟩:∃ W,W1.drewN nq2=W:=⟨_,rfl⟩
     have hbxW2:W2.heap[w.heap.size]? = some (.cells #[.int .i64 k1,.int .u64 (v1:Int),.int .u64 (t1:Int),.int .i64 s1,.int .i64 p1,.int .i64 c1,.slice ao d1.length cap] 40 (0,0)):=by rw [← hW2];exact ((below_drewN (Below.refl (w.heap.size+1) W1) nq2).block _ (Nat.lt_succ_self _)).trans HBX1.out
     have HB4:Hid (Below w.heap.size w W2):=hid (by rw [← hW2];exact below_drewN HB3.out nq2);rw [hW2];clear e0 e1 e2 e3 e4 e5 e6;have e0:W2.cell? ⟨w.heap.size,0,none⟩=some (.int .i64 k1):=cellIs hbxW2 rfl;have e1:W2.cell? ⟨w.heap.size,1,none⟩=some (.int .u64 (v1:Int)):=cellIs hbxW2 rfl;have e2:W2.cell? ⟨w.heap.size,2,none⟩=some (.int .u64 (t1:Int)):=cellIs hbxW2 rfl;have e3:W2.cell? ⟨w.heap.size,3,none⟩=some (.int .i64 s1):=cellIs hbxW2 rfl;have e4:W2.cell? ⟨w.heap.size,4,none⟩=some (.int .i64 p1):=cellIs hbxW2 rfl
     have e5:W2.cell? ⟨w.heap.size,5,none⟩=some (.int .i64 c1):=cellIs hbxW2 rfl;have e6:W2.cell? ⟨w.heap.size,6,none⟩=some (.slice ao d1.length cap):=cellIs hbxW2 rfl;clear hW2 hbxW2;go_wp2_with fail
     go_quiet ((first
      | (go_at_call 104;with_reducible exact qS (CHv _))
      | (go_at_call 104;with_reducible exact qS (CHt _))
      | (go_at_call 104;with_reducible exact qS (CHs _))
      | (go_at_call 104;with_reducible exact qS (CHa _))
      | (go_at_call 104;with_reducible exact qS (CHc _))
      | (go_at_call 104;with_reducible exact qS (CHd _))
      | (go_at_call 103;with_reducible exact qS (CI1 _))
      | (go_at_call 103;with_reducible exact qS (CI2 _))
      | (go_at_call 103;with_reducible exact qS (CI4 _))
      | (go_at_call 103;with_reducible exact qS (CI5 _))
      | (go_at_call 103;with_reducible exact qS (CI6 _))
      | (go_at_call 103;with_reducible exact qS (CI8 _))))
     go_wp2_with fail;go_ret;exact ⟨by rw [HE.out];rfl,below_drewN HB4.out _⟩
    ·have HE:Hid (mayR ⟨k1,v1,t1,s1,p1,c1,d1⟩=false):=hid (by rw [HM3.out];simp [h64])
     have hm:((d1.length:Int) % 64 == 0)=false:=by rw [beq_eq_false_iff_ne];omega
     clear h64
     go_enter Tryz.func79,Tryz.ntmps79
     go_wp2_with fail
     go_quiet ((first
      | (go_at_call 104;with_reducible exact qS (CHv _))
      | (go_at_call 104;with_reducible exact qS (CHt _))
      | (go_at_call 104;with_reducible exact qS (CHs _))
      | (go_at_call 104;with_reducible exact qS (CHa _))
      | (go_at_call 104;with_reducible exact qS (CHc _))
      | (go_at_call 104;with_reducible exact qS (CHd _))
      | (go_at_call 103;with_reducible exact qS (CI1 _))
      | (go_at_call 103;with_reducible exact qS (CI2 _))
      | (go_at_call 103;with_reducible exact qS (CI4 _))
      | (go_at_call 103;with_reducible exact qS (CI5 _))
      | (go_at_call 103;with_reducible exact qS (CI6 _))
      | (go_at_call 103;with_reducible exact qS (CI8 _))))
     rename_i nq;obtain ⟨W1,hW1⟩:∃ W,(w.alloc (.cells #[.int .i64 k1,.int .u64 (v1:Int),.int .u64 (t1:Int),.int .i64 s1,.int .i64 p1,.int .i64 c1,.slice ao d1.length cap] 40)).drewN nq=W:=⟨_,rfl⟩
     have hbxW1:W1.heap[w.heap.size]? = some (.cells #[.int .i64 k1,.int .u64 (v1:Int),.int .u64 (t1:Int),.int .i64 s1,.int .i64 p1,.int .i64 c1,.slice ao d1.length cap] 40 (0,0)):=by rw [← hW1];exact ((below_drewN (Below.refl (w.heap.size+1) (w.alloc (.cells #[.int .i64 k1,.int .u64 (v1:Int),.int .u64 (t1:Int),.int .i64 s1,.int .i64 p1,.int .i64 c1,.slice ao d1.length cap] 40))) nq).block _ (Nat.lt_succ_self _)).trans (heap_alloc_new w _)
     have HB3:Hid (Below w.heap.size w W1):=hid (by rw [← hW1];exact below_drewN HB2.out nq);rw [hW1];have HBX1:=hid hbxW1;have e0:W1.cell? ⟨w.heap.size,0,none⟩=some (.int .i64 k1):=cellIs hbxW1 rfl;have e1:W1.cell? ⟨w.heap.size,1,none⟩=some (.int .u64 (v1:Int)):=cellIs hbxW1 rfl;have e2:W1.cell? ⟨w.heap.size,2,none⟩=some (.int .u64 (t1:Int)):=cellIs hbxW1 rfl;have e3:W1.cell? ⟨w.heap.size,3,none⟩=some (.int .i64 s1):=cellIs hbxW1 rfl;have e4:W1.cell? ⟨w.heap.size,4,none⟩=some (.int .i64 p1):=cellIs hbxW1 rfl
     have e5:W1.cell? ⟨w.heap.size,5,none⟩=some (.int .i64 c1):=cellIs hbxW1 rfl;have e6:W1.cell? ⟨w.heap.size,6,none⟩=some (.slice ao d1.length cap):=cellIs hbxW1 rfl;clear hW1 hbxW1;go_wp2_with fail
     go_quiet ((first
      | (go_at_call 104;with_reducible exact qS (CHv _))
      | (go_at_call 104;with_reducible exact qS (CHt _))
      | (go_at_call 104;with_reducible exact qS (CHs _))
      | (go_at_call 104;with_reducible exact qS (CHa _))
      | (go_at_call 104;with_reducible exact qS (CHc _))
      | (go_at_call 104;with_reducible exact qS (CHd _))
      | (go_at_call 103;with_reducible exact qS (CI1 _))
      | (go_at_call 103;with_reducible exact qS (CI2 _))
      | (go_at_call 103;with_reducible exact qS (CI4 _))
      | (go_at_call 103;with_reducible exact qS (CI5 _))
      | (go_at_call 103;with_reducible exact qS (CI6 _))
      | (go_at_call 103;with_reducible exact qS (CI8 _))))
     rename Nat=>nq2
     obtain ⟨W2,hW2⟩:∃ W,W1.drewN nq2=W:=⟨_,rfl⟩
     have hbxW2:W2.heap[w.heap.size]? = some (.cells #[.int .i64 k1,.int .u64 (v1:Int),.int .u64 (t1:Int),.int .i64 s1,.int .i64 p1,.int .i64 c1,.slice ao d1.length cap] 40 (0,0)):=by rw [← hW2];exact ((below_drewN (Below.refl (w.heap.size+1) W1) nq2).block _ (Nat.lt_succ_self _)).trans HBX1.out
     have HB4:Hid (Below w.heap.size w W2):=hid (by rw [← hW2];exact below_drewN HB3.out nq2);rw [hW2];clear e0 e1 e2 e3 e4 e5 e6;have e0:W2.cell? ⟨w.heap.size,0,none⟩=some (.int .i64 k1):=cellIs hbxW2 rfl;have e1:W2.cell? ⟨w.heap.size,1,none⟩=some (.int .u64 (v1:Int)):=cellIs hbxW2 rfl;have e2:W2.cell? ⟨w.heap.size,2,none⟩=some (.int .u64 (t1:Int)):=cellIs hbxW2 rfl;have e3:W2.cell? ⟨w.heap.size,3,none⟩=some (.int .i64 s1):=cellIs hbxW2 rfl;have e4:W2.cell? ⟨w.heap.size,4,none⟩=some (.int .i64 p1):=cellIs hbxW2 rfl
     have e5:W2.cell? ⟨w.heap.size,5,none⟩=some (.int .i64 c1):=cellIs hbxW2 rfl;have e6:W2.cell? ⟨w.heap.size,6,none⟩=some (.slice ao d1.length cap):=cellIs hbxW2 rfl;clear hW2 hbxW2;go_wp2_with fail
     go_quiet ((first
      | (go_at_call 104;with_reducible exact qS (CHv _))
      | (go_at_call 104;with_reducible exact qS (CHt _))
      | (go_at_call 104;with_reducible exact qS (CHs _))
      | (go_at_call 104;with_reducible exact qS (CHa _))
      | (go_at_call 104;with_reducible exact qS (CHc _))
      | (go_at_call 104;with_reducible exact qS (CHd _))
      | (go_at_call 103;with_reducible exact qS (CI1 _))
      | (go_at_call 103;with_reducible exact qS (CI2 _))
      | (go_at_call 103;with_reducible exact qS (CI4 _))
      | (go_at_call 103;with_reducible exact qS (CI5 _))
      | (go_at_call 103;with_reducible exact qS (CI6 _))
      | (go_at_call 103;with_reducible exact qS (CI8 _))))
     go_wp2_with fail;go_ret;exact ⟨by rw [HE.out];rfl,below_drewN HB4.out _⟩
  | false =>
   have HM3:Hid (mayR ⟨k1,v1,t1,s1,p1,c1,d1⟩=(q4 && (q5 && (q6 && ((d1.length % 64 == 0) && q8))))):=hid (by rw [HM1.out];simp)
   cases q4 with
   | false =>
    have HE:Hid (mayR ⟨k1,v1,t1,s1,p1,c1,d1⟩=false):=hid (by rw [HM3.out];rfl)
    go_enter Tryz.func79,Tryz.ntmps79
    go_wp2_with fail
    go_quiet ((first
     | (go_at_call 104;with_reducible exact qS (CHv _))
     | (go_at_call 104;with_reducible exact qS (CHt _))
     | (go_at_call 104;with_reducible exact qS (CHs _))
     | (go_at_call 104;with_reducible exact qS (CHa _))
     | (go_at_call 104;with_reducible exact qS (CHc _))
     | (go_at_call 104;with_reducible exact qS (CHd _))
     | (go_at_call 103;with_reducible exact qS (CI1 _))
     | (go_at_call 103;with_reducible exact qS (CI2 _))
     | (go_at_call 103;with_reducible exact qS (CI4 _))
     | (go_at_call 103;with_reducible exact qS (CI5 _))
     | (go_at_call 103;with_reducible exact qS (CI6 _))
     | (go_at_call 103;with_reducible exact qS (CI8 _))))
    rename_i nq;obtain ⟨W1,hW1⟩:∃ W,(w.alloc (.cells #[.int .i64 k1,.int .u64 (v1:Int),.int .u64 (t1:Int),.int .i64 s1,.int .i64 p1,.int .i64 c1,.slice ao d1.length cap] 40)).drewN nq=W:=⟨_,rfl⟩
    have hbxW1:W1.heap[w.heap.size]? = some (.cells #[.int .i64 k1,.int .u64 (v1:Int),.int .u64 (t1:Int),.int .i64 s1,.int .i64 p1,.int .i64 c1,.slice ao d1.length cap] 40 (0,0)):=by rw [← hW1];exact ((below_drewN (Below.refl (w.heap.size+1) (w.alloc (.cells #[.int .i64 k1,.int .u64 (v1:Int),.int .u64 (t1:Int),.int .i64 s1,.int .i64 p1,.int .i64 c1,.slice ao d1.length cap] 40))) nq).block _ (Nat.lt_succ_self _)).trans (heap_alloc_new w _)
    have HB3:Hid (Below w.heap.size w W1):=hid (by rw [← hW1];exact below_drewN HB2.out nq);rw [hW1];have HBX1:=hid hbxW1;have e0:W1.cell? ⟨w.heap.size,0,none⟩=some (.int .i64 k1):=cellIs hbxW1 rfl;have e1:W1.cell? ⟨w.heap.size,1,none⟩=some (.int .u64 (v1:Int)):=cellIs hbxW1 rfl;have e2:W1.cell? ⟨w.heap.size,2,none⟩=some (.int .u64 (t1:Int)):=cellIs hbxW1 rfl;have e3:W1.cell? ⟨w.heap.size,3,none⟩=some (.int .i64 s1):=cellIs hbxW1 rfl;have e4:W1.cell? ⟨w.heap.size,4,none⟩=some (.int .i64 p1):=cellIs hbxW1 rfl
    have e5:W1.cell? ⟨w.heap.size,5,none⟩=some (.int .i64 c1):=cellIs hbxW1 rfl;have e6:W1.cell? ⟨w.heap.size,6,none⟩=some (.slice ao d1.length cap):=cellIs hbxW1 rfl;clear hW1 hbxW1;go_wp2_with fail
    go_quiet ((first
     | (go_at_call 104;with_reducible exact qS (CHv _))
     | (go_at_call 104;with_reducible exact qS (CHt _))
     | (go_at_call 104;with_reducible exact qS (CHs _))
     | (go_at_call 104;with_reducible exact qS (CHa _))
     | (go_at_call 104;with_reducible exact qS (CHc _))
     | (go_at_call 104;with_reducible exact qS (CHd _))
     | (go_at_call 103;with_reducible exact qS (CI1 _))
     | (go_at_call 103;with_reducible exact qS (CI2 _))
     | (go_at_call 103;with_reducible exact qS (CI4 _))
     | (go_at_call 103;with_reducible exact qS (CI5 _))
     | (go_at_call 103;with_reducible exact qS (CI6 _))
     | (go_at_call 103;with_reducible exact qS (CI8 _))))
    rename Nat=>nq2
    obtain ⟨W2,hW2⟩:∃ W,W1.drewN nq2=W:=⟨_,rfl⟩
    have hbxW2:W2.heap[w.heap.size]? = some (.cells #[.int .i64 k1,.int .u64 (v1:Int),.int .u64 (t1:Int),.int .i64 s1,.int .i64 p1,.int .i64 c1,.slice ao d1.length cap] 40 (0,0)):=by rw [← hW2];exact ((below_drewN (Below.refl (w.heap.size+1) W1) nq2).block _ (Nat.lt_succ_self _)).trans HBX1.out
    have HB4:Hid (Below w.heap.size w W2):=hid (by rw [← hW2];exact below_drewN HB3.out nq2);rw [hW2];clear e0 e1 e2 e3 e4 e5 e6;have e0:W2.cell? ⟨w.heap.size,0,none⟩=some (.int .i64 k1):=cellIs hbxW2 rfl;have e1:W2.cell? ⟨w.heap.size,1,none⟩=some (.int .u64 (v1:Int)):=cellIs hbxW2 rfl;have e2:W2.cell? ⟨w.heap.size,2,none⟩=some (.int .u64 (t1:Int)):=cellIs hbxW2 rfl;have e3:W2.cell? ⟨w.heap.size,3,none⟩=some (.int .i64 s1):=cellIs hbxW2 rfl;have e4:W2.cell? ⟨w.heap.size,4,none⟩=some (.int .i64 p1):=cellIs hbxW2 rfl
    have e5:W2.cell? ⟨w.heap.size,5,none⟩=some (.int .i64 c1):=cellIs hbxW2 rfl;have e6:W2.cell? ⟨w.heap.size,6,none⟩=some (.slice ao d1.length cap):=cellIs hbxW2 rfl;clear hW2 hbxW2;go_wp2_with fail;go_ret;exact ⟨by rw [HE.out];rfl,HB4.out⟩
   | true =>
   cases q5 with
   | false =>
    have HE:Hid (mayR ⟨k1,v1,t1,s1,p1,c1,d1⟩=false):=hid (by rw [HM3.out];rfl)
    go_enter Tryz.func79,Tryz.ntmps79
    go_wp2_with fail
    go_quiet ((first
     | (go_at_call 104;with_reducible exact qS (CHv _))
     | (go_at_call 104;with_reducible exact qS (CHt _))
     | (go_at_call 104;with_reducible exact qS (CHs _))
     | (go_at_call 104;with_reducible exact qS (CHa _))
     | (go_at_call 104;with_reducible exact qS (CHc _))
     | (go_at_call 104;with_reducible exact qS (CHd _))
     | (go_at_call 103;with_reducible exact qS (CI1 _))
     | (go_at_call 103;with_reducible exact qS (CI2 _))
     | (go_at_call 103;with_reducible exact qS (CI4 _))
     | (go_at_call 103;with_reducible exact qS (CI5 _))
     | (go_at_call 103;with_reducible exact qS (CI6 _))
     | (go_at_call 103;with_reducible exact qS (CI8 _))))
    rename_i nq;obtain ⟨W1,hW1⟩:∃ W,(w.alloc (.cells #[.int .i64 k1,.int .u64 (v1:Int),.int .u64 (t1:Int),.int .i64 s1,.int .i64 p1,.int .i64 c1,.slice ao d1.length cap] 40)).drewN nq=W:=⟨_,rfl⟩
    have hbxW1:W1.heap[w.heap.size]? = some (.cells #[.int .i64 k1,.int .u64 (v1:Int),.int .u64 (t1:Int),.int .i64 s1,.int .i64 p1,.int .i64 c1,.slice ao d1.length cap] 40 (0,0)):=by rw [← hW1];exact ((below_drewN (Below.refl (w.heap.size+1) (w.alloc (.cells #[.int .i64 k1,.int .u64 (v1:Int),.int .u64 (t1:Int),.int .i64 s1,.int .i64 p1,.int .i64 c1,.slice ao d1.length cap] 40))) nq).block _ (Nat.lt_succ_self _)).trans (heap_alloc_new w _)
    have HB3:Hid (Below w.heap.size w W1):=hid (by rw [← hW1];exact below_drewN HB2.out nq);rw [hW1];have HBX1:=hid hbxW1;have e0:W1.cell? ⟨w.heap.size,0,none⟩=some (.int .i64 k1):=cellIs hbxW1 rfl;have e1:W1.cell? ⟨w.heap.size,1,none⟩=some (.int .u64 (v1:Int)):=cellIs hbxW1 rfl;have e2:W1.cell? ⟨w.heap.size,2,none⟩=some (.int .u64 (t1:Int)):=cellIs hbxW1 rfl;have e3:W1.cell? ⟨w.heap.size,3,none⟩=some (.int .i64 s1):=cellIs hbxW1 rfl;have e4:W1.cell? ⟨w.heap.size,4,none⟩=some (.int .i64 p1):=cellIs hbxW1 rfl
    have e5:W1.cell? ⟨w.heap.size,5,none⟩=some (.int .i64 c1):=cellIs hbxW1 rfl;have e6:W1.cell? ⟨w.heap.size,6,none⟩=some (.slice ao d1.length cap):=cellIs hbxW1 rfl;clear hW1 hbxW1;go_wp2_with fail
    go_quiet ((first
     | (go_at_call 104;with_reducible exact qS (CHv _))
     | (go_at_call 104;with_reducible exact qS (CHt _))
     | (go_at_call 104;with_reducible exact qS (CHs _))
     | (go_at_call 104;with_reducible exact qS (CHa _))
     | (go_at_call 104;with_reducible exact qS (CHc _))
     | (go_at_call 104;with_reducible exact qS (CHd _))
     | (go_at_call 103;with_reducible exact qS (CI1 _))
     | (go_at_call 103;with_reducible exact qS (CI2 _))
     | (go_at_call 103;with_reducible exact qS (CI4 _))
     | (go_at_call 103;with_reducible exact qS (CI5 _))
     | (go_at_call 103;with_reducible exact qS (CI6 _))
     | (go_at_call 103;with_reducible exact qS (CI8 _))))
    rename Nat=>nq2
    obtain ⟨W2,hW2⟩:∃ W,W1.drewN nq2=W:=⟨_,rfl⟩
    have hbxW2:W2.heap[w.heap.size]? = some (.cells #[.int .i64 k1,.int .u64 (v1:Int),.int .u64 (t1:Int),.int .i64 s1,.int .i64 p1,.int .i64 c1,.slice ao d1.length cap] 40 (0,0)):=by rw [← hW2];exact ((below_drewN (Below.refl (w.heap.size+1) W1) nq2).block _ (Nat.lt_succ_self _)).trans HBX1.out
    have HB4:Hid (Below w.heap.size w W2):=hid (by rw [← hW2];exact below_drewN HB3.out nq2);rw [hW2];clear e0 e1 e2 e3 e4 e5 e6;have e0:W2.cell? ⟨w.heap.size,0,none⟩=some (.int .i64 k1):=cellIs hbxW2 rfl;have e1:W2.cell? ⟨w.heap.size,1,none⟩=some (.int .u64 (v1:Int)):=cellIs hbxW2 rfl;have e2:W2.cell? ⟨w.heap.size,2,none⟩=some (.int .u64 (t1:Int)):=cellIs hbxW2 rfl;have e3:W2.cell? ⟨w.heap.size,3,none⟩=some (.int .i64 s1):=cellIs hbxW2 rfl;have e4:W2.cell? ⟨w.heap.size,4,none⟩=some (.int .i64 p1):=cellIs hbxW2 rfl
    have e5:W2.cell? ⟨w.heap.size,5,none⟩=some (.int .i64 c1):=cellIs hbxW2 rfl;have e6:W2.cell? ⟨w.heap.size,6,none⟩=some (.slice ao d1.length cap):=cellIs hbxW2 rfl;clear hW2 hbxW2;go_wp2_with fail;go_ret;exact ⟨by rw [HE.out];rfl,HB4.out⟩
   | true =>
   cases q6 with
   | false =>
    have HE:Hid (mayR ⟨k1,v1,t1,s1,p1,c1,d1⟩=false):=hid (by rw [HM3.out];rfl)
    go_enter Tryz.func79,Tryz.ntmps79
    go_wp2_with fail
    go_quiet ((first
     | (go_at_call 104;with_reducible exact qS (CHv _))
     | (go_at_call 104;with_reducible exact qS (CHt _))
     | (go_at_call 104;with_reducible exact qS (CHs _))
     | (go_at_call 104;with_reducible exact qS (CHa _))
     | (go_at_call 104;with_reducible exact qS (CHc _))
     | (go_at_call 104;with_reducible exact qS (CHd _))
     | (go_at_call 103;with_reducible exact qS (CI1 _))
     | (go_at_call 103;with_reducible exact qS (CI2 _))
     | (go_at_call 103;with_reducible exact qS (CI4 _))
     | (go_at_call 103;with_reducible exact qS (CI5 _))
     | (go_at_call 103;with_reducible exact qS (CI6 _))
     | (go_at_call 103;with_reducible exact qS (CI8 _))))
    rename_i nq;obtain ⟨W1,hW1⟩:∃ W,(w.alloc (.cells #[.int .i64 k1,.int .u64 (v1:Int),.int .u64 (t1:Int),.int .i64 s1,.int .i64 p1,.int .i64 c1,.slice ao d1.length cap] 40)).drewN nq=W:=⟨_,rfl⟩
    have hbxW1:W1.heap[w.heap.size]? = some (.cells #[.int .i64 k1,.int .u64 (v1:Int),.int .u64 (t1:Int),.int .i64 s1,.int .i64 p1,.int .i64 c1,.slice ao d1.length cap] 40 (0,0)):=by rw [← hW1];exact ((below_drewN (Below.refl (w.heap.size+1) (w.alloc (.cells #[.int .i64 k1,.int .u64 (v1:Int),.int .u64 (t1:Int),.int .i64 s1,.int .i64 p1,.int .i64 c1,.slice ao d1.length cap] 40))) nq).block _ (Nat.lt_succ_self _)).trans (heap_alloc_new w _)
    have HB3:Hid (Below w.heap.size w W1):=hid (by rw [← hW1];exact below_drewN HB2.out nq);rw [hW1];have HBX1:=hid hbxW1;have e0:W1.cell? ⟨w.heap.size,0,none⟩=some (.int .i64 k1):=cellIs hbxW1 rfl;have e1:W1.cell? ⟨w.heap.size,1,none⟩=some (.int .u64 (v1:Int)):=cellIs hbxW1 rfl;have e2:W1.cell? ⟨w.heap.size,2,none⟩=some (.int .u64 (t1:Int)):=cellIs hbxW1 rfl;have e3:W1.cell? ⟨w.heap.size,3,none⟩=some (.int .i64 s1):=cellIs hbxW1 rfl;have e4:W1.cell? ⟨w.heap.size,4,none⟩=some (.int .i64 p1):=cellIs hbxW1 rfl
    have e5:W1.cell? ⟨w.heap.size,5,none⟩=some (.int .i64 c1):=cellIs hbxW1 rfl;have e6:W1.cell? ⟨w.heap.size,6,none⟩=some (.slice ao d1.length cap):=cellIs hbxW1 rfl;clear hW1 hbxW1;go_wp2_with fail
    go_quiet ((first
     | (go_at_call 104;with_reducible exact qS (CHv _))
     | (go_at_call 104;with_reducible exact qS (CHt _))
     | (go_at_call 104;with_reducible exact qS (CHs _))
     | (go_at_call 104;with_reducible exact qS (CHa _))
     | (go_at_call 104;with_reducible exact qS (CHc _))
     | (go_at_call 104;with_reducible exact qS (CHd _))
     | (go_at_call 103;with_reducible exact qS (CI1 _))
     | (go_at_call 103;with_reducible exact qS (CI2 _))
     | (go_at_call 103;with_reducible exact qS (CI4 _))
     | (go_at_call 103;with_reducible exact qS (CI5 _))
     | (go_at_call 103;with_reducible exact qS (CI6 _))
     | (go_at_call 103;with_reducible exact qS (CI8 _))))
    rename Nat=>nq2
    obtain ⟨W2,hW2⟩:∃ W,W1.drewN nq2=W:=⟨_,rfl⟩
    have hbxW2:W2.heap[w.heap.size]? = some (.cells #[.int .i64 k1,.int .u64 (v1:Int),.int .u64 (t1:Int),.int .i64 s1,.int .i64 p1,.int .i64 c1,.slice ao d1.length cap] 40 (0,0)):=by rw [← hW2];exact ((below_drewN (Below.refl (w.heap.size+1) W1) nq2).block _ (Nat.lt_succ_self _)).trans HBX1.out
    have HB4:Hid (Below w.heap.size w W2):=hid (by rw [← hW2];exact below_drewN HB3.out nq2);rw [hW2];clear e0 e1 e2 e3 e4 e5 e6;have e0:W2.cell? ⟨w.heap.size,0,none⟩=some (.int .i64 k1):=cellIs hbxW2 rfl;have e1:W2.cell? ⟨w.heap.size,1,none⟩=some (.int .u64 (v1:Int)):=cellIs hbxW2 rfl;have e2:W2.cell? ⟨w.heap.size,2,none⟩=some (.int .u64 (t1:Int)):=cellIs hbxW2 rfl;have e3:W2.cell? ⟨w.heap.size,3,none⟩=some (.int .i64 s1):=cellIs hbxW2 rfl;have e4:W2.cell? ⟨w.heap.size,4,none⟩=some (.int .i64 p1):=cellIs hbxW2 rfl
    have e5:W2.cell? ⟨w.heap.size,5,none⟩=some (.int .i64 c1):=cellIs hbxW2 rfl;have e6:W2.cell? ⟨w.heap.size,6,none⟩=some (.slice ao d1.length cap):=cellIs hbxW2 rfl;clear hW2 hbxW2;go_wp2_with fail;go_ret;exact ⟨by rw [HE.out];rfl,HB4.out⟩
   | true =>
   by_cases h64:d1.length % 64=0
   ·have HE:Hid (mayR ⟨k1,v1,t1,s1,p1,c1,d1⟩=q8):=hid (by rw [HM3.out];simp [h64])
    have hm:((d1.length:Int) % 64 == 0)=true:=by simp;omega
    have hm2:(d1.length:Int) % 64=0:=by omega
    clear h64
    go_enter Tryz.func79,Tryz.ntmps79
    go_wp2_with fail
    go_quiet ((first
     | (go_at_call 104;with_reducible exact qS (CHv _))
     | (go_at_call 104;with_reducible exact qS (CHt _))
     | (go_at_call 104;with_reducible exact qS (CHs _))
     | (go_at_call 104;with_reducible exact qS (CHa _))
     | (go_at_call 104;with_reducible exact qS (CHc _))
     | (go_at_call 104;with_reducible exact qS (CHd _))
     | (go_at_call 103;with_reducible exact qS (CI1 _))
     | (go_at_call 103;with_reducible exact qS (CI2 _))
     | (go_at_call 103;with_reducible exact qS (CI4 _))
     | (go_at_call 103;with_reducible exact qS (CI5 _))
     | (go_at_call 103;with_reducible exact qS (CI6 _))
     | (go_at_call 103;with_reducible exact qS (CI8 _))))
    rename_i nq;obtain ⟨W1,hW1⟩:∃ W,(w.alloc (.cells #[.int .i64 k1,.int .u64 (v1:Int),.int .u64 (t1:Int),.int .i64 s1,.int .i64 p1,.int .i64 c1,.slice ao d1.length cap] 40)).drewN nq=W:=⟨_,rfl⟩
    have hbxW1:W1.heap[w.heap.size]? = some (.cells #[.int .i64 k1,.int .u64 (v1:Int),.int .u64 (t1:Int),.int .i64 s1,.int .i64 p1,.int .i64 c1,.slice ao d1.length cap] 40 (0,0)):=by rw [← hW1];exact ((below_drewN (Below.refl (w.heap.size+1) (w.alloc (.cells #[.int .i64 k1,.int .u64 (v1:Int),.int .u64 (t1:Int),.int .i64 s1,.int .i64 p1,.int .i64 c1,.slice ao d1.length cap] 40))) nq).block _ (Nat.lt_succ_self _)).trans (heap_alloc_new w _)
    have HB3:Hid (Below w.heap.size w W1):=hid (by rw [← hW1];exact below_drewN HB2.out nq);rw [hW1];have HBX1:=hid hbxW1;have e0:W1.cell? ⟨w.heap.size,0,none⟩=some (.int .i64 k1):=cellIs hbxW1 rfl;have e1:W1.cell? ⟨w.heap.size,1,none⟩=some (.int .u64 (v1:Int)):=cellIs hbxW1 rfl;have e2:W1.cell? ⟨w.heap.size,2,none⟩=some (.int .u64 (t1:Int)):=cellIs hbxW1 rfl;have e3:W1.cell? ⟨w.heap.size,3,none⟩=some (.int .i64 s1):=cellIs hbxW1 rfl;have e4:W1.cell? ⟨w.heap.size,4,none⟩=some (.int .i64 p1):=cellIs hbxW1 rfl
    have e5:W1.cell? ⟨w.heap.size,5,none⟩=some (.int .i64 c1):=cellIs hbxW1 rfl;have e6:W1.cell? ⟨w.heap.size,6,none⟩=some (.slice ao d1.length cap):=cellIs hbxW1 rfl;clear hW1 hbxW1;go_wp2_with fail
    go_quiet ((first
     | (go_at_call 104;with_reducible exact qS (CHv _))
     | (go_at_call 104;with_reducible exact qS (CHt _))
     | (go_at_call 104;with_reducible exact qS (CHs _))
     | (go_at_call 104;with_reducible exact qS (CHa _))
     | (go_at_call 104;with_reducible exact qS (CHc _))
     | (go_at_call 104;with_reducible exact qS (CHd _))
     | (go_at_call 103;with_reducible exact qS (CI1 _))
     | (go_at_call 103;with_reducible exact qS (CI2 _))
     | (go_at_call 103;with_reducible exact qS (CI4 _))
     | (go_at_call 103;with_reducible exact qS (CI5 _))
     | (go_at_call 103;with_reducible exact qS (CI6 _))
     | (go_at_call 103;with_reducible exact qS (CI8 _))))
    rename Nat=>nq2
    obtain ⟨W2,hW2⟩:∃ W,W1.drewN nq2=W:=⟨_,rfl⟩
    have hbxW2:W2.heap[w.heap.size]? = some (.cells #[.int .i64 k1,.int .u64 (v1:Int),.int .u64 (t1:Int),.int .i64 s1,.int .i64 p1,.int .i64 c1,.slice ao d1.length cap] 40 (0,0)):=by rw [← hW2];exact ((below_drewN (Below.refl (w.heap.size+1) W1) nq2).block _ (Nat.lt_succ_self _)).trans HBX1.out
    have HB4:Hid (Below w.heap.size w W2):=hid (by rw [← hW2];exact below_drewN HB3.out nq2);rw [hW2];clear e0 e1 e2 e3 e4 e5 e6;have e0:W2.cell? ⟨w.heap.size,0,none⟩=some (.int .i64 k1):=cellIs hbxW2 rfl;have e1:W2.cell? ⟨w.heap.size,1,none⟩=some (.int .u64 (v1:Int)):=cellIs hbxW2 rfl;have e2:W2.cell? ⟨w.heap.size,2,none⟩=some (.int .u64 (t1:Int)):=cellIs hbxW2 rfl;have e3:W2.cell? ⟨w.heap.size,3,none⟩=some (.int .i64 s1):=cellIs hbxW2 rfl;have e4:W2.cell? ⟨w.heap.size,4,none⟩=some (.int .i64 p1):=cellIs hbxW2 rfl
    have e5:W2.cell? ⟨w.heap.size,5,none⟩=some (.int .i64 c1):=cellIs hbxW2 rfl;have e6:W2.cell? ⟨w.heap.size,6,none⟩=some (.slice ao d1.length cap):=cellIs hbxW2 rfl;clear hW2 hbxW2;go_wp2_with fail
    go_quiet ((first
     | (go_at_call 104;with_reducible exact qS (CHv _))
     | (go_at_call 104;with_reducible exact qS (CHt _))
     | (go_at_call 104;with_reducible exact qS (CHs _))
     | (go_at_call 104;with_reducible exact qS (CHa _))
     | (go_at_call 104;with_reducible exact qS (CHc _))
     | (go_at_call 104;with_reducible exact qS (CHd _))
     | (go_at_call 103;with_reducible exact qS (CI1 _))
     | (go_at_call 103;with_reducible exact qS (CI2 _))
     | (go_at_call 103;with_reducible exact qS (CI4 _))
     | (go_at_call 103;with_reducible exact qS (CI5 _))
     | (go_at_call 103;with_reducible exact qS (CI6 _))
     | (go_at_call 103;with_reducible exact qS (CI8 _))))
    go_wp2_with fail;go_ret;exact ⟨by rw [HE.out];rfl,below_drewN HB4.out _⟩
   ·have HE:Hid (mayR ⟨k1,v1,t1,s1,p1,c1,d1⟩=false):=hid (by rw [HM3.out];simp [h64])
    have hm:((d1.length:Int) % 64 == 0)=false:=by rw [beq_eq_false_iff_ne];omega
    clear h64
    go_enter Tryz.func79,Tryz.ntmps79
    go_wp2_with fail
    go_quiet ((first
     | (go_at_call 104;with_reducible exact qS (CHv _))
     | (go_at_call 104;with_reducible exact qS (CHt _))
     | (go_at_call 104;with_reducible exact qS (CHs _))
     | (go_at_call 104;with_reducible exact qS (CHa _))
     | (go_at_call 104;with_reducible exact qS (CHc _))
     | (go_at_call 104;with_reducible exact qS (CHd _))
     | (go_at_call 103;with_reducible exact qS (CI1 _))
     | (go_at_call 103;with_reducible exact qS (CI2 _))
     | (go_at_call 103;with_reducible exact qS (CI4 _))
     | (go_at_call 103;with_reducible exact qS (CI5 _))
     | (go_at_call 103;with_reducible exact qS (CI6 _))
     | (go_at_call 103;with_reducible exact qS (CI8 _))))
    rename_i nq;obtain ⟨W1,hW1⟩:∃ W,(w.alloc (.cells #[.int .i64 k1,.int .u64 (v1:Int),.int .u64 (t1:Int),.int .i64 s1,.int .i64 p1,.int .i64 c1,.slice ao d1.length cap] 40)).drewN nq=W:=⟨_,rfl⟩
    have hbxW1:W1.heap[w.heap.size]? = some (.cells #[.int .i64 k1,.int .u64 (v1:Int),.int .u64 (t1:Int),.int .i64 s1,.int .i64 p1,.int .i64 c1,.slice ao d1.length cap] 40 (0,0)):=by rw [← hW1];exact ((below_drewN (Below.refl (w.heap.size+1) (w.alloc (.cells #[.int .i64 k1,.int .u64 (v1:Int),.int .u64 (t1:Int),.int .i64 s1,.int .i64 p1,.int .i64 c1,.slice ao d1.length cap] 40))) nq).block _ (Nat.lt_succ_self _)).trans (heap_alloc_new w _)
    have HB3:Hid (Below w.heap.size w W1):=hid (by rw [← hW1];exact below_drewN HB2.out nq);rw [hW1];have HBX1:=hid hbxW1;have e0:W1.cell? ⟨w.heap.size,0,none⟩=some (.int .i64 k1):=cellIs hbxW1 rfl;have e1:W1.cell? ⟨w.heap.size,1,none⟩=some (.int .u64 (v1:Int)):=cellIs hbxW1 rfl;have e2:W1.cell? ⟨w.heap.size,2,none⟩=some (.int .u64 (t1:Int)):=cellIs hbxW1 rfl;have e3:W1.cell? ⟨w.heap.size,3,none⟩=some (.int .i64 s1):=cellIs hbxW1 rfl;have e4:W1.cell? ⟨w.heap.size,4,none⟩=some (.int .i64 p1):=cellIs hbxW1 rfl
    have e5:W1.cell? ⟨w.heap.size,5,none⟩=some (.int .i64 c1):=cellIs hbxW1 rfl;have e6:W1.cell? ⟨w.heap.size,6,none⟩=some (.slice ao d1.length cap):=cellIs hbxW1 rfl;clear hW1 hbxW1;go_wp2_with fail
    go_quiet ((first
     | (go_at_call 104;with_reducible exact qS (CHv _))
     | (go_at_call 104;with_reducible exact qS (CHt _))
     | (go_at_call 104;with_reducible exact qS (CHs _))
     | (go_at_call 104;with_reducible exact qS (CHa _))
     | (go_at_call 104;with_reducible exact qS (CHc _))
     | (go_at_call 104;with_reducible exact qS (CHd _))
     | (go_at_call 103;with_reducible exact qS (CI1 _))
     | (go_at_call 103;with_reducible exact qS (CI2 _))
     | (go_at_call 103;with_reducible exact qS (CI4 _))
     | (go_at_call 103;with_reducible exact qS (CI5 _))
     | (go_at_call 103;with_reducible exact qS (CI6 _))
     | (go_at_call 103;with_reducible exact qS (CI8 _))))
    rename Nat=>nq2
    obtain ⟨W2,hW2⟩:∃ W,W1.drewN nq2=W:=⟨_,rfl⟩
    have hbxW2:W2.heap[w.heap.size]? = some (.cells #[.int .i64 k1,.int .u64 (v1:Int),.int .u64 (t1:Int),.int .i64 s1,.int .i64 p1,.int .i64 c1,.slice ao d1.length cap] 40 (0,0)):=by rw [← hW2];exact ((below_drewN (Below.refl (w.heap.size+1) W1) nq2).block _ (Nat.lt_succ_self _)).trans HBX1.out
    have HB4:Hid (Below w.heap.size w W2):=hid (by rw [← hW2];exact below_drewN HB3.out nq2);rw [hW2];clear e0 e1 e2 e3 e4 e5 e6;have e0:W2.cell? ⟨w.heap.size,0,none⟩=some (.int .i64 k1):=cellIs hbxW2 rfl;have e1:W2.cell? ⟨w.heap.size,1,none⟩=some (.int .u64 (v1:Int)):=cellIs hbxW2 rfl;have e2:W2.cell? ⟨w.heap.size,2,none⟩=some (.int .u64 (t1:Int)):=cellIs hbxW2 rfl;have e3:W2.cell? ⟨w.heap.size,3,none⟩=some (.int .i64 s1):=cellIs hbxW2 rfl;have e4:W2.cell? ⟨w.heap.size,4,none⟩=some (.int .i64 p1):=cellIs hbxW2 rfl
    have e5:W2.cell? ⟨w.heap.size,5,none⟩=some (.int .i64 c1):=cellIs hbxW2 rfl;have e6:W2.cell? ⟨w.heap.size,6,none⟩=some (.slice ao d1.length cap):=cellIs hbxW2 rfl;clear hW2 hbxW2;go_wp2_with fail
    go_quiet ((first
     | (go_at_call 104;with_reducible exact qS (CHv _))
     | (go_at_call 104;with_reducible exact qS (CHt _))
     | (go_at_call 104;with_reducible exact qS (CHs _))
     | (go_at_call 104;with_reducible exact qS (CHa _))
     | (go_at_call 104;with_reducible exact qS (CHc _))
     | (go_at_call 104;with_reducible exact qS (CHd _))
     | (go_at_call 103;with_reducible exact qS (CI1 _))
     | (go_at_call 103;with_reducible exact qS (CI2 _))
     | (go_at_call 103;with_reducible exact qS (CI4 _))
     | (go_at_call 103;with_reducible exact qS (CI5 _))
     | (go_at_call 103;with_reducible exact qS (CI6 _))
     | (go_at_call 103;with_reducible exact qS (CI8 _))))
    go_wp2_with fail;go_ret;exact ⟨by rw [HE.out];rfl,below_drewN HB4.out _⟩
 ·have HE:Hid (mayR ⟨k1,v1,t1,s1,p1,c1,d1⟩=false):=hid (by
   have:b0 ⟨k1,v1,t1,s1,p1,c1,d1⟩=false:=by
    rw [H0.out,Bool.eq_false_iff];intro h;simp only [Bool.and_eq_true,decide_eq_true_eq] at h;exact h0 ⟨h.1.1.1,h.1.1.2,h.1.2,h.2⟩
   rw [HMR.out,this];rfl)
  clear HMR H0
  by_cases i1:1≤k1
  ·by_cases i2:k1≤9
   ·by_cases i3:v1≤4294967295
    ·have i4:4294967295<(t1:Int):=by omega
     have j3:(v1:Int)≤4294967295:=by omega
     clear h0
     go_enter Tryz.func79,Tryz.ntmps79
     go_wp2_with fail;go_ret;exact ⟨by rw [HE.out];rfl,HB2.out⟩
    ·have j3:4294967295<(v1:Int):=by omega
     clear h0
     go_enter Tryz.func79,Tryz.ntmps79
     go_wp2_with fail;go_ret;exact ⟨by rw [HE.out];rfl,HB2.out⟩
   ·have j2:9<k1:=by omega
    clear h0 i2
    go_enter Tryz.func79,Tryz.ntmps79
    go_wp2_with fail;go_ret;exact ⟨by rw [HE.out];rfl,HB2.out⟩
  ·have j1:k1<1:=by omega
   clear h0 i1
   go_enter Tryz.func79,Tryz.ntmps79
   go_wp2_with fail;go_ret;exact ⟨by rw [HE.out];rfl,HB2.out⟩
end Go.Proofs.YthkmihedkddnmaaGreat
