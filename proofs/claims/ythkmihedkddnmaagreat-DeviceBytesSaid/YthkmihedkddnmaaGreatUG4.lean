import Derived.Test.YthkmihedkddnmaaGreatUG2
import Derived.Test.YthkmihedkddnmaaGreatUG1
import Derived.Deep.DeepCutAuto
import Derived.Deep.LoopGhost
import Derived.Lib.OthersKept
import Derived.BigQuiet
import Derived.Deep.QuietTactic
set_option linter.unusedVariables false
set_option linter.unusedSimpArgs false
set_option maxHeartbeats 6400000
set_option maxRecDepth 100000
namespace Go.Proofs.YthkmihedkddnmaaGreat.Cmd
open Lib (hid)
open Wire
structure Op0 where
 k:Int
 vol:Nat
 «to» : Nat
 size:Int
 pl:Int
 count:Int
 data:List UInt8
deriving DecidableEq
def opEq (a b:Op0):Bool:=decide (a=b)
theorem opEq_no {a b:Op0} (h:a≠b):opEq a b=false:=decide_eq_false h
theorem opEq_yes {a b:Op0} (h:a=b):opEq a b=true:=decide_eq_true h
structure Op0.Ok (o:Op0):Prop where
 k : -9223372036854775808≤o.k∧o.k≤9223372036854775807
 vol:o.vol<18446744073709551616
 «to» : o.to<18446744073709551616
 size : -9223372036854775808≤o.size∧o.size≤9223372036854775807
 pl : -9223372036854775808≤o.pl∧o.pl≤9223372036854775807
 count : -9223372036854775808≤o.count∧o.count≤9223372036854775807
def nm (k:Int):List UInt8 :=
 if k=1∨k=3 then [118,115] else if k=2 then [118] else if k=4 then [118,116] else if k=5 then [118,97,100]
 else if k=6∨k=7∨k=9 then [118,97,99] else []
theorem nm_no {k:Int} (h:k<1∨10≤k):nm k=[]:=by unfold nm;repeat rw [if_neg (by omega)]
theorem nm_len (k:Int):(nm k).length≤3:=by unfold nm;(repeat' split) <;> decide
theorem nm_low (k:Int):∀ c∈nm k,c.toNat<128:=by unfold nm;(repeat' split) <;> decide
def wIn (c:Int) (o:Op0):Bool :=
 if c=118 then decide (1≤o.vol) && decide (o.vol<4294967296)
 else if c=116 then decide (1≤o.to) && decide (o.to<4294967296) && (o.to != o.vol)
 else if c=115 then decide (0≤o.size) && decide (o.size≤256)
 else if c=97 then decide (0≤o.pl) && decide (o.pl≤1048576)
 else if c=99 then decide (1≤o.count) && decide (o.count≤1024)
 else decide (64≤o.data.length) && decide (o.data.length % 64=0) && decide (o.data.length≤2048)
def setL (b:Op0) (c:Int) (o:Op0):Op0 :=
 if c=118 then { b with vol:=o.vol } else if c=116 then { b with «to»:=o.to } else if c=115 then { b with size:=o.size }
 else if c=97 then { b with pl:=o.pl } else if c=99 then { b with count:=o.count } else { b with data:=o.data }
def bare0 (o:Op0):Op0:=⟨o.k,0,0,0,0,0,[]⟩
def bare (o:Op0) (l:List UInt8):Op0:=l.foldl (fun b c=>setL b (c.toNat:Int) o) (bare0 o)
theorem bare_snoc (o:Op0) (l:List UInt8) (c:UInt8):bare o (l ++ [c])=setL (bare o l) (c.toNat:Int) o:=by simp [bare]
def mayO (o:Op0):Bool:=(nm o.k).all (fun c=>wIn (c.toNat:Int) o) && (decide (1≤o.k) && decide (o.k≤9)) && opEq o (bare o (nm o.k))
def shL (c:Int):UInt8:=if c=118∨c=116∨c=115∨c=97∨c=99 then 52 else 42
def toU (n:Int):Nat:=(n % 18446744073709551616).toNat
def vaL (c:Int) (o:Op0):V :=
 if c=118 then num o.vol else if c=116 then num o.to else if c=115 then num (toU o.size) else if c=97 then num (toU o.pl) else if c=99 then num (toU o.count) else blob o.data
def shS (l:List UInt8):List UInt8:=l.map fun c=>shL (c.toNat:Int)
def vals (o:Op0) (l:List UInt8):List V:=l.map fun c=>vaL (c.toNat:Int) o
def packO (o:Op0):Option (List UInt8):=if mayO o then pack (49 :: shS (nm o.k)) (num (toU o.k) :: vals o (nm o.k)) else none
end Go.Proofs.YthkmihedkddnmaaGreat.Cmd
namespace Go.Proofs.YthkmihedkddnmaaGreat.Cmd
open Lib (hid)
open Wire
/-! the reference's -/
def inP (b:Bool) (lo n hi:Int):Bool:=if b then decide (lo≤n) && decide (n≤hi) else decide (n=0)
def hasK (k:Int) (c:UInt8):Bool:=(nm k).contains c
def b0 (o:Op0):Bool:=decide (1≤o.k) && decide (o.k≤9) && decide (o.vol≤4294967295) && decide (o.to≤4294967295)
def b1 (o:Op0):Bool:=inP (hasK o.k 118) 1 o.vol 4294967295
def b2 (o:Op0):Bool:=inP (hasK o.k 116) 1 o.to 4294967295
def b3 (o:Op0):Bool := !(hasK o.k 116 && (o.to == o.vol))
def b4 (o:Op0):Bool:=inP (hasK o.k 115) 0 o.size 256
def b5 (o:Op0):Bool:=inP (hasK o.k 97) 0 o.pl 1048576
def b6 (o:Op0):Bool:=inP (hasK o.k 99) 1 o.count 1024
def b7 (o:Op0):Bool:=o.data.length % 64 == 0
def b8 (o:Op0):Bool:=inP (hasK o.k 100) 1 ((o.data.length:Int) / 64) 32
def mayR (o:Op0):Bool:=b0 o && (b1 o && (b2 o && (b3 o && (b4 o && (b5 o && (b6 o && (b7 o && b8 o)))))))
end Go.Proofs.YthkmihedkddnmaaGreat.Cmd
namespace Go.Proofs.YthkmihedkddnmaaGreat
open Lib (hid)
open Go.RowKit
open Wire Cmd
def oC (o:Op0) (sl:Value):Array Value:=#[.int .i64 o.k,.int .u64 (o.vol:Int),.int .u64 (o.to:Int),.int .i64 o.size,.int .i64 o.pl,.int .i64 o.count,sl]
theorem names_any (k:Int) (w:World):Calls Tryz.prog 97 #[.int .i64 k] w fun e w'=>e = .returned (.string (strB (nm k)))∧Below w.heap.size w w':=by
 by_cases h1:k<1
 ·rw [nm_no (.inl h1)]
  go_enter Tryz.func97,Tryz.ntmps97
  go_wp2_with fail;go_ret;exact ⟨rfl,balloc (Below.refl _ _) _⟩
 by_cases h2:10≤k
 ·rw [nm_no (.inr h2)]
  go_enter Tryz.func97,Tryz.ntmps97
  go_wp2_with fail;go_ret;exact ⟨rfl,balloc (Below.refl _ _) _⟩
 have hc:k=1∨k=2∨k=3∨k=4∨k=5∨k=6∨k=7∨k=8∨k=9:=by omega
 clear h1 h2
 rcases hc with rfl | rfl | rfl | rfl | rfl | rfl | rfl | rfl | rfl
 all_goals
  go_enter Tryz.func97,Tryz.ntmps97
  go_wp2_with fail;go_ret;exact ⟨rfl,balloc (Below.refl _ _) _⟩
theorem equal8 (u v:Value) (n m:Nat) (xs ys:List UInt8) (w:World) (hu:Rd w 1 u n (bV xs)) (hv:Rd w 1 v m (bV ys)) :
  Calls Tryz.prog 124 #[u,v] w fun e w'=>e = .returned (.bool (xs == ys))∧Below w.heap.size w w':=by
 have hxl:xs.length=n:=by obtain ⟨_,_,_,hl,_⟩:=hu;simpa [bV] using hl
 have hyl:ys.length=m:=by obtain ⟨_,_,_,hl,_⟩:=hv;simpa [bV] using hl
 obtain ⟨ao,ca,rfl,_,hm1,_,hc1⟩:=hu;obtain ⟨bo,cb,rfl,_,hm2,_,hc2⟩:=hv;unfold maxLen at hm1 hm2;have HX:=hid hxl;have HY:=hid hyl;have H1:=hid hc1;have H2:=hid hc2;clear hxl hyl hc1 hc2
 by_cases hnm:n=m
 ·subst hnm
  have hne:((n:Int) != (n:Int))=false:=by simp
  go_enter Tryz.func124,Tryz.ntmps124
  go_wp2_with fail;clear hne
  go_loopw [13] (fun i wr=>∃ k:Nat,k≤n∧i = .int .i64 (k:Int)∧xs.take k=ys.take k∧Below w.heap.size w wr) (fun i _=>n - (intOf i).toNat)
  case atStart=>exact ⟨0,by omega,rfl,by simp,Below.refl _ _⟩
  case round =>
   obtain ⟨k,hk,rfl,htk,hb⟩:=hrel;have HT:=hid htk;have HB:=hid hb;clear htk hb
   by_cases hlt:k<n
   ·obtain ⟨x,hx⟩:∃ x,xs[k]? = some x:=⟨_,List.getElem?_eq_getElem (by rw [HX.out];exact hlt)⟩
    obtain ⟨y,hy⟩:∃ y,ys[k]? = some y:=⟨_,List.getElem?_eq_getElem (by rw [HY.out];exact hlt)⟩
    obtain ⟨b1,o1,rfl,hl1,hcx⟩:=H1.out k _ (bV_get hx);obtain ⟨b2,o2,rfl,hl2,hcy⟩:=H2.out k _ (bV_get hy);have hx':wr.cell? ⟨b1,o1+k,none⟩=some (.int .u8 (x.toNat:Int)):=(HB.out.cell (p:=⟨b1,o1+k,none⟩) hl1).trans hcx;have hy':wr.cell? ⟨b2,o2+k,none⟩=some (.int .u8 (y.toNat:Int)):=(HB.out.cell (p:=⟨b2,o2+k,none⟩) hl2).trans hcy;have HXY:=hid (And.intro hx hy);clear hx hy hcx hcy
    by_cases hxy:x=y
    ·subst hxy
     have hne:((x.toNat:Int) != (x.toNat:Int))=false:=by simp
     have HT2:Hid (xs.take (k+1)=ys.take (k+1)):=hid (by rw [List.take_add_one,List.take_add_one,HT.out,HXY.out.1,HXY.out.2]);go_wp2_with fail
     go_quiet (fail)
     go_wp2_with fail;go_roundw
     case rel=>exact ⟨k+1,by omega,by go_num,HT2.out,below_drewN HB.out _⟩
     case measure=>simp [intOf];omega
    ·have hne:((x.toNat:Int) != (y.toNat:Int))=true:=by
      rw [bne_iff_ne];intro h;exact hxy (UInt8.toNat_inj.1 (by omega))
     have HE:Hid ((xs == ys)=false):=hid (by
      rw [beq_eq_false_iff_ne];rintro rfl;have h1:=HXY.out.1;rw [HXY.out.2] at h1;exact hxy (Option.some.inj h1).symm)
     go_wp2_with fail
     go_quiet (fail)
     go_wp2_with fail;go_ret;exact ⟨by rw [HE.out];rfl,below_drewN HB.out _⟩
   ·obtain rfl:k=n:=by omega
    have HE:Hid ((xs == ys)=true):=hid (by
     rw [beq_iff_eq];have h1:=HT.out;rw [List.take_of_length_le (by rw [HX.out];exact Nat.le_refl _),List.take_of_length_le (by rw [HY.out];exact Nat.le_refl _)] at h1;exact h1)
    go_wp2_with fail;go_ret;exact ⟨by rw [HE.out];rfl,HB.out⟩
 ·have hne:((n:Int) != (m:Int))=true:=by rw [bne_iff_ne];omega
  have HE:Hid ((xs == ys)=false):=hid (by
   rw [beq_eq_false_iff_ne];rintro rfl;exact hnm (by rw [← HX.out,← HY.out]))
  clear hnm
  go_enter Tryz.func124,Tryz.ntmps124
  go_wp2_with fail;go_ret;exact ⟨by rw [HE.out];rfl,Below.refl _ _⟩
end Go.Proofs.YthkmihedkddnmaaGreat
namespace Go.Proofs.YthkmihedkddnmaaGreat
open Lib (hid)
open Go.RowKit
open Wire Cmd
theorem beqI {a b:Int} (h:a=b):(a == b)=true:=by rw [h];simp
theorem bneI {a b:Int} (h:a≠b):(a == b)=false:=by simpa using h
theorem same_any (a b:Op0) (sa sb:Value) (w:World) (ha:Rd w 1 sa a.data.length (bV a.data)) (hb:Rd w 1 sb b.data.length (bV b.data)) :
  Calls Tryz.prog 99 #[.agg (oC a sa),.agg (oC b sb)] w fun e w'=>e = .returned (.bool (opEq a b))∧Below w.heap.size w w':=by
 obtain ⟨k1,v1,t1,s1,p1,c1,d1⟩:=a;obtain ⟨k2,v2,t2,s2,p2,c2,d2⟩:=b;unfold oC;have HA:=hid ha;have HB:=hid hb;dsimp only at ha hb ⊢;clear ha hb;have HB2:Hid (Below w.heap.size w ((w.alloc (.cells #[.int .i64 k1,.int .u64 (v1:Int),.int .u64 (t1:Int),.int .i64 s1,.int .i64 p1,.int .i64 c1,sa] 40)).alloc (.cells #[.int .i64 k2,.int .u64 (v2:Int),.int .u64 (t2:Int),.int .i64 s2,.int .i64 p2,.int .i64 c2,sb] 40))):=hid (balloc (balloc (Below.refl _ _) _) _)
 by_cases h1:k1=k2
 rotate_left
 ·have HE:=hid (opEq_no (fun e:(⟨k1,v1,t1,s1,p1,c1,d1⟩:Op0)=⟨k2,v2,t2,s2,p2,c2,d2⟩=>h1 (by injection e)))
  have g1:=bneI h1;clear h1
  go_enter Tryz.func99,Tryz.ntmps99
  go_wp2_with fail;go_ret;exact ⟨by rw [HE.out];rfl,HB2.out⟩
 subst h1;have g1:=beqI (rfl:k1=k1)
 by_cases h2:v1=v2
 rotate_left
 ·have HE:=hid (opEq_no (fun e:(⟨k1,v1,t1,s1,p1,c1,d1⟩:Op0)=⟨k1,v2,t2,s2,p2,c2,d2⟩=>h2 (by injection e)))
  have g2:((v1:Int) == (v2:Int))=false:=bneI (by omega);clear h2
  go_enter Tryz.func99,Tryz.ntmps99
  go_wp2_with fail;go_ret;exact ⟨by rw [HE.out];rfl,HB2.out⟩
 subst h2;have g2:=beqI (rfl:(v1:Int)=v1)
 by_cases h3:t1=t2
 rotate_left
 ·have HE:=hid (opEq_no (fun e:(⟨k1,v1,t1,s1,p1,c1,d1⟩:Op0)=⟨k1,v1,t2,s2,p2,c2,d2⟩=>h3 (by injection e)))
  have g3:((t1:Int) == (t2:Int))=false:=bneI (by omega);clear h3
  go_enter Tryz.func99,Tryz.ntmps99
  go_wp2_with fail;go_ret;exact ⟨by rw [HE.out];rfl,HB2.out⟩
 subst h3;have g3:=beqI (rfl:(t1:Int)=t1)
 by_cases h4:s1=s2
 rotate_left
 ·have HE:=hid (opEq_no (fun e:(⟨k1,v1,t1,s1,p1,c1,d1⟩:Op0)=⟨k1,v1,t1,s2,p2,c2,d2⟩=>h4 (by injection e)))
  have g4:=bneI h4;clear h4
  go_enter Tryz.func99,Tryz.ntmps99
  go_wp2_with fail;go_ret;exact ⟨by rw [HE.out];rfl,HB2.out⟩
 subst h4;have g4:=beqI (rfl:s1=s1)
 by_cases h5:p1=p2
 rotate_left
 ·have HE:=hid (opEq_no (fun e:(⟨k1,v1,t1,s1,p1,c1,d1⟩:Op0)=⟨k1,v1,t1,s1,p2,c2,d2⟩=>h5 (by injection e)))
  have g5:=bneI h5;clear h5
  go_enter Tryz.func99,Tryz.ntmps99
  go_wp2_with fail;go_ret;exact ⟨by rw [HE.out];rfl,HB2.out⟩
 subst h5;have g5:=beqI (rfl:p1=p1)
 by_cases h6:c1=c2
 rotate_left
 ·have HE:=hid (opEq_no (fun e:(⟨k1,v1,t1,s1,p1,c1,d1⟩:Op0)=⟨k1,v1,t1,s1,p1,c2,d2⟩=>h6 (by injection e)))
  have g6:=bneI h6;clear h6
  go_enter Tryz.func99,Tryz.ntmps99
  go_wp2_with fail;go_ret;exact ⟨by rw [HE.out];rfl,HB2.out⟩
 subst h6;have g6:=beqI (rfl:c1=c1);have CE:=equal8 sa sb _ _ d1 d2 _ (HA.out.below HB2.out) (HB.out.below HB2.out);have HE:Hid ((d1 == d2)=opEq ⟨k1,v1,t1,s1,p1,c1,d1⟩ ⟨k1,v1,t1,s1,p1,c1,d2⟩):=hid (by
  by_cases h:d1=d2
  ·subst h;rw [opEq_yes rfl];simp
  ·rw [beq_eq_false_iff_ne.2 h,opEq_no (fun e:(⟨k1,v1,t1,s1,p1,c1,d1⟩:Op0)=⟨k1,v1,t1,s1,p1,c1,d2⟩=>h (by injection e))])
 obtain ⟨aoa,ca,rfl,_⟩:=HA.out;obtain ⟨aob,cb,rfl,_⟩:=HB.out
 go_enter Tryz.func99,Tryz.ntmps99
 go_wp2_with fail;refine CE.mono ?_;rintro e w1 ⟨rfl,hb1⟩;have HB1:=hid (bthen HB2.out hb1);clear hb1;go_wp2_with fail;go_ret;exact ⟨by rw [← HE.out];rfl,HB1.out⟩
theorem ret_bool {a b:Bool} (h:a=b):Ending.returned (.bool a) = .returned (.bool b):=by rw [h]
theorem within_any (c:Int) (o:Op0) (sl:Value) (w:World) (hd:Rd w 1 sl o.data.length (bV o.data)) :
  Calls Tryz.prog 98 #[.int .i32 c,.agg (oC o sl)] w fun e w'=>e = .returned (.bool (wIn c o))∧Below w.heap.size w w':=by
 obtain ⟨k1,v1,t1,s1,p1,c1,d1⟩:=o;have hlen:d1.length≤9223372036854775807:=by obtain ⟨_,_,_,_,hm,_⟩:=hd;unfold maxLen at hm;exact hm
 obtain ⟨ao,cap,rfl,_⟩:=hd;have HB2:Hid (Below w.heap.size w (w.alloc (.cells #[.int .i64 k1,.int .u64 (v1:Int),.int .u64 (t1:Int),.int .i64 s1,.int .i64 p1,.int .i64 c1,.slice ao d1.length cap] 40))):=hid (balloc (Below.refl _ _) _);unfold oC wIn;dsimp only
 by_cases h1:c=118
 ·subst h1
  rw [if_pos rfl]
  go_enter Tryz.func98,Tryz.ntmps98
  go_wp2_with fail
  all_goals
   go_ret;refine ⟨ret_bool ?_,HB2.out⟩;rw [Bool.eq_iff_iff];try simp only [Bool.and_eq_true,decide_eq_true_eq,bne_iff_ne,beq_iff_eq,ne_eq,Bool.false_eq_true]
   try (constructor <;> intro h <;> first | exact h.elim | omega)
 rw [if_neg h1];have g1:=bneI h1
 by_cases h2:c=116
 ·subst h2
  rw [if_pos rfl];clear h1 g1
  by_cases k0:1≤t1
  ·by_cases k1':t1<4294967296
   ·by_cases k2':t1=v1
    ·have gq:((t1:Int) != (v1:Int))=false:=by rw [k2'];simp
     have HQ:Hid ((t1 != v1)=false):=hid (by rw [k2'];simp);have i0:(1:Int)≤(t1:Int):=by omega
     have i1:(t1:Int)<4294967296:=by omega
     rw [HQ.out,Bool.and_false];clear k2' k0 k1'
     go_enter Tryz.func98,Tryz.ntmps98
     go_wp2_with fail;go_ret;exact ⟨rfl,HB2.out⟩
    ·have gq:((t1:Int) != (v1:Int))=true:=by rw [bne_iff_ne];omega
     have HQ:Hid ((t1 != v1)=true):=hid (by rw [bne_iff_ne];exact k2');have i0:(1:Int)≤(t1:Int):=by omega
     have i1:(t1:Int)<4294967296:=by omega
     rw [HQ.out,Bool.and_true,decide_eq_true k0,decide_eq_true k1'];clear k2' k0 k1'
     go_enter Tryz.func98,Tryz.ntmps98
     go_wp2_with fail;go_ret;exact ⟨rfl,HB2.out⟩
   ·rw [decide_eq_false k1',Bool.and_false,Bool.false_and]
    have i0:(1:Int)≤(t1:Int):=by omega
    have i1 : ¬ ((t1:Int)<4294967296):=by omega
    have i2:decide ((t1:Int)<4294967296)=false:=decide_eq_false i1;clear k0 k1'
    go_enter Tryz.func98,Tryz.ntmps98
    go_wp2_with fail;go_ret;exact ⟨rfl,HB2.out⟩
  ·rw [decide_eq_false k0,Bool.false_and,Bool.false_and]
   have i0 : ¬ ((1:Int)≤(t1:Int)):=by omega
   clear k0
   go_enter Tryz.func98,Tryz.ntmps98
   go_wp2_with fail;go_ret;exact ⟨rfl,HB2.out⟩
 rw [if_neg h2];have g2:=bneI h2
 by_cases h3:c=115
 ·subst h3
  rw [if_pos rfl];clear h1 g1 h2 g2
  go_enter Tryz.func98,Tryz.ntmps98
  go_wp2_with fail
  all_goals
   go_ret;refine ⟨ret_bool ?_,HB2.out⟩;rw [Bool.eq_iff_iff];try simp only [Bool.and_eq_true,decide_eq_true_eq,bne_iff_ne,beq_iff_eq,ne_eq,Bool.false_eq_true]
   try (constructor <;> intro h <;> first | exact h.elim | omega)
 rw [if_neg h3];have g3:=bneI h3
 by_cases h4:c=97
 ·subst h4
  rw [if_pos rfl];clear h1 g1 h2 g2 h3 g3
  go_enter Tryz.func98,Tryz.ntmps98
  go_wp2_with fail
  all_goals
   go_ret;refine ⟨ret_bool ?_,HB2.out⟩;rw [Bool.eq_iff_iff];try simp only [Bool.and_eq_true,decide_eq_true_eq,bne_iff_ne,beq_iff_eq,ne_eq,Bool.false_eq_true]
   try (constructor <;> intro h <;> first | exact h.elim | omega)
 rw [if_neg h4];have g4:=bneI h4
 by_cases h5:c=99
 ·subst h5
  rw [if_pos rfl];clear h1 g1 h2 g2 h3 g3 h4 g4
  go_enter Tryz.func98,Tryz.ntmps98
  go_wp2_with fail
  all_goals
   go_ret;refine ⟨ret_bool ?_,HB2.out⟩;rw [Bool.eq_iff_iff];try simp only [Bool.and_eq_true,decide_eq_true_eq,bne_iff_ne,beq_iff_eq,ne_eq,Bool.false_eq_true]
   try (constructor <;> intro h <;> first | exact h.elim | omega)
 rw [if_neg h5];have g5:=bneI h5;clear h1 h2 h3 h4 h5
 generalize d1.length=n at *
 go_enter Tryz.func98,Tryz.ntmps98
 go_wp2_with fail
 all_goals
  go_ret;refine ⟨ret_bool ?_,HB2.out⟩;rw [Bool.eq_iff_iff];try simp only [Bool.and_eq_true,decide_eq_true_eq,bne_iff_ne,beq_iff_eq,ne_eq,Bool.false_eq_true]
  try (constructor <;> intro h <;> first | exact h.elim | omega)
end Go.Proofs.YthkmihedkddnmaaGreat
namespace Go.Proofs.YthkmihedkddnmaaGreat
open Lib (hid)
open Go.RowKit
open Wire Cmd
end Go.Proofs.YthkmihedkddnmaaGreat
namespace Go.Proofs.YthkmihedkddnmaaGreat
open Lib (hid)
open Go.RowKit
open Wire Cmd
theorem setC_heap {w:World} {b i:Nat} {cs:Array Value} {t:TypeId} {v:Value} (h:w.heap[b]? = some (.cells cs t (0,0))):(w.setCell ⟨b,i,none⟩ v).heap[b]? = some (.cells (cs.setIfInBounds i v) t (0,0)):=by
 simp [World.setCell,Array.getElem?_modify,h]
theorem cellIs {w:World} {b i:Nat} {cs:Array Value} {t:TypeId} {fr:Nat × Nat} {v:Value} (h:w.heap[b]? = some (.cells cs t fr)) (hv:cs[i]? = some v):w.cell? ⟨b,i,none⟩=some v:=by rw [cell_of_row w b i cs t fr h];exact hv
theorem chs_str (l:List UInt8):chs (strB l)=l:=by simp [chs,strB]
theorem str_size (l:List UInt8):(strB l).size=l.length:=by rw [← chs_len,chs_str]
structure MayM (B K:Nat) (w:World) (o:Op0) (sl:Value) (pos q:Nat) (W:World):Prop where
 it:W.heap[K]? = some (.stringIter (strB (nm o.k)) pos)
 bx:W.heap[B]? = some (.cells (oC o sl) 40 (0,0))
 br:∃ sb,W.heap[B+1]? = some (.cells (oC (bare o ((nm o.k).take q)) sb) 40 (0,0))∧Rd w 1 sb (bare o ((nm o.k).take q)).data.length (bV (bare o ((nm o.k).take q)).data)
 below:Below B w W
 kb:B+1<K
theorem MayM.mono {B K:Nat} {w:World} {o:Op0} {sl:Value} {pos q:Nat} {W W':World} (h:MayM B K w o sl pos q W) (hb:Below W.heap.size W W'):MayM B K w o sl pos q W':=by
 obtain ⟨h1,h2,⟨sb,h3,h4⟩,h5,h6⟩:=h;have hk:=(hLT h1)
 exact ⟨(hb.block _ hk).trans h1,(hb.block _ (by omega)).trans h2,⟨sb,(hb.block _ (by omega)).trans h3,h4⟩,h5.trans (hb.mono (by omega)),h6⟩
theorem MayM.next {B K:Nat} {w:World} {o:Op0} {sl:Value} {pos q p':Nat} {W:World} (h:MayM B K w o sl pos q W):MayM B K w o sl p' q (W.iterAt K (strB (nm o.k)) p'):=by
 obtain ⟨h1,h2,⟨sb,h3,h4⟩,h5,h6⟩:=h;exact ⟨Lib.iterAt_heap W K _ pos p' h1,(Lib.iterAt_other _ _ _ _ _ (by omega)).trans h2,⟨sb,(Lib.iterAt_other _ _ _ _ _ (by omega)).trans h3,h4⟩,Lib.below_iterAt h5 (by omega) _ _,h6⟩
theorem MayM.store {B K:Nat} {w:World} {o:Op0} {sl:Value} {pos q:Nat} {W:World} (h:MayM B K w o sl pos q W) {c:UInt8} (hc:(nm o.k)[q]? = some c) (i:Nat) (v:Value)
  (hs:∀ b sb,∃ sb',(oC b sb).setIfInBounds i v=oC (setL b (c.toNat:Int) o) sb'∧(Rd w 1 sb b.data.length (bV b.data)→Rd w 1 sb' (setL b (c.toNat:Int) o).data.length (bV (setL b (c.toNat:Int) o).data))) :
  MayM B K w o sl pos (q+1) (W.setCell ⟨B+1,i,none⟩ v):=by
 obtain ⟨h1,h2,⟨sb,h3,h4⟩,h5,h6⟩:=h;obtain ⟨sb',e,hr⟩:=hs (bare o ((nm o.k).take q)) sb;have hb:bare o ((nm o.k).take (q+1))=setL (bare o ((nm o.k).take q)) (c.toNat:Int) o:=by
  rw [List.take_add_one,hc];exact bare_snoc _ _ _
 refine ⟨(Below.heap_setCell W ⟨B+1,i,none⟩ v K (by simp;omega)).trans h1,(Below.heap_setCell W ⟨B+1,i,none⟩ v B (by simp)).trans h2,⟨sb',?_,?_⟩,h5.setCell (p:=⟨B+1,i,none⟩) (by simp) v,h6⟩
 ·rw [setC_heap h3,hb,e]
 ·rw [hb];exact hr h4
theorem mayO_any (o:Op0) (ok:o.Ok) (sl:Value) (w:World) (hd:Rd w 1 sl o.data.length (bV o.data)) :
  Calls Tryz.prog 70 #[.agg (oC o sl)] w fun e w'=>e = .returned (.bool (mayO o))∧Below w.heap.size w w':=by
 have HD:=hid hd;have HOK:=hid ok;have hk1:=ok.k.1;have hk2:=ok.k.2;obtain ⟨B,hB⟩:∃ B,w.heap.size=B:=⟨_,rfl⟩
 clear ok;obtain ⟨ao,cap,rfl,_⟩:=hd;have hoC:oC o (.slice ao o.data.length cap)=#[.int .i64 o.k,.int .u64 (o.vol:Int),.int .u64 (o.to:Int),.int .i64 o.size,.int .i64 o.pl,.int .i64 o.count,(.slice ao o.data.length cap)]:=rfl;have HOC:=hid hoC;rw [hoC];clear hoC
 go_enter Tryz.func70,Tryz.ntmps70
 go_wp2_with fail;have HBS:Hid (Below w.heap.size w ((w.alloc (.cells #[.int .i64 o.k,.int .u64 (o.vol:Int),.int .u64 (o.to:Int),.int .i64 o.size,.int .i64 o.pl,.int .i64 o.count,(.slice ao o.data.length cap)] 40)).alloc (.cells #[.int .i64 o.k,.int .u64 0,.int .u64 0,.int .i64 0,.int .i64 0,.int .i64 0,.slice none 0 0] 40))):=hid (balloc (balloc (Below.refl _ _) _) _)
 have HB0:Hid (((w.alloc (.cells #[.int .i64 o.k,.int .u64 (o.vol:Int),.int .u64 (o.to:Int),.int .i64 o.size,.int .i64 o.pl,.int .i64 o.count,(.slice ao o.data.length cap)] 40)).alloc (.cells #[.int .i64 o.k,.int .u64 0,.int .u64 0,.int .i64 0,.int .i64 0,.int .i64 0,.slice none 0 0] 40)).heap[B]? = some (.cells (oC o (.slice ao o.data.length cap)) 40 (0,0)) ∧
   ((w.alloc (.cells #[.int .i64 o.k,.int .u64 (o.vol:Int),.int .u64 (o.to:Int),.int .i64 o.size,.int .i64 o.pl,.int .i64 o.count,(.slice ao o.data.length cap)] 40)).alloc (.cells #[.int .i64 o.k,.int .u64 0,.int .u64 0,.int .i64 0,.int .i64 0,.int .i64 0,.slice none 0 0] 40)).heap[B+1]? = some (.cells (oC (bare0 o) (.slice none 0 0)) 40 (0,0))):=hid (by
  subst hB;refine ⟨?_,?_⟩
  ·rw [Below.heap_alloc _ _ _ (by simp)];exact heap_alloc_new w _
  ·have:=heap_alloc_new (w.alloc (.cells #[.int .i64 o.k,.int .u64 (o.vol:Int),.int .u64 (o.to:Int),.int .i64 o.size,.int .i64 o.pl,.int .i64 o.count,(.slice ao o.data.length cap)] 40)) (.cells #[.int .i64 o.k,.int .u64 0,.int .u64 0,.int .i64 0,.int .i64 0,.int .i64 0,.slice none 0 0] 40)
   rw [World.size_alloc] at this;exact this)
 refine (names_any _ _).mono ?_;rintro e w1 ⟨rfl,hb1⟩;obtain ⟨K,hK⟩:∃ K,w1.heap.size=K:=⟨_,rfl⟩
 have HI:Hid (MayM B K w o (.slice ao o.data.length cap) 0 0 (w1.iter (strB (nm o.k)) 0)):=hid (by
  have hs1:=hb1.size;rw [World.size_alloc,World.size_alloc,hB] at hs1;have hbi:Below w1.heap.size w1 (w1.iter (strB (nm o.k)) 0):=balloc (Below.refl _ _) _;refine ⟨hK ▸ World.iter_heap w1 _ 0,?_,⟨.slice none 0 0,?_,?_⟩,?_,by omega⟩
  ·exact (hbi.block B (by omega)).trans ((hb1.block B (by rw [World.size_alloc,World.size_alloc,hB];omega)).trans HB0.out.1)
  ·exact (hbi.block (B+1) (by omega)).trans ((hb1.block (B+1) (by rw [World.size_alloc,World.size_alloc,hB];omega)).trans HB0.out.2)
  ·exact Rd.of_own (World.ownsRow_nil w 0 5 1)
  ·have:=bthen (bthen HBS.out hb1) hbi
   rwa [hB] at this)
 clear hb1;go_wp2_with fail
 generalize w1.iter (strB (nm o.k)) 0=w2 at HI ⊢
 have HB:=hid hB;clear hB hK;have hsz3:(strB (nm o.k)).size≤3:=by rw [str_size];exact nm_len _
 have HL:=hid (nm_low o.k);have HCS:=hid (chs_str (nm o.k));have HSS:=hid (str_size (nm o.k))
 generalize hs:strB (nm o.k)=s at *
 have HS:=hid hs;clear hs
 go_loopg [] s.size (fun g wr=>∃ pos:Nat,pos≤s.size∧g=s.size - pos∧MayM B K w o (.slice ao o.data.length cap) pos pos wr∧((nm o.k).take pos).all (fun c=>wIn (c.toNat:Int) o)=true)
 case atStart=>exact ⟨0,by omega,by omega,HI.out,rfl⟩
 case round =>
  obtain ⟨pos,hp,hg,hm,hall⟩:=hrel;have HG:=hid hg;have HM:=hid hm;have HALL:=hid hall;have hit:wr.heap[K]? = some (.stringIter s pos):=by rw [← HS.out];exact hm.it
  clear hg hm hall
  by_cases hlt:pos<s.size
  ·obtain ⟨c,hc⟩:∃ c,(s[pos]'hlt)=c:=⟨_,rfl⟩
   have hget:(nm o.k)[pos]? = some c:=by
    have h1:=chs_get hlt;rw [HCS.out,hc] at h1;exact h1
   have hlow:c.toNat<128:=HL.out c (List.mem_of_getElem? hget);have hdec:Utf8.decode s pos=(c.toNat,1):=by rw [← hc];exact decode_ascii s pos hlt (by rw [hc];exact hlow)
   have hnx:=fun ty=>Lib.run_next_any_at (P:=Tryz.prog) wr K s pos ty hit hlt;simp only [hdec] at hnx;have HM2:Hid (MayM B K w o (.slice ao o.data.length cap) (pos+1) pos (wr.iterAt K s (pos+1))):=hid (by rw [← HS.out];exact HM.out.next);obtain ⟨wr2,hwr2⟩:∃ W,wr.iterAt K s (pos+1)=W:=⟨_,rfl⟩
   rw [hwr2] at hnx HM2;have hbx2:=HM2.out.bx;have c0:wr2.cell? ⟨B,0,none⟩=some (.int .i64 o.k):=cellIs hbx2 rfl;have c1:wr2.cell? ⟨B,1,none⟩=some (.int .u64 (o.vol:Int)):=cellIs hbx2 rfl;have c2:wr2.cell? ⟨B,2,none⟩=some (.int .u64 (o.to:Int)):=cellIs hbx2 rfl;have c3:wr2.cell? ⟨B,3,none⟩=some (.int .i64 o.size):=cellIs hbx2 rfl;have c4:wr2.cell? ⟨B,4,none⟩=some (.int .i64 o.pl):=cellIs hbx2 rfl;have c5:wr2.cell? ⟨B,5,none⟩=some (.int .i64 o.count):=cellIs hbx2 rfl
   have c6:wr2.cell? ⟨B,6,none⟩=some (.slice ao o.data.length cap):=cellIs hbx2 rfl;have CW:=within_any (c.toNat:Int) o (.slice ao o.data.length cap) wr2 (HD.out.below (by have:=HM2.out.below;rw [HB.out];exact this));rw [HOC.out] at CW;obtain ⟨bw,hbw⟩:∃ b,wIn (c.toNat:Int) o=b:=⟨_,rfl⟩
   rw [hbw] at CW;have HBW:=hid hbw;have HGET:=hid hget;clear hwr2 hbx2 hit hdec hc hbw;go_wp2_with fail;refine CW.mono ?_;rintro e w3 ⟨rfl,hb3⟩;have HM3:=hid (HM2.out.mono hb3);clear hb3 hnx c0 c1 c2 c3 c4 c5 c6 CW
   cases bw with
   | false =>
    have HE:Hid (mayO o=false):=hid (by
     unfold mayO;have:(nm o.k).all (fun c=>wIn (c.toNat:Int) o)=false:=by
      rw [Bool.eq_false_iff];intro h;have:=List.all_eq_true.1 h c (List.mem_of_getElem? HGET.out);rw [HBW.out] at this;cases this
     rw [this];rfl)
    clear hget;go_wp2_with fail;go_ret;exact ⟨by rw [HE.out];rfl,by rw [HB.out];exact HM3.out.below⟩
   | true =>
    have HA2:Hid (((nm o.k).take (pos+1)).all (fun c=>wIn (c.toNat:Int) o)=true):=hid (by
     rw [List.take_add_one,HGET.out];simp only [Option.toList_some,List.all_append,HALL.out,Bool.true_and,List.all_cons,List.all_nil,Bool.and_true];exact HBW.out)
    have hbx3:=HM3.out.bx;obtain ⟨sb,hbr3,_⟩:=HM3.out.br;have c1:w3.cell? ⟨B,1,none⟩=some (.int .u64 (o.vol:Int)):=cellIs hbx3 rfl;have c2:w3.cell? ⟨B,2,none⟩=some (.int .u64 (o.to:Int)):=cellIs hbx3 rfl;have c3:w3.cell? ⟨B,3,none⟩=some (.int .i64 o.size):=cellIs hbx3 rfl;have c4:w3.cell? ⟨B,4,none⟩=some (.int .i64 o.pl):=cellIs hbx3 rfl;have c5:w3.cell? ⟨B,5,none⟩=some (.int .i64 o.count):=cellIs hbx3 rfl;have c6:w3.cell? ⟨B,6,none⟩=some (.slice ao o.data.length cap):=cellIs hbx3 rfl;clear hbx3;have goal0:True:=trivial
    by_cases h118:(c.toNat:Int)=118
    ·have g118:((c.toNat:Int) == 118)=true:=beqI h118
     have HST:Hid (MayM B K w o (.slice ao o.data.length cap) (pos+1) (pos+1) (w3.setCell ⟨B+1,1,none⟩ (.int .u64 (o.vol:Int)))):=hid (HM3.out.store hget 1 _ (fun b sb=>⟨sb,by unfold setL;simp [h118,oC],fun h=>by have e:(setL b (c.toNat:Int) o).data=b.data:=(by unfold setL;simp [h118]);rw [e];exact h⟩));have hcl:∃ u,w3.cell? ⟨B+1,1,none⟩=some u:=⟨_,cellIs hbr3 rfl⟩
     have hfz:w3.frozen? ⟨B+1,1,none⟩=false:=frozenOf hbr3 1;obtain ⟨u,hcl⟩:=hcl;clear hbr3 hget;go_wp2_with fail
     go_roundg (s.size - (pos+1))
     case rel=>exact ⟨pos+1,by omega,rfl,HST.out,HA2.out⟩
     case measure=>have:=HG.out;omega
    by_cases h116:(c.toNat:Int)=116
    ·have g116:((c.toNat:Int) == 116)=true:=beqI h116
     have g118:((c.toNat:Int) == 118)=false:=bneI h118;have HST:Hid (MayM B K w o (.slice ao o.data.length cap) (pos+1) (pos+1) (w3.setCell ⟨B+1,2,none⟩ (.int .u64 (o.to:Int)))):=hid (HM3.out.store hget 2 _ (fun b sb=>⟨sb,by unfold setL;simp [h116,oC],fun h=>by have e:(setL b (c.toNat:Int) o).data=b.data:=(by unfold setL;simp [h116]);rw [e];exact h⟩));have hcl:∃ u,w3.cell? ⟨B+1,2,none⟩=some u:=⟨_,cellIs hbr3 rfl⟩
     have hfz:w3.frozen? ⟨B+1,2,none⟩=false:=frozenOf hbr3 2;obtain ⟨u,hcl⟩:=hcl;clear hbr3 hget;go_wp2_with fail
     go_roundg (s.size - (pos+1))
     case rel=>exact ⟨pos+1,by omega,rfl,HST.out,HA2.out⟩
     case measure=>have:=HG.out;omega
    by_cases h115:(c.toNat:Int)=115
    ·have g115:((c.toNat:Int) == 115)=true:=beqI h115
     have g118:((c.toNat:Int) == 118)=false:=bneI h118;have g116:((c.toNat:Int) == 116)=false:=bneI h116;have HST:Hid (MayM B K w o (.slice ao o.data.length cap) (pos+1) (pos+1) (w3.setCell ⟨B+1,3,none⟩ (.int .i64 o.size))):=hid (HM3.out.store hget 3 _ (fun b sb=>⟨sb,by unfold setL;simp [h115,oC],fun h=>by have e:(setL b (c.toNat:Int) o).data=b.data:=(by unfold setL;simp [h115]);rw [e];exact h⟩));have hcl:∃ u,w3.cell? ⟨B+1,3,none⟩=some u:=⟨_,cellIs hbr3 rfl⟩
     have hfz:w3.frozen? ⟨B+1,3,none⟩=false:=frozenOf hbr3 3;obtain ⟨u,hcl⟩:=hcl;clear hbr3 hget;go_wp2_with fail
     go_roundg (s.size - (pos+1))
     case rel=>exact ⟨pos+1,by omega,rfl,HST.out,HA2.out⟩
     case measure=>have:=HG.out;omega
    by_cases h97:(c.toNat:Int)=97
    ·have g97:((c.toNat:Int) == 97)=true:=beqI h97
     have g118:((c.toNat:Int) == 118)=false:=bneI h118;have g116:((c.toNat:Int) == 116)=false:=bneI h116;have g115:((c.toNat:Int) == 115)=false:=bneI h115;have HST:Hid (MayM B K w o (.slice ao o.data.length cap) (pos+1) (pos+1) (w3.setCell ⟨B+1,4,none⟩ (.int .i64 o.pl))):=hid (HM3.out.store hget 4 _ (fun b sb=>⟨sb,by unfold setL;simp [h97,oC],fun h=>by have e:(setL b (c.toNat:Int) o).data=b.data:=(by unfold setL;simp [h97]);rw [e];exact h⟩));have hcl:∃ u,w3.cell? ⟨B+1,4,none⟩=some u:=⟨_,cellIs hbr3 rfl⟩
     have hfz:w3.frozen? ⟨B+1,4,none⟩=false:=frozenOf hbr3 4;obtain ⟨u,hcl⟩:=hcl;clear hbr3 hget;go_wp2_with fail
     go_roundg (s.size - (pos+1))
     case rel=>exact ⟨pos+1,by omega,rfl,HST.out,HA2.out⟩
     case measure=>have:=HG.out;omega
    by_cases h99:(c.toNat:Int)=99
    ·have g99:((c.toNat:Int) == 99)=true:=beqI h99
     have g118:((c.toNat:Int) == 118)=false:=bneI h118;have g116:((c.toNat:Int) == 116)=false:=bneI h116;have g115:((c.toNat:Int) == 115)=false:=bneI h115;have g97:((c.toNat:Int) == 97)=false:=bneI h97;have HST:Hid (MayM B K w o (.slice ao o.data.length cap) (pos+1) (pos+1) (w3.setCell ⟨B+1,5,none⟩ (.int .i64 o.count))):=hid (HM3.out.store hget 5 _ (fun b sb=>⟨sb,by unfold setL;simp [h99,oC],fun h=>by have e:(setL b (c.toNat:Int) o).data=b.data:=(by unfold setL;simp [h99]);rw [e];exact h⟩))
     have hcl:∃ u,w3.cell? ⟨B+1,5,none⟩=some u:=⟨_,cellIs hbr3 rfl⟩
     have hfz:w3.frozen? ⟨B+1,5,none⟩=false:=frozenOf hbr3 5;obtain ⟨u,hcl⟩:=hcl;clear hbr3 hget;go_wp2_with fail
     go_roundg (s.size - (pos+1))
     case rel=>exact ⟨pos+1,by omega,rfl,HST.out,HA2.out⟩
     case measure=>have:=HG.out;omega
    have g118:((c.toNat:Int) == 118)=false:=bneI h118;have g116:((c.toNat:Int) == 116)=false:=bneI h116;have g115:((c.toNat:Int) == 115)=false:=bneI h115;have g97:((c.toNat:Int) == 97)=false:=bneI h97;have g99:((c.toNat:Int) == 99)=false:=bneI h99
    have HST:Hid (MayM B K w o (.slice ao o.data.length cap) (pos+1) (pos+1) (w3.setCell ⟨B+1,6,none⟩ (.slice ao o.data.length cap))):=hid (HM3.out.store hget 6 _ (fun b sb=>⟨(.slice ao o.data.length cap),by unfold setL;simp [h118,h116,h115,h97,h99,oC],fun h=>by have e:(setL b (c.toNat:Int) o).data=o.data:=(by unfold setL;simp [h118,h116,h115,h97,h99]);rw [e];exact HD.out⟩));have hcl:∃ u,w3.cell? ⟨B+1,6,none⟩=some u:=⟨_,cellIs hbr3 rfl⟩
    have hfz:w3.frozen? ⟨B+1,6,none⟩=false:=frozenOf hbr3 6;obtain ⟨u,hcl⟩:=hcl;clear hbr3 hget;go_wp2_with fail
    go_roundg (s.size - (pos+1))
    case rel=>exact ⟨pos+1,by omega,rfl,HST.out,HA2.out⟩
    case measure=>have:=HG.out;omega
  ·obtain rfl:pos=s.size:=by omega
   have hnx:=fun ty=>Lib.run_next_end_at (P:=Tryz.prog) wr K s s.size ty hit (by omega);have htk:(nm o.k).take s.size=nm o.k:=List.take_of_length_le (by rw [HSS.out];exact Nat.le_refl _);have HAL2:Hid ((nm o.k).all (fun c=>wIn (c.toNat:Int) o)=true):=hid (by have:=HALL.out;rw [htk] at this;exact this);obtain ⟨sb,hbr,hrb⟩:=HM.out.br;rw [htk] at hbr hrb;have hbx:=HM.out.bx;have hbd:∀ u,Rd w 1 u (o.data).length (bV o.data)→Rd wr 1 u o.data.length (bV o.data):=fun u h=>h.below (by rw [HB.out];exact HM.out.below)
   have hbd2:Rd wr 1 sb (bare o (nm o.k)).data.length (bV (bare o (nm o.k)).data):=hrb.below (by rw [HB.out];exact HM.out.below);have CS:=same_any o (bare o (nm o.k)) (.slice ao o.data.length cap) sb wr (hbd _ HD.out) hbd2;obtain ⟨aob,capb,rfl,_⟩:=hrb;have c0:wr.cell? ⟨B,0,none⟩=some (.int .i64 o.k):=cellIs hbx rfl;have c1:wr.cell? ⟨B,1,none⟩=some (.int .u64 (o.vol:Int)):=cellIs hbx rfl;have c2:wr.cell? ⟨B,2,none⟩=some (.int .u64 (o.to:Int)):=cellIs hbx rfl;have c3:wr.cell? ⟨B,3,none⟩=some (.int .i64 o.size):=cellIs hbx rfl
   have c4:wr.cell? ⟨B,4,none⟩=some (.int .i64 o.pl):=cellIs hbx rfl;have c5:wr.cell? ⟨B,5,none⟩=some (.int .i64 o.count):=cellIs hbx rfl;have c6:wr.cell? ⟨B,6,none⟩=some (.slice ao o.data.length cap):=cellIs hbx rfl;have hoB:oC (bare o (nm o.k)) (.slice aob (bare o (nm o.k)).data.length capb)=#[.int .i64 (bare o (nm o.k)).k,.int .u64 ((bare o (nm o.k)).vol:Int),.int .u64 ((bare o (nm o.k)).to:Int),.int .i64 (bare o (nm o.k)).size,.int .i64 (bare o (nm o.k)).pl,.int .i64 (bare o (nm o.k)).count,.slice aob (bare o (nm o.k)).data.length capb]:=rfl
   rw [hoB] at CS hbr;rw [HOC.out] at CS;have HEQ:Hid (∀ x,opEq o (bare o (nm o.k))=x→mayO o=((decide (1≤o.k) && decide (o.k≤9)) && x)):=hid (fun x h=>by unfold mayO;rw [HAL2.out,h];rfl)
   generalize opEq o (bare o (nm o.k))=q at *
   generalize bare o (nm o.k)=ob at *
   have d0:wr.cell? ⟨B+1,0,none⟩=some (.int .i64 ob.k):=cellIs hbr rfl;have d1:wr.cell? ⟨B+1,1,none⟩=some (.int .u64 (ob.vol:Int)):=cellIs hbr rfl;have d2:wr.cell? ⟨B+1,2,none⟩=some (.int .u64 (ob.to:Int)):=cellIs hbr rfl;have d3:wr.cell? ⟨B+1,3,none⟩=some (.int .i64 ob.size):=cellIs hbr rfl;have d4:wr.cell? ⟨B+1,4,none⟩=some (.int .i64 ob.pl):=cellIs hbr rfl;have d5:wr.cell? ⟨B+1,5,none⟩=some (.int .i64 ob.count):=cellIs hbr rfl;have d6:wr.cell? ⟨B+1,6,none⟩=some (.slice aob ob.data.length capb):=cellIs hbr rfl
   have HEQ2:=hid (HEQ.out q rfl);clear hbr hbx hit htk hbd hbd2 hoB
   by_cases k1:1≤o.k
   ·by_cases k9:o.k≤9
    ·have HE:Hid (mayO o=q):=hid (by rw [HEQ2.out,decide_eq_true k1,decide_eq_true k9];rfl)
     go_wp2_with fail;refine CS.mono ?_;rintro e w3 ⟨rfl,hb3⟩;have HB3:=hid (HM.out.below.trans (hb3.mono (by have:=HM.out.below.size;rw [HB.out] at this;exact this)));clear hb3;go_wp2_with fail;go_ret;exact ⟨by rw [HE.out];rfl,by rw [HB.out];exact HB3.out⟩
    ·have HE:Hid (mayO o=false):=hid (by rw [HEQ2.out,decide_eq_false k9,Bool.and_false];rfl)
     have k9':9<o.k:=by omega
     clear k9;go_wp2_with fail;go_ret;exact ⟨by rw [HE.out];rfl,by rw [HB.out];exact HM.out.below⟩
   ·have HE:Hid (mayO o=false):=hid (by rw [HEQ2.out,decide_eq_false k1];rfl)
    have k1':o.k<1:=by omega
    clear k1;go_wp2_with fail;go_ret;exact ⟨by rw [HE.out];rfl,by rw [HB.out];exact HM.out.below⟩
end Go.Proofs.YthkmihedkddnmaaGreat
namespace Go.Proofs.YthkmihedkddnmaaGreat
open Lib (hid)
open Go.RowKit
open Wire Cmd
theorem results_cell_mid {P:Program} {fn:Func} {p:Tmp} {ty:TypeId} (h:fn.results=#[.cell p ty]) (tmps:Array Value) (w:World) (g o:Nat) (cs:List Value) (d:TypeDesc)
  (hp:tmps.getD p undef = .pointer (some ⟨g,o,none⟩)) (hr:w.rangeAt g o cs) (hu:P.underlying ty=some d) (hd:d.isRow=true) (hi:(P.info? ty).map (·.size)=some cs.length) :
  (results fn tmps).run P w = .ok (.agg cs.toArray) w:=by
 have hp':tmps[p]?.getD undef = .pointer (some ⟨g,o,none⟩):=by simpa using hp
 simp [results,h,hp',asAddr,run_loadVar_mid w g o ty cs d hr hu hd hi]
end Go.Proofs.YthkmihedkddnmaaGreat
namespace Go.Proofs.YthkmihedkddnmaaGreat
open Go.RowKit
open Wire Cmd
end Go.Proofs.YthkmihedkddnmaaGreat
