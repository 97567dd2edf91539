import Derived.Test.YthkmihedkddnmaaGreatTG2
import Derived.Test.YthkmihedkddnmaaGreatTG8
import Derived.Test.YthkmihedkddnmaaGreatTG7
import Derived.Test.YthkmihedkddnmaaGreatTG6
import Derived.Maps.OwnSet
import Derived.Test.YthkmihedkddnmaaGreatTG1
set_option linter.unusedVariables false
set_option linter.unusedSimpArgs false
set_option maxHeartbeats 1000000
set_option maxRecDepth 100000
namespace Go.Proofs.YthkmihedkddnmaaGreat
open Lib (hid)
open Go.RowKit
theorem span12_any (blk f t:Int) (w:World):Calls Tryz.prog 80 #[.agg #[.int .i64 blk,.int .i64 f,.int .i64 t]] w fun e w'=>e = .returned (.bool (decide (0≤f) && decide (t≤4) && decide (f<t)))∧Below w.heap.size w w':=by
 by_cases h1:0≤f
 ·by_cases h2:t≤4
  ·by_cases h3:f<t
   all_goals
    go_enter Tryz.func80,Tryz.ntmps80
    go_wp2;go_ret;exact ⟨by simp [h1,h2,h3],balloc (Below.refl _ w) _⟩
  ·go_enter Tryz.func80,Tryz.ntmps80
   go_wp2;go_ret;exact ⟨by simp;omega,balloc (Below.refl _ w) _⟩
 ·go_enter Tryz.func80,Tryz.ntmps80
  go_wp2;go_ret;exact ⟨by simp;omega,balloc (Below.refl _ w) _⟩
theorem dataP_step_in (bs:List UInt8) (blk at_ f k:Int) (h0:0≤blk * 4+k - at_) (h1:blk * 4+k - at_<(bs.length:Int) / 64) (hfk:f≤k) :
  dataP bs blk at_ f (k+1)=dataP bs blk at_ f k ++ (bs.drop ((blk * 4+k - at_) * 64).toNat).take 64:=by
 obtain ⟨n,hn⟩:∃ n:Nat,(n:Int)=blk * 4+k - at_:=⟨(blk * 4+k - at_).toNat,by omega⟩
 have e1:pClamp blk at_ ((bs.length:Int) / 64) k=n:=by unfold pClamp;omega
 have e2:pClamp blk at_ ((bs.length:Int) / 64) (k+1)=n+1:=by unfold pClamp;omega
 have p1:=pClamp_mono blk at_ ((bs.length:Int) / 64) hfk;have p2:=pClamp_le blk at_ ((bs.length:Int) / 64) f (by omega);unfold dataP;rw [e1] at p1;rw [e1,e2,← hn]
 generalize pClamp blk at_ ((bs.length:Int) / 64) f=p at *
 obtain ⟨m,rfl⟩:=Int.eq_ofNat_of_zero_le p2.1;have a1:(((n:Int)+1) * 64).toNat - ((m:Int) * 64).toNat=(((n:Int) * 64).toNat - ((m:Int) * 64).toNat)+64:=by omega
 rw [a1,List.take_add,List.drop_drop]
 congr 3
 omega
theorem dataP_step_out (bs:List UInt8) (blk at_ f k:Int) (h : ¬ (0≤blk * 4+k - at_∧blk * 4+k - at_<(bs.length:Int) / 64)):dataP bs blk at_ f (k+1)=dataP bs blk at_ f k:=by
 have e1:pClamp blk at_ ((bs.length:Int) / 64) (k+1)=pClamp blk at_ ((bs.length:Int) / 64) k:=by unfold pClamp;omega
 unfold dataP;rw [e1]
theorem dataP_self (bs:List UInt8) (blk at_ f:Int):dataP bs blk at_ f f=[]:=by unfold dataP;simp
theorem dataP_len (bs:List UInt8) (blk at_ f t:Int):(dataP bs blk at_ f t).length≤bs.length:=by
 unfold dataP;rw [List.length_take,List.length_drop];omega
theorem refData_ok (blk f t at_:Int) (v:Value) (n:Nat) (bs:List UInt8) (w:World) (hok:dOk blk at_ f t=true) (h:Rd w 1 v n (bV bs)) (hn:n≤100000000000) :
  Calls Tryz.prog 53 #[.agg #[.int .i64 blk,.int .i64 f,.int .i64 t],.int .i64 at_,v] w fun e w'=>∃ v',e = .returned v'∧w'.ownsRow w.heap.size 5 1 v' (dataP bs blk at_ f t).length (bV (dataP bs blk at_ f t))∧Below w.heap.size w w':=by
 simp only [dOk,Bool.and_eq_true,decide_eq_true_eq] at hok;obtain ⟨⟨⟨⟨⟨⟨hb1,hb2⟩,ha1⟩,ha2⟩,hf⟩,ht⟩,hft⟩:=hok;have hrd:=h;obtain ⟨ao,cap,rfl,hl,hm,⟨hcn,hnc,hcm⟩,hc⟩:=h;rw [bV_len,Nat.mul_one] at hl;have hs0:(w.alloc (.cells #[.int .i64 blk,.int .i64 f,.int .i64 t] 100)).heap[w.heap.size]? = some (.cells #[.int .i64 blk,.int .i64 f,.int .i64 t] 100 (0,0)):=heap_alloc_new w _;have hsp:(decide (0≤f) && decide (t≤4) && decide (f<t))=true:=by simp [hf,ht,hft]
 go_enter Tryz.func53,Tryz.ntmps53
 go_wp2_with fail;refine (span12_any _ _ _ _).mono ?_;rintro e w1 ⟨rfl,hb1'⟩;rw [hsp];have hs1:w1.heap[w.heap.size]? = some (.cells #[.int .i64 blk,.int .i64 f,.int .i64 t] 100 (0,0)):=(hb1'.block w.heap.size (by simp)).trans hs0;have c0:w1.cell? ⟨w.heap.size,0,none⟩=some (.int .i64 blk):=by rw [cell_of_row w1 _ 0 _ _ _ hs1];rfl
 have c1:w1.cell? ⟨w.heap.size,1,none⟩=some (.int .i64 f):=by rw [cell_of_row w1 _ 1 _ _ _ hs1];rfl
 have c2:w1.cell? ⟨w.heap.size,2,none⟩=some (.int .i64 t):=by rw [cell_of_row w1 _ 2 _ _ _ hs1];rfl
 have hlt1:w.heap.size<w1.heap.size:=(hLT hs1)
 have hB1:=bthen (balloc (Below.refl _ w) (.cells #[.int .i64 blk,.int .i64 f,.int .i64 t] 100)) hb1';have hrd1:=hrd.below hB1;go_wp2_with fail
 go_loopw [7,8,9] (fun v k _ wr=>∃ kk:Int,f≤kk∧kk≤t∧k = .int .i64 kk∧wr.ownsRow w1.heap.size 5 1 v (dataP bs blk at_ f kk).length (bV (dataP bs blk at_ f kk))∧Below w1.heap.size w1 wr)
  (fun _ k _ _=>(t - intOf k).toNat)
 case atStart=>exact ⟨f,by omega,by omega,rfl,by rw [dataP_self];exact World.ownsRow_nil _ _ _ _,Below.refl _ _⟩
 case round =>
  obtain ⟨k,hk1,hk2,rfl,hown,hbel⟩:=hrel;have d0:wr.cell? ⟨w.heap.size,0,none⟩=some (.int .i64 blk):=(hbel.cell (p:=⟨w.heap.size,0,none⟩) hlt1).trans c0;have d1:wr.cell? ⟨w.heap.size,1,none⟩=some (.int .i64 f):=(hbel.cell (p:=⟨w.heap.size,1,none⟩) hlt1).trans c1;have d2:wr.cell? ⟨w.heap.size,2,none⟩=some (.int .i64 t):=(hbel.cell (p:=⟨w.heap.size,2,none⟩) hlt1).trans c2;have hws:=hbel.size;have hdl:=dataP_len bs blk at_ f k
  by_cases hlt:k<t
  ·by_cases hin:0≤4 * blk+k - at_
   ·by_cases hin2:4 * blk+k - at_<(n:Int) / 64
    ·have HS:=hid (dataP_step_in bs blk at_ f k (by omega) (by omega) hk1)
     have hX0:0≤64 * (4 * blk+k - at_):=by omega
     have hXY:64 * (4 * blk+k - at_)≤64 * (4 * blk+k - at_)+64:=by omega
     have hXn:64 * (4 * blk+k - at_)+64≤n:=by omega
     have hXc:64 * (4 * blk+k - at_)+64≤cap:=by omega
     have hcut:=fun W=>run_cut (P:=Tryz.prog) W 33 ao n cap 1 (by kernel_rfl) (fun _=>by kernel_rfl) (64 * (4 * blk+k - at_)) (64 * (4 * blk+k - at_)+64) hX0 hXY hXc;have hrc:=((hrd1.cut (l:=(64 * (4 * blk+k - at_)).toNat) (k:=(64 * (4 * blk+k - at_)+64).toNat) (by omega) (by omega)).below hbel)
     simp only [Nat.mul_one] at hrc;have h64:(64 * (4 * blk+k - at_)+64).toNat - (64 * (4 * blk+k - at_)).toNat=64:=by omega
     have hdat:(List.drop (64 * (4 * blk+k - at_)).toNat (bV bs)).take 64=bV ((bs.drop ((blk * 4+k - at_) * 64).toNat).take 64):=by
      unfold bV;rw [← List.map_drop,← List.map_take,show (64 * (4 * blk+k - at_)).toNat=((blk * 4+k - at_) * 64).toNat from by omega]
     rw [h64,hdat] at hrc;rw [h64] at hcut;clear hdat h64;have h64l:((bs.drop ((blk * 4+k - at_) * 64).toNat).take 64).length=64:=by rw [List.length_take,List.length_drop];omega
     have H64:=hid h64l;clear h64l
     go_wp2_with (at_builtin;go_must (refine wpList_apps rfl _ _ 33 rfl w1.heap.size 5 _ 1 1 Tryz.underlying33 infoByte rfl (by decide) (by decide) _ _ _ rfl hown _ 64 _ rfl hrc (bV_one _) (by omega) hws ?_);intro v' w2 ho2 hb2 _ _ _)
     go_roundw
     case rel =>
      refine ⟨k+1,by omega,by omega,rfl,?_,hbel.trans hb2⟩;rw [HS.out,bV_app,List.length_append,H64.out];exact ho2
     case measure=>simp [intOf];omega
    ·have HS:=hid (dataP_step_out bs blk at_ f k (by omega))
     go_wp2_with fail;go_roundw
     case rel=>exact ⟨k+1,by omega,by omega,rfl,by rw [HS.out];exact hown,hbel⟩
     case measure=>simp [intOf];omega
   ·have HS:=hid (dataP_step_out bs blk at_ f k (by omega))
    go_wp2_with fail;go_roundw
    case rel=>exact ⟨k+1,by omega,by omega,rfl,by rw [HS.out];exact hown,hbel⟩
    case measure=>simp [intOf];omega
  ·obtain rfl:k=t:=by omega
   go_wp2_with fail;go_ret;exact ⟨_,rfl,ownsRow_base hown (Nat.le_of_lt (Nat.lt_of_le_of_lt (Nat.le_refl _) hlt1)),bthen hB1 hbel⟩
theorem refData_no (blk f t at_:Int) (ao:Option Addr) (n cap:Nat) (w:World) (hok:dOk blk at_ f t=false) :
  Calls Tryz.prog 53 #[.agg #[.int .i64 blk,.int .i64 f,.int .i64 t],.int .i64 at_,.slice ao n cap] w fun e w'=>e = .returned (.slice none 0 0)∧Below w.heap.size w w':=by
 simp only [dOk,Bool.and_eq_false_iff,decide_eq_false_iff_not] at hok;have hs0:(w.alloc (.cells #[.int .i64 blk,.int .i64 f,.int .i64 t] 100)).heap[w.heap.size]? = some (.cells #[.int .i64 blk,.int .i64 f,.int .i64 t] 100 (0,0)):=heap_alloc_new w _
 by_cases hsp:(decide (0≤f) && decide (t≤4) && decide (f<t))=true
 ·have hsp':=hsp
  simp only [Bool.and_eq_true,decide_eq_true_eq] at hsp'
  by_cases h1:blk<0
  ·clear hok hsp'
   go_enter Tryz.func53,Tryz.ntmps53
   go_wp2_with fail;refine (span12_any _ _ _ _).mono ?_;rintro e w1 ⟨rfl,hb1'⟩;rw [hsp];have hs1:w1.heap[w.heap.size]? = some (.cells #[.int .i64 blk,.int .i64 f,.int .i64 t] 100 (0,0)):=(hb1'.block w.heap.size (by simp)).trans hs0;have c0:w1.cell? ⟨w.heap.size,0,none⟩=some (.int .i64 blk):=by rw [cell_of_row w1 _ 0 _ _ _ hs1];rfl
   have hB1:=bthen (balloc (Below.refl _ w) (.cells #[.int .i64 blk,.int .i64 f,.int .i64 t] 100)) hb1';go_wp2_with fail;go_ret;exact ⟨rfl,hB1⟩
  ·by_cases h2:268435456<blk
   ·clear hok hsp'
    go_enter Tryz.func53,Tryz.ntmps53
    go_wp2_with fail;refine (span12_any _ _ _ _).mono ?_;rintro e w1 ⟨rfl,hb1'⟩;rw [hsp];have hs1:w1.heap[w.heap.size]? = some (.cells #[.int .i64 blk,.int .i64 f,.int .i64 t] 100 (0,0)):=(hb1'.block w.heap.size (by simp)).trans hs0;have c0:w1.cell? ⟨w.heap.size,0,none⟩=some (.int .i64 blk):=by rw [cell_of_row w1 _ 0 _ _ _ hs1];rfl
    have hB1:=bthen (balloc (Below.refl _ w) (.cells #[.int .i64 blk,.int .i64 f,.int .i64 t] 100)) hb1';go_wp2_with fail;go_ret;exact ⟨rfl,hB1⟩
   ·by_cases h3:at_<0
    ·clear hok hsp'
     go_enter Tryz.func53,Tryz.ntmps53
     go_wp2_with fail;refine (span12_any _ _ _ _).mono ?_;rintro e w1 ⟨rfl,hb1'⟩;rw [hsp];have hs1:w1.heap[w.heap.size]? = some (.cells #[.int .i64 blk,.int .i64 f,.int .i64 t] 100 (0,0)):=(hb1'.block w.heap.size (by simp)).trans hs0;have c0:w1.cell? ⟨w.heap.size,0,none⟩=some (.int .i64 blk):=by rw [cell_of_row w1 _ 0 _ _ _ hs1];rfl
     have hB1:=bthen (balloc (Below.refl _ w) (.cells #[.int .i64 blk,.int .i64 f,.int .i64 t] 100)) hb1';go_wp2_with fail;go_ret;exact ⟨rfl,hB1⟩
    ·have h4:1073741824<at_:=by omega
     clear hok hsp'
     go_enter Tryz.func53,Tryz.ntmps53
     go_wp2_with fail;refine (span12_any _ _ _ _).mono ?_;rintro e w1 ⟨rfl,hb1'⟩;rw [hsp];have hs1:w1.heap[w.heap.size]? = some (.cells #[.int .i64 blk,.int .i64 f,.int .i64 t] 100 (0,0)):=(hb1'.block w.heap.size (by simp)).trans hs0;have c0:w1.cell? ⟨w.heap.size,0,none⟩=some (.int .i64 blk):=by rw [cell_of_row w1 _ 0 _ _ _ hs1];rfl
     have hB1:=bthen (balloc (Below.refl _ w) (.cells #[.int .i64 blk,.int .i64 f,.int .i64 t] 100)) hb1';go_wp2_with fail;go_ret;exact ⟨rfl,hB1⟩
 ·replace hsp:(decide (0≤f) && decide (t≤4) && decide (f<t))=false:=by simpa using hsp
  clear hok
  go_enter Tryz.func53,Tryz.ntmps53
  go_wp2_with fail;refine (span12_any _ _ _ _).mono ?_;rintro e w1 ⟨rfl,hb1'⟩;rw [hsp];have hs1:w1.heap[w.heap.size]? = some (.cells #[.int .i64 blk,.int .i64 f,.int .i64 t] 100 (0,0)):=(hb1'.block w.heap.size (by simp)).trans hs0;have c0:w1.cell? ⟨w.heap.size,0,none⟩=some (.int .i64 blk):=by rw [cell_of_row w1 _ 0 _ _ _ hs1];rfl
  have hB1:=bthen (balloc (Below.refl _ w) (.cells #[.int .i64 blk,.int .i64 f,.int .i64 t] 100)) hb1';go_wp2_with fail;go_ret;exact ⟨rfl,hB1⟩
theorem refData_any (blk f t at_:Int) (v:Value) (n:Nat) (bs:List UInt8) (w:World) (h:Rd w 1 v n (bV bs)) (hn:n≤100000000000) :
  Calls Tryz.prog 53 #[.agg #[.int .i64 blk,.int .i64 f,.int .i64 t],.int .i64 at_,v] w fun e w'=>∃ v',e = .returned v'∧w'.ownsRow w.heap.size 5 1 v' (dataI bs blk at_ f t).length (bV (dataI bs blk at_ f t))∧Below w.heap.size w w':=by
 by_cases hok:dOk blk at_ f t=true
 ·simp only [dataI,hok,if_true]
  exact refData_ok blk f t at_ v n bs w hok h hn
 ·have hok':dOk blk at_ f t=false:=by simpa using hok
  simp only [dataI,hok',Bool.false_eq_true,if_false];obtain ⟨ao,cap,rfl,_⟩:=h;refine (refData_no blk f t at_ ao n cap w hok').mono ?_;rintro e w' ⟨rfl,hb⟩;exact ⟨_,rfl,World.ownsRow_nil _ _ _ _,hb⟩
end Go.Proofs.YthkmihedkddnmaaGreat
namespace Go.Proofs.YthkmihedkddnmaaGreat
open Go.RowKit Wire Cmd
def zeroB:List UInt8:=List.replicate 256 0
def blkAt (m:List (Nat × List UInt8)) (k:Nat):List UInt8:=(getA k m).getD zeroB
def rowC (o:Op0):Int:=if o.k=5 then (o.data.length:Int) / 64 else o.count
def refD (l:List (Nat × Vl)) (o:Op0):Int :=
 if mayO o=false then 2 else if o.k=8 then 0 else if o.k=1 then (if (getA o.vol l).isSome then 7 else 0)
 else match getA o.vol l with
 | none=>6
 | some v =>
  if o.k=4 then (if (getA o.to l).isSome then 7 else 0)
  else if o.k=5∨o.k=6∨o.k=9 then (if 4 * (v.size:Int)<o.pl+rowC o then 5 else 0)
  else if o.k=7 then (if (v.size:Int)<o.pl+o.count then 5 else 0)
  else 0
def dataO (o:Op0):List UInt8:=if o.k=6 then List.replicate (64 * o.count).toNat 0 else o.data
def putP (a:Int) (d:List UInt8) (m:List (Nat × List UInt8)) (s:PSpan):List (Nat × List UInt8):=putA s.blk (mergeB (blkAt m s.blk) s.lo (dataI d s.blk a s.lo s.hi)) m
def putM (a:Int) (d:List UInt8) (m:List (Nat × List UInt8)) (sp:List PSpan):List (Nat × List UInt8):=sp.foldl (putP a d) m
theorem putM_snoc (a:Int) (d:List UInt8) (m:List (Nat × List UInt8)) (sp:List PSpan) (s:PSpan):putM a d m (sp ++ [s])=putP a d (putM a d m sp) s:=by simp [putM]
def readM (m:List (Nat × List UInt8)) (sp:List PSpan):List UInt8:=sp.flatMap fun s=>cutB (blkAt m s.blk) s.lo s.hi
theorem readM_snoc (m:List (Nat × List UInt8)) (sp:List PSpan) (s:PSpan):readM m (sp ++ [s])=readM m sp ++ cutB (blkAt m s.blk) s.lo s.hi:=by simp [readM]
def stepD (l:List (Nat × Vl)) (o:Op0) (b:Int):Ans0 × List (Nat × Vl) :=
 if refD l o≠0 then (⟨refD l o,0,[]⟩,l)
 else if o.k=1 then (⟨0,0,[]⟩,putA o.vol ⟨o.size.toNat,[]⟩ l)
 else if o.k=2 then (⟨0,0,[]⟩,delA o.vol l)
 else match getA o.vol l with
 | none=>(⟨0,0,[]⟩,l)
 | some v =>
  if o.k=3 then (⟨0,0,[]⟩,putA o.vol ⟨o.size.toNat,dropA o.size 1073741824 v.m⟩ l)
  else if o.k=4 then (⟨0,0,[]⟩,putA o.to v l)
  else if o.k=5∨o.k=6 then
   (if ((pSpansI o.pl (rowC o)).length:Int)≤b then ⟨0,0,[]⟩ else ⟨8,max b 0,[]⟩,putA o.vol ⟨v.size,putM o.pl (dataO o) v.m ((pSpansI o.pl (rowC o)).take b.toNat)⟩ l)
  else if o.k=7 then (⟨0,0,[]⟩,putA o.vol ⟨v.size,dropA o.pl (o.pl+o.count) v.m⟩ l)
  else if o.k=9 then (⟨0,0,readM v.m (pSpansI o.pl o.count)⟩,l)
  else (⟨0,0,[]⟩,l)
theorem dataP_hi (bs:List UInt8) (blk a f t:Int) (h:f≤t):((dataP bs blk a f t).length:Int)≤(t - f) * 64∧(dataP bs blk a f t).length % 64=0:=by
 have h0:(0:Int)≤(bs.length:Int) / 64:=by omega
 obtain ⟨a1,a2⟩:=pClamp_le blk a ((bs.length:Int) / 64) f h0;obtain ⟨b1,b2⟩:=pClamp_le blk a ((bs.length:Int) / 64) t h0;have h1:=pClamp_mono blk a ((bs.length:Int) / 64) h;have h2:pClamp blk a ((bs.length:Int) / 64) t - pClamp blk a ((bs.length:Int) / 64) f≤t - f:=by unfold pClamp;omega
 unfold dataP;rw [List.length_take,List.length_drop]
 generalize pClamp blk a ((bs.length:Int) / 64) f=x at *
 generalize pClamp blk a ((bs.length:Int) / 64) t=y at *
 have e:min ((y * 64).toNat - (x * 64).toNat) (bs.length - (x * 64).toNat)=(y * 64).toNat - (x * 64).toNat:=by omega
 rw [e];omega
theorem dataI_hi (bs:List UInt8) (blk a f t:Int) (h:f≤t):((dataI bs blk a f t).length:Int)≤(t - f) * 64∧(dataI bs blk a f t).length % 64=0:=by
 unfold dataI
 split
 ·exact dataP_hi bs blk a f t h
 ·simp;omega
def SpIn (size:Nat) (s:PSpan):Prop:=s.blk<size∧s.lo<s.hi∧s.hi≤4
theorem spans_in {a c:Int} {size:Nat} (h:a+c≤4 * (size:Int)):∀ s∈pSpansI a c,SpIn size s:=by
 intro s hs;unfold pSpansI at hs
 split at hs
 ·rename_i ho
  simp only [pOk,Bool.and_eq_true,decide_eq_true_eq] at ho;simp only [pSpans,List.mem_map,List.mem_range] at hs;obtain ⟨i,hi,rfl⟩:=hs;refine ⟨?_,pFrom_lt_pTo hi,pTo_le⟩
  show a.toNat / 4+i<size
  unfold pM at hi
  split at hi <;> omega
 ·cases hs
theorem blkAt_len {m:List (Nat × List UInt8)} (h:∀ q∈m,q.2.length=256) (k:Nat):(blkAt m k).length=256:=by
 unfold blkAt
 cases hg:getA k m with
 | none =>
  show zeroB.length=256
  unfold zeroB;rw [List.length_replicate]
 | some b=>exact h _ (getA_some hg)
theorem putP_ok {v:Vl} (h:v.Ok) {s:PSpan} (hs:SpIn v.size s) (a:Int) (d:List UInt8):Vl.Ok ⟨v.size,putP a d v.m s⟩:=by
 obtain ⟨h1,h2,h3⟩:=hs;refine ⟨h.size,ris_putA h.ris _ _,fun q hq => ?_,fun q hq => ?_⟩
 ·rcases mem_putA hq with rfl | hq
  ·exact h1
  ·exact h.lt q hq
 ·rcases mem_putA hq with rfl | hq
  ·have hb:=blkAt_len h.blk s.blk
   have:=(dataI_hi d s.blk a s.lo s.hi (by omega)).1
   show (mergeB _ _ _).length=256
   rw [mergeB_len (by rw [hb];omega),hb]
  ·exact h.blk q hq
theorem putM_ok {size:Nat} (a:Int) (d:List UInt8):∀ (sp:List PSpan) (m:List (Nat × List UInt8)),Vl.Ok ⟨size,m⟩→(∀ s∈sp,SpIn size s)→Vl.Ok ⟨size,putM a d m sp⟩
 | [],m,h,_=>h
 | s :: sp,m,h,hs=>by
  have h1:=putP_ok (v:=⟨size,m⟩) h (hs s (List.mem_cons_self ..)) a d;exact putM_ok a d sp _ h1 (fun z hz=>hs z (List.mem_cons_of_mem _ hz))
theorem dropA_ok {v:Vl} (h:v.Ok) (f t:Int):Vl.Ok ⟨v.size,dropA f t v.m⟩ :=
 ⟨h.size,ris_dropA h.ris f t,fun q hq=>h.lt q (List.mem_filter.1 hq).1,fun q hq=>h.blk q (List.mem_filter.1 hq).1⟩
theorem putA_dev {l:List (Nat × Vl)} (h:DevOk l) {n:Nat} {v:Vl} (hn:1≤n∧n<4294967296) (hv:v.Ok):DevOk (putA n v l) :=
 ⟨ris_putA h.ris _ _,fun p hp=>by
  rcases mem_putA hp with rfl | hp
  ·exact hn
  ·exact h.nat p hp,fun p hp=>by
  rcases mem_putA hp with rfl | hp
  ·exact hv
  ·exact h.vol p hp⟩
theorem delA_dev {l:List (Nat × Vl)} (h:DevOk l) (n:Nat):DevOk (delA n l) :=
 ⟨ris_delA h.ris _,fun p hp=>h.nat p (List.mem_filter.1 hp).1,fun p hp=>h.vol p (List.mem_filter.1 hp).1⟩
theorem may_vol {o:Op0} (h:mayO o=true) (hk:o.k≠8):1≤o.vol∧o.vol<4294967296:=by
 unfold mayO at h;simp only [Bool.and_eq_true,decide_eq_true_eq] at h;obtain ⟨⟨h1,h2,h3⟩,_⟩:=h;have hm:(118:UInt8)∈nm o.k:=by
  unfold nm
  (repeat' split) <;> first | decide | omega
 have:=List.all_eq_true.1 h1 118 hm
 simpa [wIn] using this
theorem may_to {o:Op0} (h:mayO o=true) (hk:o.k=4):1≤o.to∧o.to<4294967296:=by
 unfold mayO at h;simp only [Bool.and_eq_true,decide_eq_true_eq] at h;obtain ⟨⟨h1,h2,h3⟩,_⟩:=h;have hm:(116:UInt8)∈nm o.k:=by rw [hk];decide
 have:=List.all_eq_true.1 h1 116 hm;have h4:(1≤o.to∧o.to<4294967296)∧o.to≠o.vol:=by simpa [wIn] using this
 exact h4.1
theorem may_size {o:Op0} (h:mayO o=true) (hk:o.k=1∨o.k=3):0≤o.size∧o.size≤256:=by
 unfold mayO at h;simp only [Bool.and_eq_true,decide_eq_true_eq] at h;obtain ⟨⟨h1,h2,h3⟩,_⟩:=h;have hm:(115:UInt8)∈nm o.k:=by rcases hk with hk | hk <;> rw [hk] <;> decide
 have:=List.all_eq_true.1 h1 115 hm
 simpa [wIn] using this
end Go.Proofs.YthkmihedkddnmaaGreat
namespace Go.Proofs.YthkmihedkddnmaaGreat
open Go.RowKit Go.Maps
def blkD (b:List UInt8):DataW Unit:=.agg (b.map fun x=>.lit (.int .u8 (x.toNat:Int)))
theorem blkD_inj {a b:List UInt8} (h:blkD a=blkD b):a=b:=by
 unfold blkD at h;have h1:=DataW.agg.inj h
 induction a generalizing b with
 | nil=>cases b with
  | nil=>rfl
  | cons y b=>simp at h1
 | cons x a ih=>cases b with
  | nil=>simp at h1
  | cons y b =>
   simp only [List.map_cons,List.cons.injEq,DataW.lit.injEq,Lit.int.injEq,true_and] at h1;have e:x=y:=UInt8.toNat_inj.1 (by omega);rw [e,ih (by rw [h1.2]) h1.2]
theorem bA_inj {a b:List UInt8} (h:bA a=bA b):a=b:=by
 unfold bA at h;have h1:=Value.agg.inj h;have h2:bV a=bV b:=by simpa using congrArg Array.toList h1
 refine List.ext_getElem? fun i => ?_;have h3:(bV a)[i]? = (bV b)[i]?:=by rw [h2]
 rw [bV_get?,bV_get?] at h3
 cases ha:a[i]? with
 | none=>rw [ha] at h3;cases hb:b[i]? with
  | none=>rfl
  | some y=>rw [hb] at h3;simp at h3
 | some x=>rw [ha] at h3;cases hb:b[i]? with
  | none=>rw [hb] at h3;simp at h3
  | some y =>
   rw [hb] at h3;simp only [Option.map_some,Option.some.injEq,Value.int.injEq,true_and] at h3;have e:x=y:=UInt8.toNat_inj.1 (by omega);rw [e]
open Classical in
noncomputable def RBlk (v:Value):Option (DataW Unit × List MemPlace):=if h:∃ b:List UInt8,b.length=256∧v=bA b then some (blkD h.choose,[]) else none
theorem RBlk_mk {b:List UInt8} (h:b.length=256):RBlk (bA b)=some (blkD b,[]):=by
 have hx:∃ c:List UInt8,c.length=256∧bA b=bA c:=⟨b,h,rfl⟩
 unfold RBlk;rw [dif_pos hx];have:=bA_inj hx.choose_spec.2;rw [← this]
theorem RBlk_inv {v:Value} {b:List UInt8} {ps:List MemPlace} (h:RBlk v=some (blkD b,ps)):b.length=256∧v=bA b∧ps=[]:=by
 unfold RBlk at h
 split at h
 ·rename_i hx
  simp only [Option.some.injEq,Prod.mk.injEq] at h;have e:=blkD_inj h.1;have hs:=hx.choose_spec;rw [e] at hs;exact ⟨hs.1,hs.2,h.2.symm⟩
 ·cases h
def volD (x:Int × Option Nat):DataW Unit:=.agg [.lit (.int .i64 x.1),.lit (.int .i64 (match x.2 with | none => -1 | some b=>(b:Int)))]
def RVol (v:Value):Option (DataW Unit × List MemPlace) :=
 match v with
 | .agg ⟨[.int .i64 s,.map p]⟩=>some (volD (s,p),[])
 | _=>none
theorem RVol_mk (s:Int) (p:Option Nat):RVol (.agg #[.int .i64 s,.map p])=some (volD (s,p),[]):=rfl
theorem volD_inj {x y:Int × Option Nat} (h:volD x=volD y):x=y:=by
 obtain ⟨a,p⟩:=x;obtain ⟨b,q⟩:=y;unfold volD at h;simp only [DataW.agg.injEq,List.cons.injEq,DataW.lit.injEq,Lit.int.injEq,true_and,and_true] at h;obtain ⟨rfl,h2⟩:=h
 cases p <;> cases q <;> simp at h2 ⊢ <;> omega
theorem RVol_inv {v:Value} {x:Int × Option Nat} {ps:List MemPlace} (h:RVol v=some (volD x,ps)):v = .agg #[.int .i64 x.1,.map x.2]∧ps=[]:=by
 unfold RVol at h
 split at h
 ·rename_i s p
  simp only [Option.some.injEq,Prod.mk.injEq] at h;have e:=volD_inj h.1;subst e;exact ⟨rfl,h.2.symm⟩
 ·cases h
section
variable {α:Type} {P:Program} {k:TypeId} {R:Value→Option (DataW Unit × List MemPlace)} {q:IntKind} {f:α→DataW Unit}
def MapL (w:World) (P:Program) (k:TypeId) (R:Value→Option (DataW Unit × List MemPlace)) (q:IntKind) (f:α→DataW Unit) (b:Nat) (l:List (Nat × α)):Prop:=w.ownsMap P k R b l.length (encM q f l)
theorem mapL_of {w:World} {b n:Nat} {l:List (Nat × α)} (h:w.ownsMap P k R b n (encM q f l)):MapL w P k R q f b l:=by
 obtain ⟨es,clock,hb,F,hs,hD⟩:=h;refine ⟨es,clock,hb,F,?_,hD⟩;have h1:=DataW.map.inj hD;have h2:=congrArg List.length h1;rw [length_read] at h2;have h3:(encA q f l).length=l.length:=by simp [encA]
 omega
theorem mapL_new (w:World) (P:Program) (k:TypeId) (R:Value→Option (DataW Unit × List MemPlace)) (q:IntKind) (f:α→DataW Unit):MapL (w.alloc (.map #[] 0)) P k R q f w.heap.size []:=World.ownsMap_made w P k R
theorem MapL.lt {w:World} {b:Nat} {l:List (Nat × α)} (h:MapL w P k R q f b l):b<w.heap.size:=World.ownsMap.lt h
theorem MapL.at_ {w w':World} {b:Nat} {l:List (Nat × α)} (h:MapL w P k R q f b l) (hb:w'.heap[b]? = w.heap[b]?):MapL w' P k R q f b l:=by
 obtain ⟨es,clock,h1,h2⟩:=h;exact ⟨es,clock,hb.trans h1,h2⟩
theorem MapL.below {w w':World} {b:Nat} {l:List (Nat × α)} (h:MapL w P k R q f b l) (hb:Below w.heap.size w w'):MapL w' P k R q f b l:=h.at_ (hb.block _ h.lt)
theorem MapL.mods {w w':World} {F:List Nat} {b:Nat} {l:List (Nat × α)} (h:MapL w P k R q f b l) (hm:Mods F w w') (hb:b∉F):MapL w' P k R q f b l:=h.at_ (hm.block _ h.lt hb)
theorem MapL.isMap {w:World} {b:Nat} {l:List (Nat × α)} (h:MapL w P k R q f b l):∃ es clock,w.heap[b]? = some (.map es clock):=by
 obtain ⟨es,clock,h1,_⟩:=h;exact ⟨es,clock,h1⟩
theorem keyL {P:Program} {k:TypeId} {q:IntKind} (hk:P.underlying k=some (.int q)) {n:Nat} (hw:(Lit.int q (n:Int)).wf=true):keyOf P k (.int q (n:Int))=some (.int q (n:Int)):=keyOf_int_mk hk hw
theorem MapL.look {w:World} {b:Nat} {l:List (Nat × α)} (h:MapL w P k R q f b l) (hk:P.underlying k=some (.int q)) {t e:TypeId} (ht:P.underlying t=some (.map k e)) {z:Value} {zd:DataW Unit} {zp:List MemPlace}
  (hz:(zeroValue e).run P w = .ok z w) (hzd:R z=some (zd,zp)) {n:Nat} (hw:(Lit.int q (n:Int)).wf=true) :
  ∃ v ps,(Instr.lookup t (.map (some b)) (.int q (n:Int)) false).run P w = .ok v w∧R v=some ((match getA n l with | some a=>f a | none=>zd),ps):=by
 obtain ⟨v,ps,h1,h2⟩:=World.ownsMap.lookup h (int_keyed hk) ht hz hzd (keyL hk hw);rw [at_enc] at h2;exact ⟨v,ps,h1,h2⟩
theorem MapL.lookOk {w:World} {b:Nat} {l:List (Nat × α)} (h:MapL w P k R q f b l) (hk:P.underlying k=some (.int q)) {t e:TypeId} (ht:P.underlying t=some (.map k e)) {z:Value} {zd:DataW Unit} {zp:List MemPlace}
  (hz:(zeroValue e).run P w = .ok z w) (hzd:R z=some (zd,zp)) {n:Nat} (hw:(Lit.int q (n:Int)).wf=true) :
  ∃ v ps,(Instr.lookup t (.map (some b)) (.int q (n:Int)) true).run P w = .ok (.tuple #[v,.bool (getA n l).isSome]) w∧R v=some ((match getA n l with | some a=>f a | none=>zd),ps):=by
 obtain ⟨v,ps,h1,h2⟩:=World.ownsMap.look_ok h (int_keyed hk) ht hz hzd (keyL hk hw);rw [at_enc] at h2;rw [has_enc] at h1;exact ⟨v,ps,h1,h2⟩
theorem MapL.put {w:World} {b:Nat} {l:List (Nat × α)} (h:MapL w P k R q f b l) (hk:P.underlying k=some (.int q)) {t e:TypeId} (ht:P.underlying t=some (.map k e)) (hn:l.length<maxLen) {n:Nat} (hw:(Lit.int q (n:Int)).wf=true) {v:Value} {a:α} {ps:List MemPlace} (hv:R v=some (f a,ps)) :
  ∃ w',(Instr.mapUpdate t (.map (some b)) (.int q (n:Int)) v).run P w = .ok () w'∧MapL w' P k R q f b (putA n a l)∧Mods [b] w w':=by
 obtain ⟨w',h1,h2,h3⟩:=World.ownsMap.update h (int_keyed hk) ht hn (keyL hk hw) hv;rw [put_enc] at h2;exact ⟨w',h1,mapL_of h2,⟨h3.os,h3.tape,h3.output,h3.size,fun i hi hne=>h3.block i hi (fun e=>hne (by simp [Option.some.inj e]))⟩⟩
theorem MapL.del {w:World} {b:Nat} {l:List (Nat × α)} (h:MapL w P k R q f b l) (hk:P.underlying k=some (.int q)) {t e:TypeId} (ht:P.underlying t=some (.map k e)) {n:Nat} (hw:(Lit.int q (n:Int)).wf=true) (ty:TypeId) :
  ∃ w',(Builtin.delete_ #[t,k] ty #[.map (some b),.int q (n:Int)]).run P w = .ok (.tuple #[]) w'∧MapL w' P k R q f b (delA n l)∧Mods [b] w w':=by
 obtain ⟨w',h1,h2,h3⟩:=World.ownsMap.drop h (int_keyed hk) ht (keyL hk hw) ty;rw [del_enc] at h2;have h4:=h3.grown;exact ⟨w',h1,mapL_of h2,⟨h4.os,h4.tape,h4.output,h4.size,fun i hi hne=>h4.block i hi (fun e=>hne (by simp [Option.some.inj e]))⟩⟩
theorem MapL.len {w:World} {b:Nat} {l:List (Nat × α)} (h:MapL w P k R q f b l) {t e:TypeId} (ht:P.underlying t=some (.map k e)) (ty:TypeId):(Builtin.len_ #[t] ty #[.map (some b)]).run P w = .ok (.int .i64 (l.length:Int)) w:=by
 have:=World.ownsMap.len h ht ty;rw [size_enc] at this;exact this
end
end Go.Proofs.YthkmihedkddnmaaGreat
namespace Go.Proofs.YthkmihedkddnmaaGreat
open Go.RowKit Go.Maps
section
variable {α β:Type}
def mapA (g:α→β) (l:List (Nat × α)):List (Nat × β):=l.map fun p=>(p.1,g p.2)
theorem getA_map (g:α→β) (k:Nat):∀ l:List (Nat × α),getA k (mapA g l)=(getA k l).map g
 | []=>rfl
 | y :: r=>by
  have ih:=getA_map g k r;unfold mapA getA at ih ⊢;rw [List.map_cons,List.find?_cons,List.find?_cons];dsimp only
  cases (y.1 == k)
  ·exact ih
  ·rfl
theorem delA_map (g:α→β) (k:Nat) (l:List (Nat × α)):delA k (mapA g l)=mapA g (delA k l):=by
 unfold delA mapA;rw [List.filter_map]
 rfl
theorem insA_map (g:α→β) (k:Nat) (a:α):∀ l:List (Nat × α),insA (k,g a) (mapA g l)=mapA g (insA (k,a) l)
 | []=>rfl
 | y :: r=>by
  have ih:=insA_map g k a r;unfold mapA at ih ⊢
  by_cases h:k<y.1
  ·simp [insA,h]
  ·simp only [List.map_cons,insA,h,if_false]
   rw [ih]
theorem putA_map (g:α→β) (k:Nat) (a:α) (l:List (Nat × α)):putA k (g a) (mapA g l)=mapA g (putA k a l):=by
 unfold putA;rw [delA_map,insA_map]
theorem mapA_len (g:α→β) (l:List (Nat × α)):(mapA g l).length=l.length:=by simp [mapA]
end
def strip (l:List (Nat × (Vl × Nat))):List (Nat × Vl):=mapA (·.1) l
def volF (x:Vl × Nat):DataW Unit:=volD ((x.1.size:Int),some x.2)
structure DevAt (n0:Nat) (w:World) (B Ba:Nat) (l:List (Nat × (Vl × Nat))):Prop where
 box:w.heap[B]? = some (.cells #[.map (some Ba)] 63 (0,0))
 all:MapL w Tryz.prog 38 RVol .u64 volF Ba l
 vol:∀ p∈l,MapL w Tryz.prog 3 RBlk .i64 blkD p.2.2 p.2.1.m
 ok:DevOk (strip l)
 ge:n0≤B∧n0≤Ba∧∀ p∈l,n0≤p.2.2
 ne:∀ p∈l,p.2.2≠Ba
 apart:∀ p∈l,∀ q∈l,p.2.2=q.2.2→p.1=q.1
theorem DevAt.lt {n0:Nat} {w:World} {B Ba:Nat} {l:List (Nat × (Vl × Nat))} (h:DevAt n0 w B Ba l):B<w.heap.size:=(hLT h.box)
theorem DevAt.cell {n0:Nat} {w:World} {B Ba:Nat} {l:List (Nat × (Vl × Nat))} (h:DevAt n0 w B Ba l):w.cell? ⟨B,0,none⟩=some (.map (some Ba)):=cellOf h.box 0 rfl
theorem DevAt.below {n0:Nat} {w w':World} {B Ba:Nat} {l:List (Nat × (Vl × Nat))} (h:DevAt n0 w B Ba l) (hb:Below w.heap.size w w'):DevAt n0 w' B Ba l :=
 ⟨(hb.block _ h.lt).trans h.box,h.all.below hb,fun p hp=>(h.vol p hp).below hb,h.ok,h.ge,h.ne,h.apart⟩
def dF (Ba:Nat) (l:List (Nat × (Vl × Nat))):List Nat:=Ba :: l.map (·.2.2)
theorem DevAt.kept {n0:Nat} {w w':World} {B Ba:Nat} {l:List (Nat × (Vl × Nat))} {F:List Nat} (h:DevAt n0 w B Ba l) (hm:Mods F w w') (h1:B∉F) (h2:∀ k∈dF Ba l,k∉F):DevAt n0 w' B Ba l :=
 ⟨(hm.block _ h.lt h1).trans h.box,h.all.mods hm (h2 _ (List.mem_cons_self ..)),fun p hp=>(h.vol p hp).mods hm (h2 _ (List.mem_cons_of_mem _ (List.mem_map.2 ⟨p,hp,rfl⟩))),h.ok,h.ge,h.ne,h.apart⟩
def DevV (w:World) (v:Value) (y:Bool):Prop :=
 (v = .pointer none∧y=false)∨(∃ B,v = .pointer (some ⟨B,0,none⟩)∧w.heap[B]? = some (.cells #[.map none] 63 (0,0))∧y=false) ∨
 ∃ B Ba,v = .pointer (some ⟨B,0,none⟩)∧w.heap[B]? = some (.cells #[.map (some Ba)] 63 (0,0))∧y=true
theorem DevAt.dv {n0:Nat} {w:World} {B Ba:Nat} {l:List (Nat × (Vl × Nat))} (h:DevAt n0 w B Ba l):DevV w (.pointer (some ⟨B,0,none⟩)) true:=.inr (.inr ⟨B,Ba,rfl,h.box,rfl⟩)
theorem DevV.below {w w':World} {v:Value} {y:Bool} (h:DevV w v y) (hb:Below w.heap.size w w'):DevV w' v y:=by
 rcases h with ⟨rfl,rfl⟩ | ⟨B,rfl,h,rfl⟩ | ⟨B,Ba,rfl,h,rfl⟩
 ·exact .inl ⟨rfl,rfl⟩
 ·exact .inr (.inl ⟨B,rfl,(hb.block _ (hLT h)).trans h,rfl⟩)
 ·exact .inr (.inr ⟨B,Ba,rfl,(hb.block _ (hLT h)).trans h,rfl⟩)
theorem dnew_any (n0:Nat) (w:World) (hn:n0≤w.heap.size):Calls Tryz.prog 10 #[] w fun e w'=>∃ B Ba,e = .returned (.pointer (some ⟨B,0,none⟩))∧DevAt n0 w' B Ba []∧Below w.heap.size w w'∧w.heap.size≤B∧w.heap.size≤Ba:=by
 have hmm := @run_makeMap Tryz.prog
 go_enter Tryz.func10,Tryz.ntmps10
 go_wp2_with fail;go_ret;refine ⟨_,_,rfl,⟨by have:=heap_alloc_new (w.alloc (.map #[] 0)) (.cells #[.map (some w.heap.size)] 63);simpa using this,?_,fun p hp=>(by cases hp),⟨List.Pairwise.nil,fun p hp=>(by cases hp),fun p hp=>(by cases hp)⟩,⟨Nat.le_trans hn (Nat.le_succ _),hn,fun p hp=>(by cases hp)⟩,fun p hp=>(by cases hp),fun p hp=>(by cases hp)⟩,?_,Nat.le_succ _,Nat.le_refl _⟩
 ·exact (mapL_new w _ _ _ _ _).below (balloc (Below.refl _ _) _)
 ·exact balloc (balloc (Below.refl _ _) _) _
theorem neqMapNil (w:World) (p:Option Nat):(binOp .neq 61 (.map p) (.map none)).run Tryz.prog w = .ok (.bool p.isSome) w:=by
 cases p <;> kernel_rfl
theorem dthere_any (w:World) (v:Value) (y:Bool) (h:DevV w v y):Calls Tryz.prog 37 #[v] w fun e w'=>e = .returned (.bool y)∧w=w':=by
 have hnm:=neqMapNil
 rcases h with ⟨rfl,rfl⟩ | ⟨B,rfl,h,rfl⟩ | ⟨B,Ba,rfl,h,rfl⟩
 ·go_enter Tryz.func37,Tryz.ntmps37
  go_wp2_with fail;go_ret;exact ⟨rfl,rfl⟩
 ·have c0:w.cell? ⟨B,0,none⟩=some (.map none):=cellOf h 0 rfl
  clear h
  go_enter Tryz.func37,Tryz.ntmps37
  go_wp2_with fail;go_ret;exact ⟨rfl,rfl⟩
 ·have c0:w.cell? ⟨B,0,none⟩=some (.map (some Ba)):=cellOf h 0 rfl
  clear h
  go_enter Tryz.func37,Tryz.ntmps37
  go_wp2_with fail;go_ret;exact ⟨rfl,rfl⟩
end Go.Proofs.YthkmihedkddnmaaGreat
namespace Go.Proofs.YthkmihedkddnmaaGreat
open Go.RowKit Go.Maps
theorem undU64:Tryz.prog.underlying 38=some (.int .u64):=Tryz.underlying38
theorem undAll:Tryz.prog.underlying 61=some (.map 38 84):=by kernel_rfl
theorem undBlks:Tryz.prog.underlying 82=some (.map 3 50):=by kernel_rfl
theorem zeroVol (w:World):(zeroValue 84).run Tryz.prog w = .ok (.agg #[.int .i64 0,.map none]) w:=by kernel_rfl
theorem wfU {n:Nat} (h:n<18446744073709551616):(Lit.int .u64 (n:Int)).wf=true:=by
 have e1:IntKind.u64.min=0:=rfl;have e2:IntKind.u64.max=18446744073709551615:=rfl
 simp [Lit.wf,e1,e2]
 omega
theorem DevAt.look {n0:Nat} {w:World} {B Ba:Nat} {l:List (Nat × (Vl × Nat))} (h:DevAt n0 w B Ba l) {n:Nat} (hn:n<18446744073709551616) {x:Vl × Nat} (hg:getA n l=some x) :
  (Instr.lookup 61 (.map (some Ba)) (.int .u64 (n:Int)) true).run Tryz.prog w = .ok (.tuple #[.agg #[.int .i64 (x.1.size:Int),.map (some x.2)],.bool true]) w ∧
  (Instr.lookup 61 (.map (some Ba)) (.int .u64 (n:Int)) false).run Tryz.prog w = .ok (.agg #[.int .i64 (x.1.size:Int),.map (some x.2)]) w:=by
 obtain ⟨v,ps,h1,h2⟩:=h.all.lookOk undU64 undAll (zeroVol w) (RVol_mk 0 none) (wfU hn);obtain ⟨v',ps',h3,h4⟩:=h.all.look undU64 undAll (zeroVol w) (RVol_mk 0 none) (wfU hn);rw [hg] at h1 h2 h4;obtain ⟨rfl,_⟩:=RVol_inv h2;obtain ⟨rfl,_⟩:=RVol_inv h4;exact ⟨h1,h3⟩
theorem DevAt.lookNo {n0:Nat} {w:World} {B Ba:Nat} {l:List (Nat × (Vl × Nat))} (h:DevAt n0 w B Ba l) {n:Nat} (hn:n<18446744073709551616) (hg:getA n l=none) :
  (Instr.lookup 61 (.map (some Ba)) (.int .u64 (n:Int)) true).run Tryz.prog w = .ok (.tuple #[.agg #[.int .i64 0,.map none],.bool false]) w ∧
  (Instr.lookup 61 (.map (some Ba)) (.int .u64 (n:Int)) false).run Tryz.prog w = .ok (.agg #[.int .i64 0,.map none]) w:=by
 obtain ⟨v,ps,h1,h2⟩:=h.all.lookOk undU64 undAll (zeroVol w) (RVol_mk 0 none) (wfU hn);obtain ⟨v',ps',h3,h4⟩:=h.all.look undU64 undAll (zeroVol w) (RVol_mk 0 none) (wfU hn);rw [hg] at h1 h2 h4;obtain ⟨rfl,_⟩:=RVol_inv h2;obtain ⟨rfl,_⟩:=RVol_inv h4;exact ⟨h1,h3⟩
theorem dsize_in (n0:Nat) (w:World) (B Ba:Nat) (l:List (Nat × (Vl × Nat))) (h:DevAt n0 w B Ba l) (n:Nat) (hn:n<18446744073709551616) (x:Vl × Nat) (hg:getA n l=some x) :
  Calls Tryz.prog 15 #[.pointer (some ⟨B,0,none⟩),.int .u64 (n:Int)] w fun e w'=>e = .returned (.tuple #[.int .i64 (x.1.size:Int),.bool true])∧Below w.heap.size w w':=by
 have CT:=dthere_any w _ true h.dv;have c0:=h.cell;obtain ⟨hl,_⟩:=h.look hn hg;clear h hg
 go_enter Tryz.func15,Tryz.ntmps15
 go_wp2_with fail;refine CT.mono ?_;rintro e w1 ⟨rfl,rfl⟩;go_wp2_with fail
 go_ret2
 exact ⟨rfl,balloc (Below.refl _ _) _⟩
end Go.Proofs.YthkmihedkddnmaaGreat
