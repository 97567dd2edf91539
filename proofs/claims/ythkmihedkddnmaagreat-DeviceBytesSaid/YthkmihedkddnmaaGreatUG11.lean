import Derived.Test.YthkmihedkddnmaaGreatUG10
import Derived.Test.YthkmihedkddnmaaGreatUG1
import Derived.WalkKit
import Derived.Test.YthkmihedkddnmaaGreatProg
set_option linter.unusedVariables false
set_option linter.unusedSimpArgs false
set_option maxHeartbeats 2000000
set_option maxRecDepth 100000
namespace Go.Proofs.YthkmihedkddnmaaGreat
open Go.RowKit
section
variable {α:Type}
def setStep (n:Nat) (b:α) (s:List (Nat × α) × Bool) (y:Nat × α):List (Nat × α) × Bool :=
 ((if s.2=false∧n≤y.1 then s.1 ++ [(n,b)] else s.1) ++ (if y.1=n then [] else [y]),s.2 || decide (n≤y.1))
def setK (n:Nat) (b:α) (l:List (Nat × α)) (i:Nat):List (Nat × α) × Bool:=(l.take i).foldl (setStep n b) ([],false)
theorem del_ris_lt {n:Nat} {l:List (Nat × α)} (h:∀ y∈l,n<y.1):delA n l=l:=by
 unfold delA;rw [List.filter_eq_self];intro y hy;have:=h y hy
 simp;omega
theorem insA_first (n:Nat) (b:α) {l:List (Nat × α)} (h:∀ y∈l,n<y.1):insA (n,b) l=(n,b) :: l:=by
 cases l with
 | nil=>rfl
 | cons y r=>unfold insA;rw [if_pos (h y (List.mem_cons_self ..))]
def findA (k:Nat) (l:List (Nat × α)):Option Nat:=l.findIdx? fun p=>p.1 == k
def dropA (f t:Int) (l:List (Nat × α)):List (Nat × α):=l.filter fun p=>decide ((p.1:Int)<f) || decide (t≤(p.1:Int))
theorem ris_dropA {l:List (Nat × α)} (h:Ris l) (f t:Int):Ris (dropA f t l):=ris_filter h _
end
end Go.Proofs.YthkmihedkddnmaaGreat
namespace Go.Proofs.YthkmihedkddnmaaGreat
open Go.RowKit Wire
structure Vl where
 size:Nat
 m:List (Nat × List UInt8)
def blksB (m:List (Nat × List UInt8)):List UInt8:=m.flatMap fun q=>low q.1 4 ++ q.2
def volB (p:Nat × Vl):List UInt8:=low p.1 4 ++ low p.2.size 4 ++ low p.2.m.length 4 ++ blksB p.2.m
def volsB (l:List (Nat × Vl)):List UInt8:=l.flatMap volB
def devB (l:List (Nat × Vl)):List UInt8:=low l.length 4 ++ volsB l
def blksS (m:List (Nat × List UInt8)):List UInt8:=m.flatMap fun _=>[52,35]
def blksV (m:List (Nat × List UInt8)):List V:=m.flatMap fun q=>[num q.1,blk q.2]
def volS (p:Nat × Vl):List UInt8:=[52,52,52] ++ blksS p.2.m
def volV (p:Nat × Vl):List V:=[num p.1,num p.2.size,num p.2.m.length] ++ blksV p.2.m
def volsS (l:List (Nat × Vl)):List UInt8:=l.flatMap volS
def volsV (l:List (Nat × Vl)):List V:=l.flatMap volV
def devS (l:List (Nat × Vl)):List UInt8:=52 :: volsS l
def devV (l:List (Nat × Vl)):List V:=num l.length :: volsV l
structure Vl.Ok (v:Vl):Prop where
 size:v.size≤256
 ris:Ris v.m
 lt:∀ q∈v.m,q.1<v.size
 blk:∀ q∈v.m,q.2.length=256
structure DevOk (l:List (Nat × Vl)):Prop where
 ris:Ris l
 nat:∀ p∈l,1≤p.1∧p.1<4294967296
 vol:∀ p∈l,p.2.Ok
theorem ris_len_le {α:Type}:∀ {l:List (Nat × α)} {s:Nat} (b:Nat),Ris l→(∀ q∈l,b≤q.1∧q.1<s)→l.length≤s - b
 | [],s,b,_,_=>by simp
 | y :: r,s,b,h,hl=>by
  obtain ⟨h1,h2⟩:=List.pairwise_cons.1 h;have h3:=hl y (List.mem_cons_self ..);have:=ris_len_le (y.1+1) h2 (fun q hq=>⟨h1 q hq,(hl q (List.mem_cons_of_mem _ hq)).2⟩);simp only [List.length_cons];omega
theorem Vl.Ok.len {v:Vl} (h:v.Ok):v.m.length≤256:=by
 have:=ris_len_le 0 h.ris (fun q hq=>⟨Nat.zero_le _,h.lt q hq⟩);have:=h.size;omega
theorem lay_num4 {n:Nat} (h:n<4294967296):lay 52 (num n)=some (low n 4):=by
 unfold lay num;rw [if_pos rfl,if_pos]
 ·rfl
 ·exact ⟨rfl,h⟩
theorem lay_blk35 (b:List UInt8):lay 35 (blk b)=some b:=rfl
theorem pack_cons {c:UInt8} {s:List UInt8} {v:V} {l:List V} {a:List UInt8} (h:lay c v=some a):pack (c :: s) (v :: l)=(pack s l).map (a ++ ·):=by
 rw [pack,h];rfl
theorem pack_app:∀ {s1 s2:List UInt8} {l1 l2:List V} {a:List UInt8},pack s1 l1=some a→pack (s1 ++ s2) (l1 ++ l2)=(pack s2 l2).map (a ++ ·)
 | [],s2,[],l2,a,h=>by
  obtain rfl:a=[]:=by simpa [pack] using h.symm
  simp
 | [],s2,v :: l1,l2,a,h=>by simp [pack] at h
 | c :: s1,s2,[],l2,a,h=>by simp [pack] at h
 | c :: s1,s2,v :: l1,l2,a,h=>by
  rw [pack] at h;obtain ⟨x,hx,h⟩:=Option.bind_eq_some_iff.1 h;obtain ⟨y,hy,rfl⟩:=Option.map_eq_some_iff.1 h;rw [List.cons_append,List.cons_append,pack_cons hx,pack_app hy,Option.map_map]
  congr 1
  funext z
  simp [List.append_assoc]
theorem pack_blks:∀ (m:List (Nat × List UInt8)),(∀ q∈m,q.1<4294967296)→pack (blksS m) (blksV m)=some (blksB m)
 | [],_=>rfl
 | q :: m,h=>by
  have e1:blksS (q :: m)=[52,35] ++ blksS m:=rfl;have e2:blksV (q :: m)=[num q.1,blk q.2] ++ blksV m:=rfl;have e3:blksB (q :: m)=(low q.1 4 ++ q.2) ++ blksB m:=rfl;have h0:pack [52,35] [num q.1,blk q.2]=some (low q.1 4 ++ q.2):=by
   rw [pack_cons (lay_num4 (h q (List.mem_cons_self ..))),pack_cons (lay_blk35 q.2)]
   simp [pack]
  rw [e1,e2,e3,pack_app h0,pack_blks m (fun q hq=>h q (List.mem_cons_of_mem _ hq))]
  rfl
theorem pack_vol {p:Nat × Vl} (hn:p.1<4294967296) (hv:p.2.Ok):pack (volS p) (volV p)=some (volB p):=by
 have hs:=hv.size;have hl:=hv.len;have h0:pack [52,52,52] [num p.1,num p.2.size,num p.2.m.length]=some (low p.1 4 ++ low p.2.size 4 ++ low p.2.m.length 4):=by
  rw [pack_cons (lay_num4 hn),pack_cons (lay_num4 (by omega)),pack_cons (lay_num4 (by omega))]
  simp [pack]
 unfold volS volV volB;rw [pack_app h0,pack_blks _ (fun q hq=>by have:=hv.lt q hq;omega)]
 rfl
theorem pack_vols:∀ (l:List (Nat × Vl)),(∀ p∈l,p.1<4294967296∧p.2.Ok)→pack (volsS l) (volsV l)=some (volsB l)
 | [],_=>rfl
 | p :: l,h=>by
  have e1:volsS (p :: l)=volS p ++ volsS l:=rfl;have e2:volsV (p :: l)=volV p ++ volsV l:=rfl;have e3:volsB (p :: l)=volB p ++ volsB l:=rfl;obtain ⟨h1,h2⟩:=h p (List.mem_cons_self ..);rw [e1,e2,e3,pack_app (pack_vol h1 h2),pack_vols l (fun q hq=>h q (List.mem_cons_of_mem _ hq))]
  rfl
theorem pack_dev {l:List (Nat × Vl)} (h:DevOk l) (hl:l.length<4294967296):pack (devS l) (devV l)=some (devB l):=by
 unfold devS devV devB;rw [pack_cons (lay_num4 hl),pack_vols l (fun p hp=>⟨(h.nat p hp).2,h.vol p hp⟩)]
 rfl
end Go.Proofs.YthkmihedkddnmaaGreat
namespace Go.Proofs.YthkmihedkddnmaaGreat
open Go.RowKit Wire
def ofBlks:Nat→Nat→Int→List UInt8→Option (List (Nat × List UInt8) × List UInt8)
 | 0,_,_,b=>some ([],b)
 | k+1,size,last,b =>
  if b.length<260∨(sum (b.take 4):Int)≤last∨size≤sum (b.take 4) then none
  else (ofBlks k size (sum (b.take 4)) (b.drop 260)).map fun r=>((sum (b.take 4),(b.drop 4).take 256) :: r.1,r.2)
def ofVol (b:List UInt8):Option ((Nat × Vl) × List UInt8) :=
 if b.length<12∨256<sum ((b.drop 4).take 4) then none
 else (ofBlks (sum ((b.drop 8).take 4)) (sum ((b.drop 4).take 4)) (-1) (b.drop 12)).map fun r=>((sum (b.take 4),⟨sum ((b.drop 4).take 4),r.1⟩),r.2)
def ofVols:Nat→Nat→List UInt8→Option (List (Nat × Vl) × List UInt8)
 | 0,_,b=>some ([],b)
 | k+1,last,b=>(ofVol b).bind fun r=>if r.1.1≤last then none else (ofVols k r.1.1 r.2).map fun s=>(r.1 :: s.1,s.2)
def ofD (b:List UInt8):Option (List (Nat × Vl)) :=
 if b.length<4 then none else (ofVols (sum (b.take 4)) 0 (b.drop 4)).bind fun r=>if r.2=[] then some r.1 else none
theorem low_take {b:List UInt8} (h:4≤b.length):low (sum (b.take 4)) 4 ++ b.drop 4=b:=by
 have h1:(b.take 4).length=4:=by rw [List.length_take];omega
 have:=low_sum (b.take 4);rw [h1] at this;rw [this,List.take_append_drop]
theorem sum4_lt (b:List UInt8):sum (b.take 4)<4294967296:=by
 have h:=sum_lt (b.take 4);have h2:(b.take 4).length≤4:=by rw [List.length_take];omega
 have:256 ^ (b.take 4).length≤256 ^ 4:=Nat.pow_le_pow_right (by omega) h2;have e:(256:Nat) ^ 4=4294967296:=by decide
 omega
theorem blks_of (size:Nat) (hs:size≤256):∀ (k:Nat) (last:Int) (b:List UInt8) (r:List (Nat × List UInt8) × List UInt8),ofBlks k size last b=some r →
  Ris r.1∧(∀ q∈r.1,last<(q.1:Int)∧q.1<size∧q.2.length=256)∧blksB r.1 ++ r.2=b∧r.1.length=k
 | 0,last,b,r,h=>by
  obtain rfl:=Option.some.inj h;exact ⟨List.Pairwise.nil,fun q hq=>(by cases hq),rfl,rfl⟩
 | k+1,last,b,r,h=>by
  rw [ofBlks] at h
  split at h
  ·cases h
  ·rename_i hc
   obtain ⟨s,hs2,rfl⟩:=Option.map_eq_some_iff.1 h;obtain ⟨i1,i2,i3,i4⟩:=blks_of size hs k _ _ s hs2;have hb:260≤b.length:=by
    rcases Nat.lt_or_ge b.length 260 with h1 | h1
    ·exact absurd (.inl h1) hc
    ·exact h1
   have hlast:last<(sum (b.take 4):Int):=by
    rcases Int.lt_or_le last (sum (b.take 4)) with h1 | h1
    ·exact h1
    ·exact absurd (.inr (.inl h1)) hc
   have hsz:sum (b.take 4)<size:=by
    rcases Nat.lt_or_ge (sum (b.take 4)) size with h1 | h1
    ·exact h1
    ·exact absurd (.inr (.inr h1)) hc
   have hl:((b.drop 4).take 256).length=256:=by rw [List.length_take,List.length_drop];omega
   refine ⟨List.pairwise_cons.2 ⟨fun q hq=>by have:=(i2 q hq).1;omega,i1⟩,fun q hq => ?_,?_,by simp only [List.length_cons,i4]⟩
   ·rcases List.mem_cons.1 hq with rfl | hq
    ·exact ⟨hlast,hsz,hl⟩
    ·have:=i2 q hq
     exact ⟨by omega,this.2⟩
   ·show (low (sum (b.take 4)) 4 ++ (b.drop 4).take 256 ++ blksB s.1) ++ s.2=b
    rw [List.append_assoc,List.append_assoc,i3];have e:(b.drop 4).take 256 ++ b.drop 260=b.drop 4:=by
     rw [show (260:Nat)=4+256 from rfl,← List.drop_drop,List.take_append_drop]
    rw [e,low_take (by omega)]
theorem vol_of {b:List UInt8} {r:(Nat × Vl) × List UInt8} (h:ofVol b=some r):r.1.2.Ok∧volB r.1 ++ r.2=b∧r.1.1<4294967296:=by
 unfold ofVol at h
 split at h
 ·cases h
 ·rename_i hc
  obtain ⟨s,hs,rfl⟩:=Option.map_eq_some_iff.1 h;have hb:12≤b.length:=by
   rcases Nat.lt_or_ge b.length 12 with h1 | h1
   ·exact absurd (.inl h1) hc
   ·exact h1
  have hz:sum ((b.drop 4).take 4)≤256:=by
   rcases Nat.lt_or_ge 256 (sum ((b.drop 4).take 4)) with h1 | h1
   ·exact absurd (.inr h1) hc
   ·exact h1
  obtain ⟨i1,i2,i3,i4⟩:=blks_of _ hz _ _ _ s hs;refine ⟨⟨hz,i1,fun q hq=>(i2 q hq).2.1,fun q hq=>(i2 q hq).2.2⟩,?_,sum4_lt b⟩
  show (low (sum (b.take 4)) 4 ++ low (sum ((b.drop 4).take 4)) 4 ++ low s.1.length 4 ++ blksB s.1) ++ s.2=b
  rw [List.append_assoc,i3,i4,List.append_assoc,List.append_assoc];have e1:low (sum ((b.drop 8).take 4)) 4 ++ b.drop 12=b.drop 8:=by
   have:=low_take (b:=b.drop 8) (by rw [List.length_drop];omega)
   rwa [List.drop_drop] at this
  have e2:low (sum ((b.drop 4).take 4)) 4 ++ b.drop 8=b.drop 4:=by
   have:=low_take (b:=b.drop 4) (by rw [List.length_drop];omega)
   rwa [List.drop_drop] at this
  rw [e1,e2,low_take (by omega)]
theorem vols_of:∀ (k last:Nat) (b:List UInt8) (r:List (Nat × Vl) × List UInt8),ofVols k last b=some r →
  Ris r.1∧(∀ p∈r.1,last<p.1∧p.1<4294967296∧p.2.Ok)∧volsB r.1 ++ r.2=b∧r.1.length=k
 | 0,last,b,r,h=>by
  obtain rfl:=Option.some.inj h;exact ⟨List.Pairwise.nil,fun q hq=>(by cases hq),rfl,rfl⟩
 | k+1,last,b,r,h=>by
  rw [ofVols] at h;obtain ⟨v,hv,h⟩:=Option.bind_eq_some_iff.1 h
  split at h
  ·cases h
  ·rename_i hc
   obtain ⟨s,hs,rfl⟩:=Option.map_eq_some_iff.1 h;obtain ⟨i1,i2,i3,i4⟩:=vols_of k _ _ s hs;obtain ⟨v1,v2,v3⟩:=vol_of hv;refine ⟨List.pairwise_cons.2 ⟨fun q hq=>(i2 q hq).1,i1⟩,fun q hq => ?_,?_,by simp only [List.length_cons,i4]⟩
   ·rcases List.mem_cons.1 hq with rfl | hq
    ·exact ⟨by omega,v3,v1⟩
    ·have:=i2 q hq
     exact ⟨by omega,this.2⟩
   ·show (volB v.1 ++ volsB s.1) ++ s.2=b
    rw [List.append_assoc,i3,v2]
theorem dev_of {b:List UInt8} {l:List (Nat × Vl)} (h:ofD b=some l):DevOk l∧devB l=b:=by
 unfold ofD at h
 split at h
 ·cases h
 ·rename_i hc
  obtain ⟨r,hr,h⟩:=Option.bind_eq_some_iff.1 h
  split at h
  ·rename_i he
   obtain rfl:=Option.some.inj h;obtain ⟨i1,i2,i3,i4⟩:=vols_of _ _ _ r hr;refine ⟨⟨i1,fun p hp=>⟨by have:=(i2 p hp).1;omega,(i2 p hp).2.1⟩,fun p hp=>(i2 p hp).2.2⟩,?_⟩;unfold devB;rw [i4];rw [he,List.append_nil] at i3;rw [i3,low_take (by omega)]
  ·cases h
end Go.Proofs.YthkmihedkddnmaaGreat
namespace Go.Proofs.YthkmihedkddnmaaGreat
open Go.RowKit
def pM (a c:Nat):Nat:=if c=0 then 0 else (a+c+3) / 4 - a / 4
def pBlk (a i:Nat):Nat:=a / 4+i
def pFrom (a i:Nat):Nat:=a - 4 * (a / 4+i)
def pTo (a c i:Nat):Nat:=min 4 (a+c - 4 * (a / 4+i))
def pDone (a c i:Nat):Nat:=min c (4 * (a / 4+i) - a)
structure PSpan where
 blk:Nat
 lo:Nat
 hi:Nat
deriving DecidableEq
def pSpan (a c i:Nat):PSpan:=⟨pBlk a i,pFrom a i,pTo a c i⟩
def pItem (a c i:Nat):Nat × PSpan:=(pDone a c i,pSpan a c i)
def pItems (a c:Nat):List (Nat × PSpan):=(List.range (pM a c)).map (pItem a c)
def pSpans (a c:Nat):List PSpan:=(List.range (pM a c)).map (pSpan a c)
theorem pDone_lt {a c i:Nat} (hc:1≤c):pDone a c i<c ↔ i<pM a c:=by
 unfold pDone pM;split <;> omega
theorem pAt {a c i:Nat} (hi:i<pM a c):a+pDone a c i=4 * (a / 4+i)+pFrom a i:=by
 unfold pDone pFrom pM at *;split at hi <;> omega
theorem pFrom_lt (a i:Nat):pFrom a i<4:=by unfold pFrom;omega
theorem pTo_le {a c i:Nat}:pTo a c i≤4:=by unfold pTo;omega
theorem pFrom_lt_pTo {a c i:Nat} (hi:i<pM a c):pFrom a i<pTo a c i:=by unfold pFrom pTo pM at *;split at hi <;> omega
theorem pDone_succ {a c i:Nat} (hi:i<pM a c):pDone a c i+(pTo a c i - pFrom a i)=pDone a c (i+1):=by
 unfold pDone pTo pFrom pM at *;split at hi <;> omega
theorem pDone_zero (a c:Nat):pDone a c 0=0:=by unfold pDone;omega
theorem pDone_le {a c i:Nat}:pDone a c i≤c:=by unfold pDone;omega
theorem pM_le {a c:Nat}:pM a c≤c:=by unfold pM;split <;> omega
theorem pM_pos {a c:Nat} (h:1≤c):1≤pM a c:=by unfold pM;split <;> omega
theorem pItems_take_succ {a c i:Nat} (hi:i<pM a c):(pItems a c).take i ++ [pItem a c i]=(pItems a c).take (i+1):=by
 have:(pItems a c)[i]? = some (pItem a c i):=by simp [pItems,hi]
 rw [List.take_add_one,this];rfl
theorem pItems_len (a c:Nat):(pItems a c).length=pM a c:=by simp [pItems]
end Go.Proofs.YthkmihedkddnmaaGreat
namespace Go.Proofs.YthkmihedkddnmaaGreat
open Lib (hid)
open Go.RowKit Go.Shelf
attribute [local go_sem] Oper.semAt_some
def spanV (s:PSpan):Value:=.agg #[.int .i64 s.blk,.int .i64 s.lo,.int .i64 s.hi]
def itemVs (x:Nat × PSpan):Array Value:=#[.int .i64 x.1,spanV x.2]
theorem over_stops (F:Fence) (n:Nat) (h90:F.fn 102) (hro:F.round=none) (hn:1≤n) (Ba:Nat) (a c:Nat) (ha:a+c≤1073741824) (hc:1≤c) (w:World) (hBn:Ba+1<w.heap.size)
  (Fp:World→Nat→Prop) (hF1:∀ (W:World) (o:Obj) k,w.heap.size≤W.heap.size→Fp (W.alloc o) k→Fp W k)
  (hF0:∀ W,Below w.heap.size w W→(∀ k,Fp W k→k<W.heap.size) ∧ ¬ Fp W Ba ∧ ¬ Fp W (Ba+1))
  (hca:w.cell? ⟨Ba,0,none⟩=some (.int .i64 a)) (hcc:w.cell? ⟨Ba+1,0,none⟩=some (.int .i64 c)) :
  SeqStopsK F n Tryz.prog 102 #[.pointer (some ⟨Ba,0,none⟩),.pointer (some ⟨Ba+1,0,none⟩)] itemVs (KpF Fp) (fun ys=>ys=pItems a c) (fun pre=>pre <+: pItems a c) (pM a c) w:=by
 intro l J Jx W hW hJ hJx hY h0;obtain ⟨hgood,hnb,hnb1⟩:=hF0 W hW;have hca':W.cell? ⟨Ba,0,none⟩=some (.int .i64 a):=(hW.cell (p:=⟨Ba,0,none⟩) (by simp;omega)).trans hca;have hcc':W.cell? ⟨Ba+1,0,none⟩=some (.int .i64 c):=(hW.cell (p:=⟨Ba+1,0,none⟩) (by simp;omega)).trans hcc;have hWs:=hW.size;refine callsIn_of_wp Tryz.func102 rfl h90 ?_ hro
 simp only [Tryz.ntmps102,List.size_toArray,List.length_cons,List.length_nil,Nat.reduceAdd,Nat.reduceSub,Array.replicate_succ,Array.replicate_zero,List.push_toArray,List.append_toArray,List.nil_append,List.cons_append]
 gi_wp2
 gi_loopw [4,5,6] (fun d _ _ wr=>∃ i:Nat,i≤pM a c∧d = .int .i64 (pDone a c i)∧J ((pItems a c).take i) wr∧KpF Fp W wr)
  (fun d _ _ _=>c - (intOf d).toNat)
 case atStart =>
  exact ⟨0,Nat.zero_le _,by rw [pDone_zero];rfl,by simpa using h0,KpF.refl _ _⟩
 case round =>
  obtain ⟨i,hi,rfl,hJs,hbw⟩:=hrel;have hca2:wr.cell? ⟨Ba,0,none⟩=some (.int .i64 a):=hbw.cell hca' hnb;have hcc2:wr.cell? ⟨Ba+1,0,none⟩=some (.int .i64 c):=hbw.cell hcc' hnb1;have hwr:=hbw.size;have hdl := @pDone_le a c i
  by_cases hlt:i<pM a c
  ·have hd:(pDone a c i:Int)<c:=by have:=(pDone_lt (a:=a) (i:=i) hc).2 hlt;omega
   have hat:=pAt hlt;have hf4:=pFrom_lt a i;have hq:((a:Int)+pDone a c i) / 4=pBlk a i:=by unfold pBlk;omega
   have hr:((a:Int)+pDone a c i) % 4=pFrom a i:=by omega
   have hft:=pFrom_lt_pTo hlt;have ht4 := @pTo_le a c i;have HS:=hid (pDone_succ hlt);have HA:=hid hat;have HL:=hid (pItems_take_succ hlt);clear hat;have hJ2:=hJ _ _ _ none hJs (World.grownBy_alloc wr (.cells #[.int .i64 (pBlk a i),.int .i64 (pFrom a i),.int .i64 (pTo a c i)] 100) none) (fun r e=>by cases e);obtain ⟨fn,tmps,assign,body,hy,hR⟩:=hY _ (pItem a c i) _ hJ2 (by simp [pItems_len];omega);dsimp only [itemVs,spanV,pItem,pSpan] at hy;clear hJ2 hY
   by_cases hmin:(4:Int)≤pFrom a i+c - pDone a c i
   ·have hmn:min (4:Int) ((pFrom a i:Int)+c - pDone a c i)=4:=by omega
    have hto:(pTo a c i:Int)=4:=by have h:=HA.out;unfold pTo;omega
    have hkw:=KpF.alloc hbw (.cells #[.int .i64 (pBlk a i),.int .i64 (pFrom a i),.int .i64 (pTo a c i)] 100) (fun k hk=>hF1 wr _ k (by omega) hk);have hnf : ¬ Fp (wr.alloc (.cells #[.int .i64 (pBlk a i),.int .i64 (pFrom a i),.int .i64 (pTo a c i)] 100)) wr.heap.size:=fun hf=>by
     have:=hbw.good hgood _ (hF1 wr _ _ (by omega) hf);omega
    rw [hto] at hy hR hkw hnf;have HT:=hid hto;clear hto
    gi_wp2
    refine hR.mono ?_;rintro e W3 (⟨rfl,hJ3,hk3⟩ | ⟨rfl,hx3⟩)
    ·have hsz:=hk3.size
     have c1:W3.cell? ⟨wr.heap.size,1,none⟩=some (.int .i64 (pFrom a i)):=hk3.cell (by simp) hnf;have c2:=hk3.cell (a:=⟨wr.heap.size,2,none⟩) (by simp;rfl) hnf;have hk4:=hkw.trans hk3;rw [HL.out] at hJ3;clear hy hR hkw hnf hk3 hJs hbw
     gi_wp2
     go_roundw
     case rel =>
      refine ⟨i+1,by omega,?_,hJ3,hk4⟩;have h1:=HS.out;have h2:=HT.out
      go_num
     case measure=>have h1:=HS.out;have h2:=HT.out;simp [intOf];omega
    ·gi_wp2
     refine bodyPost_ret (results_none rfl _ _ _) rfl ?_;exact ⟨⟨_,rfl⟩,.inr ⟨_,by rw [HL.out];exact List.take_prefix _ _,hx3⟩⟩
   ·have hmn:min (4:Int) ((pFrom a i:Int)+c - pDone a c i)=(pFrom a i:Int)+c - pDone a c i:=by omega
    have hto:(pTo a c i:Int)=(pFrom a i:Int)+(c:Int) - (pDone a c i:Int):=by have h:=HA.out;unfold pTo;omega
    have hkw:=KpF.alloc hbw (.cells #[.int .i64 (pBlk a i),.int .i64 (pFrom a i),.int .i64 (pTo a c i)] 100) (fun k hk=>hF1 wr _ k (by omega) hk);have hnf : ¬ Fp (wr.alloc (.cells #[.int .i64 (pBlk a i),.int .i64 (pFrom a i),.int .i64 (pTo a c i)] 100)) wr.heap.size:=fun hf=>by
     have:=hbw.good hgood _ (hF1 wr _ _ (by omega) hf);omega
    rw [hto] at hy hR hkw hnf;have HT:=hid hto;clear hto
    gi_wp2
    refine hR.mono ?_;rintro e W3 (⟨rfl,hJ3,hk3⟩ | ⟨rfl,hx3⟩)
    ·have hsz:=hk3.size
     have c1:W3.cell? ⟨wr.heap.size,1,none⟩=some (.int .i64 (pFrom a i)):=hk3.cell (by simp) hnf;have c2:=hk3.cell (a:=⟨wr.heap.size,2,none⟩) (by simp;rfl) hnf;have hk4:=hkw.trans hk3;rw [HL.out] at hJ3;clear hy hR hkw hnf hk3 hJs hbw
     gi_wp2
     go_roundw
     case rel =>
      refine ⟨i+1,by omega,?_,hJ3,hk4⟩;have h1:=HS.out;have h2:=HT.out
      go_num
     case measure=>have h1:=HS.out;have h2:=HT.out;simp [intOf];omega
    ·gi_wp2
     refine bodyPost_ret (results_none rfl _ _ _) rfl ?_;exact ⟨⟨_,rfl⟩,.inr ⟨_,by rw [HL.out];exact List.take_prefix _ _,hx3⟩⟩
  ·have hd : ¬ (pDone a c i:Int)<c:=by have:=(pDone_lt (a:=a) (i:=i) hc).1;omega
   gi_wp2
   go_end0
   obtain rfl:i=pM a c:=by omega
   refine ⟨⟨_,rfl⟩,.inl ?_⟩;rw [← pItems_len,List.take_length] at hJs;exact hJs
end Go.Proofs.YthkmihedkddnmaaGreat
namespace Go.Proofs.YthkmihedkddnmaaGreat
open Lib (hid)
open Go.RowKit Go.Shelf
attribute [local go_sem] Oper.semAt_some
def pOk (a c:Int):Bool:=decide (0≤a) && decide (1≤c) && decide (c≤1073741824) && decide (a≤1073741824 - c)
def pItemsI (a c:Int):List (Nat × PSpan):=if pOk a c=true then pItems a.toNat c.toNat else []
def pSpansI (a c:Int):List PSpan:=if pOk a c=true then pSpans a.toNat c.toNat else []
theorem over_any (a c:Int) (w:World):Calls Tryz.prog 77 #[.int .i64 a,.int .i64 c] w fun e w' =>
  e = .returned (.func (.func 102) #[] #[.pointer (some ⟨w.heap.size,0,none⟩),.pointer (some ⟨w.heap.size+1,0,none⟩)])∧(w.alloc (.cells #[.int .i64 a] 3)).alloc (.cells #[.int .i64 c] 3)=w':=by
 go_enter Tryz.func77,Tryz.ntmps77
 go_wp2;go_ret;exact ⟨rfl,rfl⟩
theorem over_none (F:Fence) (n:Nat) (h90:F.fn 102) (hro:F.round=none) (hn:1≤n) (Ba:Nat) (a c:Int) (hc0 : -9223372036854775808≤c) (ho:pOk a c=false) (w:World) (hBn:Ba+1<w.heap.size)
  (Fp:World→Nat→Prop)
  (hca:w.cell? ⟨Ba,0,none⟩=some (.int .i64 a)) (hcc:w.cell? ⟨Ba+1,0,none⟩=some (.int .i64 c)) :
  SeqStopsK F n Tryz.prog 102 #[.pointer (some ⟨Ba,0,none⟩),.pointer (some ⟨Ba+1,0,none⟩)] itemVs (KpF Fp) (fun ys=>ys=[]) (fun pre=>pre <+: []) 0 w:=by
 intro l J Jx W hW hJ hJx hY h0;have hca':W.cell? ⟨Ba,0,none⟩=some (.int .i64 a):=(hW.cell (p:=⟨Ba,0,none⟩) (by simp;omega)).trans hca;have hcc':W.cell? ⟨Ba+1,0,none⟩=some (.int .i64 c):=(hW.cell (p:=⟨Ba+1,0,none⟩) (by simp;omega)).trans hcc;clear hca hcc hY;have HJ:=hid h0;clear h0;simp only [pOk,Bool.and_eq_false_iff,decide_eq_false_iff_not] at ho;refine callsIn_of_wp Tryz.func102 rfl h90 ?_ hro
 simp only [Tryz.ntmps102,List.size_toArray,List.length_cons,List.length_nil,Nat.reduceAdd,Nat.reduceSub,Array.replicate_succ,Array.replicate_zero,List.push_toArray,List.append_toArray,List.nil_append,List.cons_append]
 by_cases h1:a<0
 ·clear ho
  gi_wp2
  refine bodyPost_ret (results_none rfl _ _ _) rfl ?_;exact ⟨⟨_,rfl⟩,.inl (by simpa using HJ.out)⟩
 ·by_cases h2:c<1
  ·clear ho
   gi_wp2
   refine bodyPost_ret (results_none rfl _ _ _) rfl ?_;exact ⟨⟨_,rfl⟩,.inl (by simpa using HJ.out)⟩
  ·by_cases h3:1073741824<c
   ·clear ho
    gi_wp2
    refine bodyPost_ret (results_none rfl _ _ _) rfl ?_;exact ⟨⟨_,rfl⟩,.inl (by simpa using HJ.out)⟩
   ·have h4:1073741824 - c<a:=by omega
    clear ho
    gi_wp2
    refine bodyPost_ret (results_none rfl _ _ _) rfl ?_;exact ⟨⟨_,rfl⟩,.inl (by simpa using HJ.out)⟩
theorem overI_stops (F:Fence) (n:Nat) (h90:F.fn 102) (hro:F.round=none) (hn:1≤n) (Ba:Nat) (a c:Int) (hc0 : -9223372036854775808≤c) (w:World) (hBn:Ba+1<w.heap.size)
  (Fp:World→Nat→Prop) (hF1:∀ (W:World) (o:Obj) k,w.heap.size≤W.heap.size→Fp (W.alloc o) k→Fp W k)
  (hF0:∀ W,Below w.heap.size w W→(∀ k,Fp W k→k<W.heap.size) ∧ ¬ Fp W Ba ∧ ¬ Fp W (Ba+1))
  (hca:w.cell? ⟨Ba,0,none⟩=some (.int .i64 a)) (hcc:w.cell? ⟨Ba+1,0,none⟩=some (.int .i64 c)) :
  SeqStopsK F n Tryz.prog 102 #[.pointer (some ⟨Ba,0,none⟩),.pointer (some ⟨Ba+1,0,none⟩)] itemVs (KpF Fp) (fun ys=>ys=pItemsI a c) (fun pre=>pre <+: pItemsI a c) (pItemsI a c).length w:=by
 by_cases ho:pOk a c=true
 ·have hb:=ho
  simp only [pOk,Bool.and_eq_true,decide_eq_true_eq] at hb;obtain ⟨a',rfl⟩:=Int.eq_ofNat_of_zero_le hb.1.1.1;obtain ⟨c',rfl⟩:=Int.eq_ofNat_of_zero_le (show 0≤c by omega);have:=over_stops F n h90 hro hn Ba a' c' (by omega) (by omega) w hBn Fp hF1 hF0 hca hcc;simp only [pItemsI,ho,if_true,Int.toNat_natCast,pItems_len];exact this
 ·have ho':pOk a c=false:=by simpa using ho
  have:=over_none F n h90 hro hn Ba a c hc0 ho' w hBn Fp hca hcc;simp only [pItemsI,ho',Bool.false_eq_true,if_false,List.length_nil];exact this
end Go.Proofs.YthkmihedkddnmaaGreat
namespace Go.Proofs.YthkmihedkddnmaaGreat
open Go.RowKit Go.Shelf
attribute [local go_sem] Oper.semAt_some
theorem over_in (F:Fence) (n:Nat) (h65:F.fn 77) (hro:F.round=none) (a c:Int) (w:World):CallsIn F n Tryz.prog 77 #[.int .i64 a,.int .i64 c] w fun e w' =>
  e = .returned (.func (.func 102) #[] #[.pointer (some ⟨w.heap.size,0,none⟩),.pointer (some ⟨w.heap.size+1,0,none⟩)])∧(w.alloc (.cells #[.int .i64 a] 3)).alloc (.cells #[.int .i64 c] 3)=w':=by
 refine callsIn_of_wp Tryz.func77 rfl h65 ?_ hro;simp only [Tryz.ntmps77,List.size_toArray,List.length_cons,List.length_nil,Nat.reduceAdd,Nat.reduceSub,Array.replicate_succ,Array.replicate_zero,List.push_toArray,List.append_toArray,List.nil_append,List.cons_append]
 gi_wp2
 go_ret;exact ⟨rfl,rfl⟩
theorem pItemsI_len_le (a c:Int):(pItemsI a c).length≤1073741824:=by
 unfold pItemsI
 split
 ·rename_i h
  simp only [pOk,Bool.and_eq_true,decide_eq_true_eq] at h;rw [pItems_len];have := @pM_le a.toNat c.toNat;omega
 ·simp
end Go.Proofs.YthkmihedkddnmaaGreat
namespace Go.Proofs.YthkmihedkddnmaaGreat
open Go.RowKit Go.Shelf
attribute [local go_sem] Oper.semAt_some
def spanCells (s:PSpan):List Value:=[.int .i64 s.blk,.int .i64 s.lo,.int .i64 s.hi]
def spansCells (l:List PSpan):List Value:=l.flatMap spanCells
theorem spansCells_snoc (l:List PSpan) (s:PSpan):spansCells (l ++ [s])=spansCells l ++ spanCells s:=by simp [spansCells]
theorem infoSpan:(Tryz.prog.info? 100).map (fun i=>(i.zero,i.size,i.bytes))=some (some (.agg #[.int .i64 0,.int .i64 0,.int .i64 0]),3,24):=by kernel_rfl
theorem partSplit_in (a c:Int) (hc0 : -9223372036854775808≤c) (w:World) :
  CallsIn Fence.wide 5 Tryz.prog 74 #[.int .i64 a,.int .i64 c] w fun e w'=>∃ v,e = .returned v ∧
   w'.ownsRow w.heap.size 100 3 v (pItemsI a c).length (spansCells ((pItemsI a c).map (·.2)))∧Below w.heap.size w w':=by
 have hro:Fence.wide.round=none:=rfl;have h1:1≤5:=by omega
 refine callsIn_of_wp_marks Tryz.func74 rfl trivial ?_ hro;simp only [Tryz.ntmps74,List.size_toArray,List.length_cons,List.length_nil,Nat.reduceAdd,Nat.reduceSub,Array.replicate_succ,Array.replicate_zero,List.push_toArray,List.append_toArray,List.nil_append,List.cons_append]
 gi_wp2_with (refine ⟨trivial,?_⟩;gi_at_call 77;refine (over_in _ _ trivial hro _ _ _).mono ?_;rintro e w' ⟨rfl,rfl⟩)
 have b0:=Boxed.new w 97 (.slice none 0 0);have c1:=newCell (w.alloc (.cells #[.slice none 0 0] 97)) (.int .i64 a) 3;have c2:=newCell ((w.alloc (.cells #[.slice none 0 0] 97)).alloc (.cells #[.int .i64 a] 3)) (.int .i64 c) 3;simp only [World.size_alloc] at c1 c2;have b2:=(b0.alloc (.cells #[.int .i64 a] 3)).alloc (.cells #[.int .i64 c] 3);have hB0:Below w.heap.size w (((w.alloc (.cells #[.slice none 0 0] 97)).alloc (.cells #[.int .i64 a] 3)).alloc (.cells #[.int .i64 c] 3)):=balloc (balloc (balloc (Below.refl _ _) _) _) _
 have hlen:(pItemsI a c).length≤1073741824:=pItemsI_len_le a c;refine wpIn_rangeFunc_ownH hro h1 (gf:=102) (lb:=#[.pointer (some ⟨w.heap.size+1,0,none⟩),.pointer (some ⟨w.heap.size+1+1,0,none⟩)]) rfl trivial (enters_of Tryz.func102 (by kernel_rfl) rfl)
  (overI_stops Fence.wide (5 - 1) trivial hro (by omega) (w.heap.size+1) a c hc0 _ (by simp) (FpOut w.heap.size) (fun W o k hW h=>FpOut.alloc (by simp at hW;omega) o h)
   (fun W hW=>⟨fun k hk=>by have h1:=FpOut.start (by simp;omega) b2.cell W hW hk;have:=hW.size;simp at this;omega,
    fun hk=>by have h1:=FpOut.start (by simp;omega) b2.cell W hW hk;omega,fun hk=>by have h1:=FpOut.start (by simp;omega) b2.cell W hW hk;omega⟩) (cellAlloc _ c1.1) c2.1)
  KpF.trans (KpF.put (FpOut.put (by simp;omega))) (Below.refl _ _) (fun _=>rfl)
  (fun pre W=>(∃ v,Boxed W w.heap.size 97 v∧W.ownsRow w.heap.size 100 3 v pre.length (spansCells (pre.map (·.2)))∧True)∧Below w.heap.size w W)
  (fun _ _ _=>False)
  (OwnFrom.and (Own.from (holdsRow_own w.heap.size w.heap.size 97 100 3 (fun pre:List (Nat × PSpan)=>pre.length) (fun pre=>spansCells (pre.map (·.2))) (fun _ _=>True)) _) (ownFrom_below (Nat.le_refl _) (by simp;omega)))
  (fun _ _ _ _ _ hs _ _=>hs)
  ⟨⟨_,b2,World.ownsRow_nil _ _ _ _,trivial⟩,hB0⟩
  (fun x a' W=>∃ Bs,w.heap.size<Bs∧W.heap[Bs]? = some (.cells #[.int .i64 x.2.blk,.int .i64 x.2.lo,.int .i64 x.2.hi] 100 (0,0))∧a'={ tmps:=#[.int .i64 a,.int .i64 c,undef,undef,.slice none 0 0,.pointer (some ⟨w.heap.size,0,none⟩),undef,.pointer (some ⟨Bs,0,none⟩),.int .i64 a,.int .i64 c,.func (.func 102) #[] #[.pointer (some ⟨w.heap.size+1,0,none⟩),.pointer (some ⟨w.heap.size+1+1,0,none⟩)],.int .i64 x.1,spanV x.2,undef,undef,undef,undef,undef],defers:=[] })
  (fun x a' _ A B row hs hg hr=>by
   obtain ⟨Bs,h1,h2,h3⟩:=hs;exact ⟨Bs,h1,rowKept h2 hg (fun r e=>(hr r e).2),h3⟩) ?assign ?body ?done ?stop
 case assign =>
  rintro l pre x W K ⟨⟨v,hv,hrow,_⟩,hB⟩ hK;have hlt:=hv.lt;have hsz:=hB.size
  simp [itemVs,spanV]
  gi_wp2
  exact hK _ _ ((KeepsOthers.alloc _ _).from _) (KpF.alloc (KpF.refl _ _) _ (fun k h=>FpOut.alloc hlt _ h)) ⟨⟨v,hv.alloc _,hrow.alloc _,trivial⟩,balloc hB _⟩ ⟨W.heap.size,hlt,heap_alloc_new W _,rfl⟩
 case body =>
  rintro l pre x a' W hl ⟨r,hr⟩ ⟨⟨v,hv,hrow,_⟩,hB⟩ ⟨Bs,hBs,hs,rfl⟩ hlt;have hvc:=hv.cell;have hvf:=hv.frozen;have s0:W.cell? ⟨Bs,0,none⟩=some (.int .i64 x.2.blk):=by rw [cell_of_row W Bs 0 _ _ _ hs];rfl
  have s1:W.cell? ⟨Bs,1,none⟩=some (.int .i64 x.2.lo):=by rw [cell_of_row W Bs 1 _ _ _ hs];rfl
  have s2:W.cell? ⟨Bs,2,none⟩=some (.int .i64 x.2.hi):=by rw [cell_of_row W Bs 2 _ _ _ hs];rfl
  have hsz:=hB.size
  gi_wp2_with (gi_at_builtin;go_must (refine wpListIn_app rfl _ _ 97 rfl w.heap.size 100 _ 3 24 Tryz.underlying97 infoSpan rfl (by decide) (by decide) _ _ _ rfl hrow rfl rfl (by simp [Value.oneCell']) (by omega) hsz ?_);intro v' w1 ho1 hg1 hsn hne;obtain ⟨g',cap',rfl⟩:=ownsRow_succ ho1;obtain ⟨hv1,hv2,hr2,hk2,hb2⟩:=hv.appended (by decide) hrow hB.size (Nat.le_refl _) ho1 hg1;have hkp:=KpF.appended hv (by decide) hrow hg1 hsn ho1;have hc1:=hv1.cell;have hf1:=hv1.frozen)
  refine ⟨hk2.from _,hkp,⟨_,hv2,?_⟩,hB.trans hb2⟩;rw [List.map_append,List.map_cons,List.map_nil,spansCells_snoc,List.length_append];exact hr2
 case done =>
  rintro D ys W hD rfl ⟨⟨v,hv,hrow,_⟩,hB⟩ hK;have hvc:=hv.cell
  gi_wp2
  refine ⟨by simp,.inl ⟨_,_,rfl,run_takeDeferred hK,?_⟩⟩;exact ⟨_,results_tmp rfl _ _ _,v,rfl,ownsRow_putObj hrow _ hK rfl,hB.trans (belowK_b (w:=w) (Nat.le_refl _) W D _ _ (by simp at hD;omega) hK rfl rfl)⟩
 case stop =>
  rintro D c pre W _ _ h _;exact h.elim
end Go.Proofs.YthkmihedkddnmaaGreat
namespace Go.Proofs.YthkmihedkddnmaaGreat
open Go.RowKit
theorem spansCells_get {l:List PSpan} {k:Nat} {s:PSpan} (h:l[k]? = some s):(spansCells l)[k * 3]? = some (.int .i64 s.blk)∧(spansCells l)[k * 3+1]? = some (.int .i64 s.lo)∧(spansCells l)[k * 3+2]? = some (.int .i64 s.hi):=by
 induction l generalizing k with
 | nil=>simp at h
 | cons t l ih =>
  cases k with
  | zero =>
   simp at h;subst h
   simp [spansCells,spanCells]
  | succ k =>
   simp at h
   have:=ih h;have e0:(k+1) * 3=3+k * 3:=by omega
   have e1:(k+1) * 3+1=3+(k * 3+1):=by omega
   have e2:(k+1) * 3+2=3+(k * 3+2):=by omega
   have g:∀ j,(spansCells (t :: l))[3+j]? = (spansCells l)[j]?:=by
    intro j;simp only [spansCells,List.flatMap_cons];rw [List.getElem?_append_right (by simp [spanCells])]
    simp [spanCells]
   rw [e1,e2,e0,g,g,g];exact this
theorem rd_span {w:World} {ao:Option Addr} {l:List PSpan} (hc:∀ j u,(spansCells l)[j]? = some u→∃ b off,ao=some ⟨b,off,none⟩∧b<w.heap.size∧w.cell? ⟨b,off+j,none⟩=some u) {k:Nat} {s:PSpan} (h:l[k]? = some s) :
  ∃ b off,ao=some ⟨b,off,none⟩∧b<w.heap.size∧w.cell? ⟨b,off+k * 3,none⟩=some (.int .i64 s.blk)∧w.cell? ⟨b,off+k * 3+1,none⟩=some (.int .i64 s.lo)∧w.cell? ⟨b,off+k * 3+2,none⟩=some (.int .i64 s.hi):=by
 obtain ⟨h0,h1,h2⟩:=spansCells_get h;obtain ⟨b,off,e0,hb,c0⟩:=hc _ _ h0;obtain ⟨b1,off1,e1,_,c1⟩:=hc _ _ h1;obtain ⟨b2,off2,e2,_,c2⟩:=hc _ _ h2;subst e0;obtain ⟨rfl,rfl⟩:b=b1∧off=off1:=by simpa using e1
 obtain ⟨rfl,rfl⟩:b=b2∧off=off2:=by simpa using e2
 exact ⟨b,off,rfl,hb,c0,c1,c2⟩
end Go.Proofs.YthkmihedkddnmaaGreat
namespace Go.Proofs.YthkmihedkddnmaaGreat
open Go.RowKit
theorem pSpans_len (a c:Nat):(pSpans a c).length=pM a c:=by simp [pSpans]
end Go.Proofs.YthkmihedkddnmaaGreat
