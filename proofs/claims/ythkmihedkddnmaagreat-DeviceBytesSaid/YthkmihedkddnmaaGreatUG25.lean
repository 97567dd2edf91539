import Derived.Test.YthkmihedkddnmaaGreatUG24
import Derived.Test.YthkmihedkddnmaaGreatUG5
import Derived.Test.YthkmihedkddnmaaGreatUG2
import Derived.Test.YthkmihedkddnmaaGreatUG6
import Derived.Test.YthkmihedkddnmaaGreatUG1
import Derived.Test.YthkmihedkddnmaaGreatUG3
import Derived.Test.YthkmihedkddnmaaGreatUG20
set_option linter.unusedVariables false
set_option linter.unusedSimpArgs false
set_option maxHeartbeats 6400000
set_option maxRecDepth 100000
namespace Go.Proofs.YthkmihedkddnmaaGreat
open Lib (hid)
open Go.RowKit Wire Cmd
structure RVolAt (n0:Nat) (w:World) (g o:Nat) (v:Value) (m:List (Nat × List UInt8)):Prop where
 cell:w.cell? ⟨g,o+2,none⟩=some v
 row:w.ownsRow n0 107 257 v m.length (rblkC m)
 lt:g<w.heap.size
theorem RVolAt.below {n0:Nat} {w w':World} {g o:Nat} {v:Value} {m:List (Nat × List UInt8)} (h:RVolAt n0 w g o v m) (hb:Below w.heap.size w w'):RVolAt n0 w' g o v m :=
 ⟨(hb.cell (p:=⟨g,o+2,none⟩) h.lt).trans h.cell,ownsRow_below h.row hb,Nat.lt_of_lt_of_le h.lt hb.size⟩
theorem getA_found {α:Type} {m:List (Nat × α)} (hr:Ris m) {j k:Nat} {q:Nat × α} (hq:m[j]? = some q) (he:q.1=k):getA k m=some q.2:=by rw [← he];exact getA_at hr hq
theorem getA_nowhere {α:Type} {m:List (Nat × α)} {k:Nat} (h:∀ (j:Nat) (q:Nat × α),m[j]? = some q→q.1≠k):getA k m=none:=by
 unfold getA;rw [Option.map_eq_none_iff,List.find?_eq_none];intro q hq;obtain ⟨j,hj⟩:=List.getElem?_of_mem hq;have:=h j q hj
 simpa using this
theorem rget_any (n0:Nat) (w:World) (g o:Nat) (v:Value) (m:List (Nat × List UInt8)) (h:RVolAt n0 w g o v m) (hm:∀ q∈m,q.2.length=256) (hr:Ris m) (hl:m.length≤1000000) (k:Int) :
  Calls Tryz.prog 36 #[.pointer (some ⟨g,o,none⟩),.int .i64 k] w fun e w'=>e = .returned (.tuple #[bA ((getI k m).getD zeroB),.bool (getI k m).isSome])∧Below w.heap.size w w':=by
 obtain ⟨w1,hw1⟩:∃ W,w.alloc (.cells Tryz.zeroCells50 50)=W:=⟨_,rfl⟩
 have hb1:Below w.heap.size w w1:=by rw [← hw1];exact balloc (Below.refl _ _) _
 have HZ1:Hid (w1.heap[w.heap.size]? = some (.cells Tryz.zeroCells50 50 (0,0))):=hid (by rw [← hw1];exact heap_alloc_new w _);have h1:=h.below hb1;have HB1:=hid hb1;have HV:=hid h1;have HM:=hid hm;have HR:=hid hr;obtain ⟨av,cv,rfl⟩:=row_slice h.row;obtain ⟨n,hn⟩:∃ n,m.length=n:=⟨_,rfl⟩
 have HN:=hid hn;have hc:=HV.out.cell;rw [hn] at hc hl;clear h h1 hb1 hm hr hn
 go_enter Tryz.func36,Tryz.ntmps36
 go_wp2_with fail
 (try rw [hw1])
 clear hw1
 go_loop [6] (fun i=>∃ j:Nat,j≤n∧i = .int .i64 (j:Int)∧∀ (q:Nat) (p:Nat × List UInt8),q<j→m[q]? = some p→(p.1:Int)≠k) (fun i=>n - (Go.Proofs.intOf i).toNat)
 case atStart=>exact ⟨0,by omega,rfl,fun q p hq=>absurd hq (Nat.not_lt_zero _)⟩
 case round =>
  obtain ⟨j,hj,rfl,hall⟩:=hrel;have HALL:=hid hall;clear hall
  by_cases hlt:j<n
  ·obtain ⟨q,hq⟩:∃ q,m[j]? = some q:=⟨_,List.getElem?_eq_getElem (by rw [HN.out];exact hlt)⟩
   obtain ⟨gm,cm,hv,hc1,hc2,hgl,hq0,hq1⟩:=rblk_at HV.out.row HM.out hq;obtain ⟨rfl,_,rfl⟩:=Value.slice.inj hv;have hnc:n≤cv:=by have:=HN.out;omega
   have HQ1:=hid hq1;have HCL:=hid (HM.out q (List.mem_of_getElem? hq));have HQ:=hid hq;obtain ⟨qn,c⟩:=q;dsimp only at hq0 HQ1 HCL HQ;clear hv hc1 hc2 hgl hq1 hq
   by_cases he:(qn:Int)=k
   ·subst he
    have HG:Hid (getI ((qn:Nat):Int) m=some c):=hid (by rw [getI_nat];exact getA_found HR.out HQ.out rfl);go_wp2_with fail;refine wp_load_mid (P:=Tryz.prog) 50 _ rfl gm (j * 257+1) rfl (bV c) _ HQ1.out Tryz.underlying50 rfl (infoB HCL.out) ?_
    go_wp2_with (refine wpList_store_mid rfl 50 _ _ rfl w.heap.size 0 (bV c).toArray rfl rfl (blkThere HZ1.out HCL.out) (by rw [List.size_toArray];exact infoB HCL.out) (all_oneCell_toArray (bV_one c)) ?_)
    refine bodyPost_ret (v:=.tuple #[bA c,.bool true]) (blkEnd _ rfl rfl rfl HZ1.out HCL.out) rfl ⟨by rw [HG.out];rfl,?_⟩;exact belowSet (Nat.le_refl _) _ _ _ HB1.out
   ·have q0:((qn:Int) == k)=false:=by rw [beq_eq_false_iff_ne];exact he
    have HNE:=hid he;clear he;go_wp2_with fail;go_round
    case rel=>exact ⟨j+1,by omega,by go_num,fun r p hr hp=>by
     by_cases hrj:r=j
     ·subst hrj
      rw [HQ.out] at hp;obtain rfl:=Option.some.inj hp;exact HNE.out
     ·exact HALL.out r p (by omega) hp⟩
    case measure=>simp [Go.Proofs.intOf];omega
  ·obtain rfl:j=n:=by omega
   have HG:Hid (getI k m=none):=hid (by
    unfold getI
    by_cases hk:k<0
    ·rw [if_pos hk]
    ·rw [if_neg hk]
     refine getA_nowhere fun r p hp e=>HALL.out r p (by have:=(List.getElem?_eq_some_iff.1 hp).1;have:=HN.out;omega) hp ?_
     omega)
   have hth:=blkThere HZ1.out (c:=zeroB) (by unfold zeroB;rw [List.length_replicate]);rw [← zcells] at hth;have HTH:=hid hth;clear hth
   go_wp2_with (refine wpList_store_mid rfl 50 _ _ rfl w.heap.size 0 Tryz.zeroCells50 rfl rfl HTH.out (by rw [zszM];exact infoBlk) zoneBlk ?_)
   have hl:Tryz.zeroCells50.toList=bV zeroB:=by rw [zcells]
   rw [hl];refine bodyPost_ret (v:=.tuple #[bA zeroB,.bool false]) (blkEnd _ rfl rfl rfl HZ1.out (by unfold zeroB;rw [List.length_replicate])) rfl ⟨by rw [HG.out];rfl,?_⟩;exact belowSet (Nat.le_refl _) _ _ _ HB1.out
end Go.Proofs.YthkmihedkddnmaaGreat
namespace Go.Proofs.YthkmihedkddnmaaGreat
open Go.RowKit Wire Cmd
def rbC (q:Nat × List UInt8):List Value:=.int .i64 (q.1:Int) :: bV q.2
theorem rbC_len {q:Nat × List UInt8} (h:q.2.length=256):(rbC q).length=257:=by simp [rbC,bV_len,h]
theorem rbC_one (q:Nat × List UInt8):∀ u∈(rbC q).toArray.toList,u.oneCell'=true:=by
 intro u hu;simp only [rbC,List.mem_cons] at hu
 rcases hu with rfl | hu
 ·rfl
 ·exact bV_one q.2 u hu
theorem rblkC_snoc (m:List (Nat × List UInt8)) (q:Nat × List UInt8):rblkC (m ++ [q])=rblkC m ++ (rbC q).toArray.toList:=by simp [rblkC,rbC]
theorem zszR:Tryz.zeroCells107.size=257:=by kernel_rfl
theorem infoR3:(Tryz.prog.info? 107).map (fun i=>(i.zero,i.size))=some (some (.agg Tryz.zeroCells107),257):=by kernel_rfl
theorem infoR4:(Tryz.prog.info? 107).map (fun i=>(i.zero,i.size,i.bytes))=some (some (.agg Tryz.zeroCells107),257,264):=by kernel_rfl
theorem zaggR:(Value.agg Tryz.zeroCells107).cells.size=257:=zszR
def RSt (w w':World) (g o:Nat) (m:List (Nat × List UInt8)):Prop:=∃ W v',w'=W.setCell ⟨g,o+2,none⟩ v'∧Below w.heap.size w W∧W.ownsRow w.heap.size 107 257 v' m.length (rblkC m)
end Go.Proofs.YthkmihedkddnmaaGreat
namespace Go.Proofs.YthkmihedkddnmaaGreat
open Go.RowKit Wire Cmd
end Go.Proofs.YthkmihedkddnmaaGreat
namespace Go.Proofs.YthkmihedkddnmaaGreat
open Go.RowKit Wire Cmd
end Go.Proofs.YthkmihedkddnmaaGreat
namespace Go.Proofs.YthkmihedkddnmaaGreat
open Go.RowKit Wire Cmd
theorem run_cutT {P:Program} (w:World) (t:TypeId) (ao:Option Addr) (n cap size:Nat) (ht:P.underlying t=some (.slice (P.elem t))) (hs:∀ w,(sizeOf (P.elem t)).run P w = .ok size w) (l:Int) (h0:0≤l) (h1:l≤n) :
  (Instr.slice t (.slice ao n cap) (some (.int .i64 l)) none none).run P w = .ok (.slice (cutA ao cap l.toNat size) (n - l.toNat) (cap - l.toNat)) w:=by
 rw [run_slice_l w t ao n cap ht .i64 l h0 h1,hs]
 rfl
theorem infoVols:(Tryz.prog.info? 58).map (fun i=>(i.zero,i.size,i.bytes))=some (some (.agg #[.int .u64 0,.int .i64 0,.slice none 0 0]),3,40):=by kernel_rfl
theorem rvolC_app:∀ a b:List (Nat × (Vl × Value)),rvolC (a ++ b)=rvolC a ++ rvolC b
 | [],b=>rfl
 | x :: a,b=>by simp [rvolC,rvolC_app a b]
theorem RDevAt.one {n0:Nat} {w:World} {B:Nat} {sv:Value} {l:List (Nat × (Vl × Value))} (h:RDevAt n0 w B sv l):∀ p∈l,p.2.2.oneCell'=true:=fun p hp=>by
 obtain ⟨a,c,e⟩:=row_slice (h.blk p hp);rw [e]
 rfl
def RDevNew (n0:Nat) (w w':World) (B:Nat) (l:List (Nat × (Vl × Value))):Prop:=∃ sv,RDevAt n0 w' B sv l∧Mods [B] w w'∧∀ k∈ob sv,w.heap.size≤k
theorem rd_cells {X:World} {g n size:Nat} {cs:Array Value} {t:TypeId} (h:X.heap[g]? = some (.cells cs t (0,0))) (hn:cs.size=n * size) (h1:n≤1000000):Rd X size (.slice (some ⟨g,0,none⟩) n n) n cs.toList :=
 Rd.of_own (base:=0) (e:=t) ⟨by simpa using hn,.inr ⟨g,n,cs,rfl,Nat.zero_le _,h,Nat.le_refl _,by unfold maxLen;omega,hn,List.take_of_length_le (by simp [hn])⟩⟩
end Go.Proofs.YthkmihedkddnmaaGreat
namespace Go.Proofs.YthkmihedkddnmaaGreat
open Go.RowKit Wire Cmd
theorem RDevAt.gblk {n0:Nat} {w:World} {B g n cap:Nat} {l:List (Nat × (Vl × Value))} (h:RDevAt n0 w B (.slice (some ⟨g,0,none⟩) n cap) l):∃ cs,w.heap[g]? = some (.cells cs 58 (0,0))∧n=l.length∧g≠B:=by
 rcases h.row.2 with ⟨he,_⟩ | ⟨g',cap',cur,he,hb,hh,r1,r2,r3,r4⟩
 ·cases he
 ·obtain ⟨ha,hn,hc⟩:=Value.slice.inj he
  obtain ⟨rfl,_,_⟩:=Addr.mk.inj (Option.some.inj ha);refine ⟨cur,hh,hn,fun e => ?_⟩;subst e;have:=h.box;rw [hh] at this;obtain ⟨_,ht,_⟩:=Obj.cells.inj (Option.some.inj this);exact absurd ht (by decide)
theorem RDevAt.vol {n0:Nat} {w:World} {B g n cap:Nat} {l:List (Nat × (Vl × Value))} (h:RDevAt n0 w B (.slice (some ⟨g,0,none⟩) n cap) l) {i:Nat} {p:Nat × (Vl × Value)} (hp:l[i]? = some p):RVolAt n0 w g (i * 3) p.2.2 p.2.1.m:=by
 obtain ⟨cs,hg,hn,_⟩:=h.gblk;obtain ⟨g',cap',hv,_,_,_,_,h2⟩:=h.at_ hp;obtain ⟨ha,_,_⟩:=Value.slice.inj hv;obtain ⟨rfl,_,_⟩:=Addr.mk.inj (Option.some.inj ha);exact ⟨h2,h.blk p (List.mem_of_getElem? hp),(hLT hg)⟩
theorem RSt.mods {w w1 w':World} {g i:Nat} {m:List (Nat × List UInt8)} (hb:Below w.heap.size w w1) (h:RSt w1 w' g i m):Mods [g] w w':=by
 obtain ⟨W,v,rfl,hb2,_⟩:=h;exact (Mods.of_below (bthen hb hb2)).setCell (p:=⟨g,i+2,none⟩) (by simp) _
theorem RSt.pre {w w1 w':World} {g i:Nat} {m:List (Nat × List UInt8)} (hb:Below w.heap.size w w1) (h:RSt w1 w' g i m):RSt w w' g i m:=by
 obtain ⟨W,v,rfl,hb2,hr⟩:=h;exact ⟨W,v,rfl,bthen hb hb2,ownsRow_base hr hb.size⟩
def RPartP (n0:Nat) (w:World) (B:Nat) (sv:Value) (r:Ans0 × List (Nat × Vl)) (e:Ending) (w':World):Prop :=
 ∃ asv sv' l',e = .returned (ansV r.1 asv)∧RDevAt n0 w' B sv' l'∧mapA (·.1) l'=r.2∧w'.ownsRow w.heap.size 5 1 asv r.1.data.length (bV r.1.data)∧Chg (B :: ob sv) w w' (B :: ob sv')
theorem RDevNew.mods {n0:Nat} {w w':World} {B:Nat} {l:List (Nat × (Vl × Value))} (h:RDevNew n0 w w' B l):Mods [B] w w':=by
 obtain ⟨_,_,hm,_⟩:=h;exact hm
theorem RDevNew.chg {n0:Nat} {w w2 w':World} {B:Nat} {sv:Value} {l:List (Nat × (Vl × Value))} (h:RDevNew n0 w2 w' B l) (hb:Below w.heap.size w w2):∃ sv',RDevAt n0 w' B sv' l∧Chg (B :: ob sv) w w' (B :: ob sv')∧Mods [B] w2 w':=by
 obtain ⟨sv',hd,hm,hf⟩:=h;refine ⟨sv',hd,⟨(Mods.of_below hb).trans (hm.mono (G:=B :: ob sv) (by simp)) (fun k hk=>.inl hk),fun k hk => ?_⟩,hm⟩
 rcases List.mem_cons.1 hk with rfl | hk
 ·exact .inl (List.mem_cons_self ..)
 ·exact .inr (Nat.le_trans hb.size (hf k hk))
end Go.Proofs.YthkmihedkddnmaaGreat
namespace Go.Proofs.YthkmihedkddnmaaGreat
open Lib (hid)
open Go.RowKit Wire Cmd
theorem blksB_len:∀ {m:List (Nat × List UInt8)},(∀ q∈m,q.2.length=256)→(blksB m).length=260 * m.length
 | [],_=>rfl
 | q :: m,h=>by
  have ih:=blksB_len (m:=m) (fun x hx=>h x (List.mem_cons_of_mem _ hx));have e:blksB (q :: m)=low q.1 4 ++ q.2 ++ blksB m:=rfl;rw [e,List.length_append,List.length_append,ih,low_len,h q (List.mem_cons_self ..),List.length_cons];omega
theorem volsB_len:∀ {l:List (Nat × Vl)},(∀ p∈l,p.2.Ok)→(volsB l).length≤66572 * l.length
 | [],_=>Nat.le_refl _
 | p :: l,h=>by
  have ih:=volsB_len (l:=l) (fun x hx=>h x (List.mem_cons_of_mem _ hx));have e:volsB (p :: l)=volB p ++ volsB l:=rfl;have h1:=blksB_len (h p (List.mem_cons_self ..)).blk;have h2:=(h p (List.mem_cons_self ..)).len;rw [e,List.length_append,List.length_cons];unfold volB;simp only [List.length_append,low_len];omega
theorem run_sliceAll (g f:Nat):∀ W,(Instr.sliceAt 50 (.pointer (some ⟨g,f,none⟩)) none none none).run Tryz.prog W = .ok (.slice (some ⟨g,f,none⟩) 256 256) W:=fun W=>by
 have hl:Tryz.prog.arrayLen 50=256:=by kernel_rfl
 have hs:∀ W,(sizeOf (Tryz.prog.elem 50)).run Tryz.prog W = .ok 1 W:=fun W=>by kernel_rfl
 rw [run_sliceAt_array_all (P:=Tryz.prog) W 50 ⟨g,f,none⟩ (by kernel_rfl),hs,hl]
 simp [Result.andThen_ok,slicedAt,Addr.add_lit]
theorem Rd.range {w:World} {g o:Nat} {bs:List UInt8} (h:w.rangeAt g o (bV bs)) (hl:bs.length=256) (hg:g<w.heap.size):Rd w 1 (.slice (some ⟨g,o,none⟩) 256 256) 256 (bV bs) :=
 ⟨_,256,rfl,by rw [bV_len,hl],by unfold maxLen;omega,⟨by simp,Nat.le_refl _,by unfold maxLen;omega⟩,fun j u hj=>⟨g,o,rfl,hg,h j u hj⟩⟩
theorem blksB_snoc (m:List (Nat × List UInt8)) (q:Nat × List UInt8):blksB (m ++ [q])=blksB m ++ (low q.1 4 ++ q.2):=by simp [blksB]
def RBy (w wr:World) (v:Value) (bs:List UInt8):Prop:=wr.ownsRow w.heap.size 5 1 v bs.length (bV bs)∧Below w.heap.size w wr
theorem rbytes_any (n0:Nat) (w:World) (B:Nat) (sv:Value) (l:List (Nat × (Vl × Value))) (h:RDevAt n0 w B sv l) (hd:DevOk (mapA (·.1) l)) (hll:l.length≤100000) :
  Calls Tryz.prog 35 #[.pointer (some ⟨B,0,none⟩)] w fun e w'=>∃ v,e = .returned v∧RBy w w' v (devB (mapA (·.1) l)):=by
 obtain ⟨av,cv,rfl⟩:=row_slice h.row;have HH:=hid h;have HDO:=hid hd;obtain ⟨n,hn⟩:∃ n,l.length=n:=⟨_,rfl⟩
 have HN:=hid hn;rw [hn] at HH hll;have hbc:=HH.out.cell;have CL:=rlow_any n 4 w (by omega) (by omega);clear h hd hn
 go_enter Tryz.func35,Tryz.ntmps35
 go_wp2_with fail;refine CL.mono ?_;rintro e w1 ⟨v1,rfl,ho1,hb1⟩;have HR1:Hid (RBy w w1 v1 (low n 4)):=hid ⟨by rw [low_len];exact ho1,hb1⟩;clear CL hbc ho1 hb1;go_wp2_with fail
 go_loopw [3,4] (fun v i wr=>∃ k:Nat,k≤n∧i = .int .i64 (k:Int)∧RBy w wr v (low n 4 ++ volsB ((mapA (·.1) l).take k))) (fun _ i _=>n - (Go.Proofs.intOf i).toNat)
 case atStart=>exact ⟨0,Nat.zero_le _,rfl,by simpa [volsB] using HR1.out⟩
 case round =>
  obtain ⟨k,hk,rfl,hby⟩:=hrel;have HBY:=hid hby;have HDW:=hid (HH.out.below hby.2);clear hby
  by_cases hlt:k<n
  ·obtain ⟨p,hp⟩:∃ p,l[k]? = some p:=⟨_,List.getElem?_eq_getElem (by rw [HN.out];exact hlt)⟩
   have HP:=hid hp;obtain ⟨g,cap,hv,hc1,hc2,e0,e1,e2⟩:=HDW.out.at_ hp;obtain ⟨rfl,hnl,rfl⟩:=Value.slice.inj hv;clear hnl;have hbc:=HDW.out.cell;obtain ⟨am,cm,hm⟩:=row_slice (HDW.out.blk p (List.mem_of_getElem? hp));have HSLM0:=hid hm;rw [hm] at e2;clear hv hp hm;obtain ⟨pn,hpn⟩:∃ x,p.1=x:=⟨_,rfl⟩
   obtain ⟨ps,hps⟩:∃ x,p.2.1.size=x:=⟨_,rfl⟩
   obtain ⟨ml,hml⟩:∃ x,p.2.1.m.length=x:=⟨_,rfl⟩
   rw [hpn] at e0;rw [hps] at e1;rw [hml] at e2;have HSLM:Hid (p.2.2 = .slice am ml cm):=hid (by rw [← hml];exact HSLM0.out);have HPN:=hid hpn;have HPS:=hid hps;have HML:=hid hml;clear hpn hps hml
   go_upto_region 6 with fail
   obtain ⟨W6,hW6⟩:∃ W,wr.alloc (.cells #[.int .u64 (pn:Int),.int .i64 (ps:Int),.slice am ml cm] 58)=W:=⟨_,rfl⟩
   have hb6:Below wr.heap.size wr W6:=by rw [← hW6];exact balloc (Below.refl _ _) _
   have HX6:Hid (W6.heap[wr.heap.size]? = some (.cells #[.int .u64 (pn:Int),.int .i64 (ps:Int),.slice am ml cm] 58 (0,0))):=hid (by rw [← hW6];exact heap_alloc_new _ _);rw [hW6];have HB6:=hid hb6;have HX6L:=hid (hLT HX6.out);obtain ⟨acc,hacc⟩:∃ x,low n 4 ++ volsB ((mapA (·.1) l).take k)=x:=⟨_,rfl⟩
   have HACC:=hid hacc;have hby:=HBY.out;unfold RBy at hby;rw [hacc] at hby;obtain ⟨a3,c3,e3⟩:=row_slice hby.1;subst e3;have HRL:Hid (acc.length≤7000000000):=hid (by
    have h1:=volsB_len (l:=(mapA (·.1) l).take k) (fun p hp=>HDO.out.vol p (List.mem_of_mem_take hp));have h2:((mapA (·.1) l).take k).length≤k:=by rw [List.length_take];exact Nat.min_le_left _ _
    rw [← hacc,List.length_append,low_len]
    omega)
   obtain ⟨L,hL⟩:∃ x,acc.length=x:=⟨_,rfl⟩
   have HLE:=hid hL;rw [hL] at hby HRL ⊢;have HRO:=hid (ownsRow_below hby.1 hb6);have HBW:=hid hby.2;have HXN:Hid (wr.heap.size∉ob (.slice a3 L c3)):=hid (fun hh=>by have:=ownsRow_lt hby.1 _ hh;omega);have HW0:Hid (w.heap.size≤W6.heap.size):=hid (Nat.le_trans hby.2.size hb6.size);have HPB:Hid (pn<4294967296∧ps≤256):=hid (by
    have hm:=List.mem_of_getElem? HP.out;have hm2:(p.1,p.2.1)∈mapA (·.1) l:=List.mem_map.2 ⟨p,hm,rfl⟩;exact ⟨by rw [← HPN.out];exact (HDO.out.nat _ hm2).2,by rw [← HPS.out];exact (HDO.out.vol _ hm2).size⟩)
   have CL1:Hid (∀ X,Calls Tryz.prog 66 #[.int .u64 (pn:Int),.int .i64 4] X fun e w'=>∃ v',e = .returned v'∧w'.ownsRow X.heap.size 5 1 v' 4 (bV (low pn 4))∧Below X.heap.size X w'):=hid (fun X=>rlow_any pn 4 X (by have:=HPB.out;omega) (by omega));have CL2:Hid (∀ X,Calls Tryz.prog 66 #[.int .u64 (ps:Int),.int .i64 4] X fun e w'=>∃ v',e = .returned v'∧w'.ownsRow X.heap.size 5 1 v' 4 (bV (low ps 4))∧Below X.heap.size X w'):=hid (fun X=>rlow_any ps 4 X (by have:=HPB.out;omega) (by omega));have hpb:=HPB.out;have hmlb:ml≤256:=by
    have hm2:(p.1,p.2.1)∈mapA (·.1) l:=List.mem_map.2 ⟨p,List.mem_of_getElem? HP.out,rfl⟩;rw [← HML.out];exact (HDO.out.vol _ hm2).len
   clear hW6 hb6 hacc hby hL e0 e1 e2 hbc;have HSS:Hid (∀ X,Mods (ob (.slice a3 L c3)) W6 X→(X.cell? ⟨wr.heap.size,0,none⟩=some (.int .u64 (pn:Int))∧X.cell? ⟨wr.heap.size,1,none⟩=some (.int .i64 (ps:Int)))∧Mods (ob (.slice a3 L c3)) W6 X):=hid (fun X hb=>⟨⟨(World.cell?_of_block (hb.block _ (HX6L.out) (HXN.out))).trans (cellOf HX6.out 0 rfl),(World.cell?_of_block (hb.block _ (HX6L.out) (HXN.out))).trans (cellOf HX6.out 1 rfl)⟩,hb⟩)
   refine wp_region_held_drew (S:=fun X=>(X.cell? ⟨wr.heap.size,0,none⟩=some (.int .u64 (pn:Int))∧X.cell? ⟨wr.heap.size,1,none⟩=some (.int .i64 (ps:Int)))∧Mods (ob (.slice a3 L c3)) W6 X) (by kernel_rfl) (HSS.out _ (Mods.of_below (Below.refl _ _).drew)) (fun hHeld => ?_);have hbe:Below W6.heap.size W6 W6.drew:=(Below.refl _ _).drew;obtain ⟨wd,hwd⟩:∃ y,W6.drew=y:=⟨_,rfl⟩
   rw [hwd] at hHeld hbe ⊢;have HBE:=hid hbe;have HS0:Hid (W6.heap.size≤wd.heap.size):=hid HBE.out.size;clear hwd hbe;refine tkP 0 rfl ?_;refine tkP 1 rfl ?_;refine tkP 5 rfl ?_;refine tkP 2 rfl ?_;refine tkP 6 rfl ?_;refine tkQ 7 (.int .u64 (ps:Int)) rfl ?_ ?_
   ·(intro w hSw;simp only [gE1,gE2,gE3];(have hw64:IntKind.u64.wrap (ps:Int)=(ps:Int):=(by rw [IntKind.wrap_u64];omega);go_simp;first | done | with_reducible rfl))
   refine rd1 3 rfl fun K hK => ?_;simp only [gE1,gE2,gE3];go_simp;refine (CL1.out _).mono ?_;rintro e w3 ⟨v3,rfl,ho3,hb3⟩;dsimp only;have HBE:=hid (bthen HBE.out hb3);clear hHeld;refine hK.out _ _ (HSS.out _ (Mods.of_below HBE.out)) fun hHeld => ?_;clear hK K;try simp only [Act.put,pE1,pE2,pE3]
   have HC3:=hid hb3;clear hb3;refine rd1 4 rfl fun K hK => ?_;simp only [gE1,gE2,gE3];rw [if_pos (by rfl)];refine wp_apps _ _ 33 rfl w.heap.size 5 _ 1 1 Tryz.underlying33 infoByte rfl (by decide) (by decide) (.slice a3 L c3) L _ (by rfl) (ownsRow_below HRO.out HBE.out) _ 4 _ (by rfl) (Rd.of_own ho3) (bV_one _) (by have:=HRL.out;omega) (Nat.le_trans HW0.out HBE.out.size) ?_;intro v4 w4 ho4 hb4 hg4 hs4 hn4;refine hK.out _ _ ?_ (fun hHeld => ?_)
   ·exact HSS.out _ ((Mods.of_below HBE.out).trans (Chg.of_grown hg4 hs4).1 (fun i hi=>.inl hi))
   clear hK K;try simp only [Act.put,pE1,pE2,pE3]
   have HM4:=hid ((Mods.of_below (F:=ob (.slice a3 L c3)) HBE.out).trans (Chg.of_grown hg4 hs4).1 (fun i hi=>.inl hi));have HOB4:Hid (∀ j∈ob v4,j∈ob (.slice a3 L c3)∨W6.heap.size≤j):=hid (fun j hj=>((Chg.of_grown hg4 hs4).2 j hj).imp id (fun h=>Nat.le_trans HBE.out.size h));have HBW4:=hid (((HBE.out.mono HW0.out)).trans hb4);have HO4:=hid ho4;clear ho3 ho4 hb4 hg4 hs4 hn4;refine rd1 8 rfl fun K hK => ?_;simp only [gE1,gE2,gE3];go_simp;refine (CL2.out _).mono ?_;rintro e w8 ⟨v8,rfl,ho8,hb8⟩;dsimp only;refine hK.out _ _ ?_ (fun hHeld => ?_)
   ·exact HSS.out _ (HM4.out.thenBelow hb8)
   clear hK K;try simp only [Act.put,pE1,pE2,pE3]
   have HB8:=hid hb8;have HO8:=hid (ownsRow_below HO4.out hb8);have HR8:=hid (Rd.of_own ho8);clear ho8 hb8;refine rd1 9 rfl fun K hK => ?_;simp only [gE1,gE2,gE3];rw [if_pos (by rfl)];refine wp_apps _ _ 33 rfl w.heap.size 5 _ 1 1 Tryz.underlying33 infoByte rfl (by decide) (by decide) v4 (L+4) _ (by rfl) HO8.out _ 4 _ (by rfl) HR8.out (bV_one _) (by have:=HRL.out;omega) (Nat.le_trans HW0.out (Nat.le_trans HM4.out.size HB8.out.size)) ?_;intro v9 w9 ho9 hb9 hg9 hs9 hn9;refine hK.out _ _ ?_ (fun hHeld => ?_)
   ·exact HSS.out _ ((HM4.out.thenBelow HB8.out).trans (Chg.of_grown hg9 hs9).1 (fun i hi=>HOB4.out i hi))
   clear hK K;try simp only [Act.put,pE1,pE2,pE3]
   have HBW9:=hid ((HBW4.out.trans (HB8.out.mono (Nat.le_trans HW0.out HM4.out.size))).trans hb9);have HO9:=hid ho9;have HM9:=hid ((HM4.out.thenBelow HB8.out).trans (Chg.of_grown hg9 hs9).1 (fun i hi=>HOB4.out i hi));have HM9x:Hid (∀ j∈ob v9,j∈ob (.slice a3 L c3)∨W6.heap.size≤j):=hid (fun j hj=>((Chg.of_grown hg9 hs9).2 j hj).elim (fun h1=>HOB4.out j h1) (fun h1=>.inr (Nat.le_trans HM4.out.size (Nat.le_trans HB8.out.size h1))));clear ho9 hb9 hg9 hs9 hn9;refine tkP 10 rfl ?_;refine wpAnyH_done (by kernel_rfl) ?_ _;have HEND:=hid hHeld.2;have HSE:=hid hHeld.1
   clear hHeld;clear HSE HSS HEND;have HX9:=hid ((HM9.out.block wr.heap.size HX6L.out HXN.out).trans HX6.out);obtain ⟨a9,c9,hv9⟩:=row_slice HO9.out;subst hv9;have HB9:Hid (Below w.heap.size w w9):=hid (((HBW.out.trans (HB6.out.mono HBW.out.size))).trans HBW9.out);have f2:=cellOf HX9.out 2 (v:=.slice am ml cm) rfl;have CL3:=rlow_any ml 4 w9 (by omega) (by omega);go_wp2_with fail;refine CL3.mono ?_;rintro e w10 ⟨v10,rfl,ho10,hb10⟩;have HO10:=hid (ownsRow_below HO9.out hb10);have HB10:=hid (bthen HB9.out hb10)
   have HX10:=hid ((hb10.block _ (hLT HX9.out)).trans HX9.out);have HR10:=hid (Rd.of_own ho10);have HLW:Hid (wr.heap.size<w9.heap.size):=hid (hLT HX9.out);clear CL3 f2 ho10 hb10
   go_wp2_with (at_builtin;go_must (refine wpList_apps rfl _ _ 33 rfl w.heap.size 5 _ 1 1 Tryz.underlying33 infoByte rfl (by decide) (by decide) (.slice a9 (L+4+4) c9) (L+4+4) _ rfl HO10.out _ 4 _ rfl HR10.out (bV_one _) (by have:=HRL.out;omega) HB10.out.size ?_);intro v11 w11 ho11 hb11 hg11 hs11 hn11)
   have HN11:Hid (wr.heap.size∉ob (.slice a9 (L+4+4) c9)):=hid (fun hh=>by
    rcases (HM9x.out _ hh) with h1 | h1
    ·exact HXN.out h1
    ·have:=HX6L.out;omega)
   have HX11:=hid (((Chg.of_grown hg11 hs11).1.block _ (hLT HX10.out) HN11.out).trans HX10.out);have HB11:=hid (HB10.out.trans hb11);have HACC2:Hid (RBy w w11 v11 (acc ++ low pn 4 ++ low ps 4 ++ low ml 4)):=hid ⟨by
    have h1:=ho11;rw [show (acc ++ low pn 4 ++ low ps 4 ++ low ml 4).length=L+4+4+4 by simp only [List.length_append,low_len,HLE.out],bV_app,bV_app,bV_app];exact h1,HB11.out⟩
   clear ho11 hb11 hg11 hs11 hn11;go_wp2_with fail;obtain ⟨wo,rfl⟩:∃ wo:World,wo=wr:=⟨_,rfl⟩
   go_loopw [3,6] (fun v i wr=>∃ j:Nat,j≤ml∧i = .int .i64 (j:Int)∧RBy w wr v (acc ++ low pn 4 ++ low ps 4 ++ low ml 4 ++ blksB (p.2.1.m.take j))∧wr.heap[wo.heap.size]? = some (.cells #[.int .u64 (pn:Int),.int .i64 (ps:Int),.slice am ml cm] 58 (0,0))) (fun _ i _=>ml - (Go.Proofs.intOf i).toNat)
   case atStart=>exact ⟨0,Nat.zero_le _,rfl,by simpa [blksB] using HACC2.out,HX11.out⟩
   case round =>
    obtain ⟨j,hj,rfl,hby,hbx⟩:=hrel;have HBX:=hid hbx;have HBXL:=hid (hLT hbx);have f2:=cellOf hbx 2 (v:=.slice am ml cm) rfl;have HDQ:=hid (HH.out.below hby.2)
    by_cases hlt2:j<ml
    ·obtain ⟨q,hq⟩:∃ q,p.2.1.m[j]? = some q:=⟨_,List.getElem?_eq_getElem (by rw [HML.out];exact hlt2)⟩
     have hpm:=List.mem_of_getElem? HP.out;have hvo:=HDO.out.vol (p.1,p.2.1) (List.mem_map.2 ⟨p,hpm,rfl⟩);have HQL:Hid (q.2.length=256∧q.1<256):=hid ⟨hvo.blk q (List.mem_of_getElem? hq),Nat.lt_of_lt_of_le (hvo.lt q (List.mem_of_getElem? hq)) hvo.size⟩;have HSN:Hid (blksB (p.2.1.m.take (j+1))=blksB (p.2.1.m.take j) ++ (low q.1 4 ++ q.2)):=hid (by rw [List.take_add_one,hq];exact blksB_snoc _ _);have hrow:=HDQ.out.blk p hpm;obtain ⟨gm,cm2,hmv,hmc,hmx,hgl,hq0,hq1⟩:=rblk_at hrow hvo.blk hq;have e4:Value.slice am ml cm=p.2.2:=HSLM.out.symm
     rw [hmv] at e4;obtain ⟨rfl,hml4,rfl⟩:=Value.slice.inj e4;clear hml4;rw [HML.out] at hmc;have HGT:Hid (∃ cs,wr.heap[gm]? = some (.cells cs 107 (0,0))):=hid (by
      rcases hrow.2 with ⟨he,_⟩ | ⟨g',cap',cur,he,_,hh,_⟩
      ·rw [hmv] at he;cases he
      ·rw [hmv] at he
       obtain ⟨ha,_,_⟩:=Value.slice.inj he;obtain ⟨rfl,_,_⟩:=Addr.mk.inj (Option.some.inj ha);exact ⟨cur,hh⟩)
     obtain ⟨qn,hqn⟩:∃ x,q.1=x:=⟨_,rfl⟩
     rw [hqn] at hq0;have HQN:=hid hqn;have HQ0:=hid hq0;have HQ1:=hid hq1;have HGL:=hid hgl;have hqnb:qn<256:=by rw [← hqn];exact HQL.out.2
     obtain ⟨bc,hbc⟩:∃ x,acc ++ low pn 4 ++ low ps 4 ++ low ml 4 ++ blksB (p.2.1.m.take j)=x:=⟨_,rfl⟩
     have HBC:=hid hbc;have HRL2:Hid (bc.length≤7100000000):=hid (by
      have h1:=HRL.out;have h2:(p.2.1.m.take j).length≤j:=by rw [List.length_take];exact Nat.min_le_left _ _
      have h3:=blksB_len (m:=p.2.1.m.take j) (fun x hx=>hvo.blk x (List.mem_of_mem_take hx));rw [← hbc];simp only [List.length_append,low_len,HLE.out,h3]
      omega)
     rw [hbc] at hby;unfold RBy at hby;obtain ⟨a5,c5,e5⟩:=row_slice hby.1;subst e5;obtain ⟨L2,hL2⟩:∃ x,bc.length=x:=⟨_,rfl⟩
     have HLE2:=hid hL2;rw [hL2] at hby HRL2 ⊢;have HRO2:=hid hby.1;have HBQ:=hid hby.2;have HNB2:Hid (wo.heap.size∉ob (.slice a5 L2 c5)∧gm∉ob (.slice a5 L2 c5)):=hid ⟨fun hh=>ob_tag hby.1 hbx (by decide) hh,fun hh=>by obtain ⟨cs,h1⟩:=HGT.out;exact ob_tag hby.1 h1 (by decide) hh⟩;have CL4:Hid (∀ X,Calls Tryz.prog 66 #[.int .u64 (qn:Int),.int .i64 4] X fun e w'=>∃ v',e = .returned v'∧w'.ownsRow X.heap.size 5 1 v' 4 (bV (low qn 4))∧Below X.heap.size X w'):=hid (fun X=>rlow_any qn 4 X (by omega) (by omega))
     have HSA:=hid (run_sliceAll gm (j * 257+1));clear hq hpm hvo hrow hmv hmx e4 hq0 hq1 hgl hqn hbc hby hL2 hbx;have HWQ:Hid (w.heap.size≤wr.heap.size):=hid HBQ.out.size;go_wp2_with fail;clear f2
     have HSS:Hid (∀ X,Mods (ob (.slice a5 L2 c5)) wr X→(X.cell? ⟨wo.heap.size,2,none⟩=some (.slice (some ⟨gm,0,none⟩) ml cm)∧X.cell? ⟨gm,j * 257,none⟩=some (.int .i64 (qn:Int)))∧Mods (ob (.slice a5 L2 c5)) wr X):=hid (fun X hb=>⟨⟨(World.cell?_of_block (hb.block _ (HBXL.out) (HNB2.out.1))).trans (cellOf HBX.out 2 rfl),(World.cell?_of_block (hb.block _ (HGL.out) (HNB2.out.2))).trans (HQ0.out)⟩,hb⟩)
     refine wp_region_held_drew (S:=fun X=>(X.cell? ⟨wo.heap.size,2,none⟩=some (.slice (some ⟨gm,0,none⟩) ml cm)∧X.cell? ⟨gm,j * 257,none⟩=some (.int .i64 (qn:Int)))∧Mods (ob (.slice a5 L2 c5)) wr X) (by kernel_rfl) (HSS.out _ (Mods.of_below (Below.refl _ _).drew)) (fun hHeld => ?_);have hbe:Below wr.heap.size wr wr.drew:=(Below.refl _ _).drew;obtain ⟨wd,hwd⟩:∃ y,wr.drew=y:=⟨_,rfl⟩
     rw [hwd] at hHeld hbe ⊢;have HBE:=hid hbe;have HS0:Hid (wr.heap.size≤wd.heap.size):=hid HBE.out.size;clear hwd hbe;refine tkP 0 rfl ?_;refine tkP 1 rfl ?_;refine tkP 3 rfl ?_;refine tkP 10 rfl ?_;refine tkP 12 rfl ?_;refine tkP 2 rfl ?_;refine tkP 11 rfl ?_;refine tkP 4 rfl ?_;refine tkP 13 rfl ?_;refine tkP 5 rfl ?_;refine tkP 14 rfl ?_;refine tkP 6 rfl ?_;refine tkQ 15 (.slice (some ⟨gm,j * 257+1,none⟩) 256 256) rfl ?_ ?_
     ·(intro w hSw;simp only [gE1,gE2,gE3];(have hsx:=HSA.out w;go_simp;first | done | with_reducible rfl))
     refine tkQ 7 (.int .u64 (qn:Int)) rfl ?_ ?_
     ·(intro w hSw;simp only [gE1,gE2,gE3];(have hw64:IntKind.u64.wrap (qn:Int)=(qn:Int):=(by rw [IntKind.wrap_u64];omega);go_simp;first | done | with_reducible rfl))
     refine rd1 8 rfl fun K hK => ?_;simp only [gE1,gE2,gE3];go_simp;refine (CL4.out _).mono ?_;rintro e w8 ⟨v8,rfl,ho8,hb8⟩;dsimp only;have HBE:=hid (bthen HBE.out hb8);clear hHeld;refine hK.out _ _ (HSS.out _ (Mods.of_below HBE.out)) fun hHeld => ?_;clear hK K;try simp only [Act.put,pE1,pE2,pE3]
     have HC8:=hid hb8;clear hb8;refine rd1 9 rfl fun K hK => ?_;simp only [gE1,gE2,gE3];rw [if_pos (by rfl)];refine wp_apps _ _ 33 rfl w.heap.size 5 _ 1 1 Tryz.underlying33 infoByte rfl (by decide) (by decide) (.slice a5 L2 c5) L2 _ (by rfl) (ownsRow_below HRO2.out HBE.out) _ 4 _ (by rfl) (Rd.of_own ho8) (bV_one _) (by have:=HRL2.out;omega) (Nat.le_trans HWQ.out HBE.out.size) ?_;intro v9 w9 ho9 hb9 hg9 hs9 hn9;refine hK.out _ _ ?_ (fun hHeld => ?_)
     ·exact HSS.out _ ((Mods.of_below HBE.out).trans (Chg.of_grown hg9 hs9).1 (fun i hi=>.inl hi))
     clear hK K;try simp only [Act.put,pE1,pE2,pE3]
     have HM9:=hid ((Mods.of_below (F:=ob (.slice a5 L2 c5)) HBE.out).trans (Chg.of_grown hg9 hs9).1 (fun i hi=>.inl hi));have HOB9:Hid (∀ i∈ob v9,i∈ob (.slice a5 L2 c5)∨wr.heap.size≤i):=hid (fun i hi=>((Chg.of_grown hg9 hs9).2 i hi).imp id (fun h=>Nat.le_trans HBE.out.size h));have HBW9:=hid (((HBE.out.mono HWQ.out)).trans hb9);have HO9:=hid ho9;have HRG:Hid (w9.rangeAt gm (j * 257+1) (bV q.2)):=hid (fun t u ht=>(World.cell?_of_block (a:=⟨gm,j * 257+1+t,none⟩) (HM9.out.block gm HGL.out HNB2.out.2)).trans (HQ1.out t u ht))
     have HG9L:Hid (gm<w9.heap.size):=hid (Nat.lt_of_lt_of_le HGL.out HM9.out.size);clear ho8 ho9 hb9 hg9 hs9 hn9;refine rd1 16 rfl fun K hK => ?_;simp only [gE1,gE2,gE3];rw [if_pos (by rfl)];refine wp_apps _ _ 33 rfl w.heap.size 5 _ 1 1 Tryz.underlying33 infoByte rfl (by decide) (by decide) v9 (L2+4) _ (by rfl) HO9.out _ 256 _ (by rfl) (Rd.range HRG.out HQL.out.1 HG9L.out) (bV_one _) (by have:=HRL2.out;omega) (Nat.le_trans HWQ.out HM9.out.size) ?_;intro v16 w16 ho16 hb16 hg16 hs16 hn16;refine hK.out _ _ ?_ (fun hHeld => ?_)
     ·exact HSS.out _ (HM9.out.trans (Chg.of_grown hg16 hs16).1 (fun i hi=>HOB9.out i hi))
     clear hK K;try simp only [Act.put,pE1,pE2,pE3]
     have HB16:=hid ((HBQ.out.trans HBW9.out).trans hb16);have HO16:=hid ho16;have HM16:=hid (HM9.out.trans (Chg.of_grown hg16 hs16).1 (fun i hi=>HOB9.out i hi));clear ho16 hb16 hg16 hs16 hn16;refine tkP 17 rfl ?_;refine wpAnyH_done (by kernel_rfl) ?_ _;have HEND:=hid hHeld.2;have HSE:=hid hHeld.1;clear hHeld;clear HSE HSS HEND;have HX16:=hid ((HM16.out.block wo.heap.size HBXL.out HNB2.out.1).trans HBX.out);have HFIN:Hid (RBy w w16 v16 (acc ++ low pn 4 ++ low ps 4 ++ low ml 4 ++ blksB (p.2.1.m.take (j+1)))):=hid (by
      have e:acc ++ low pn 4 ++ low ps 4 ++ low ml 4 ++ blksB (p.2.1.m.take (j+1))=bc ++ low qn 4 ++ q.2:=by
       rw [HSN.out,← HBC.out,HQN.out];simp only [List.append_assoc]
      have el:(bc ++ low qn 4 ++ q.2).length=L2+4+256:=by
       simp only [List.length_append,low_len,HLE2.out,HQL.out.1]
      rw [e];refine ⟨?_,HB16.out⟩;rw [el,bV_app,bV_app];exact HO16.out)
     go_wp2_with fail;go_roundw
     case rel=>exact ⟨j+1,by omega,by go_num,HFIN.out,HX16.out⟩
     case measure=>simp [Go.Proofs.intOf];omega
    ·obtain rfl:j=ml:=by omega
     have hfe:acc ++ low pn 4 ++ low ps 4 ++ low j 4 ++ blksB (p.2.1.m.take j)=low n 4 ++ volsB ((mapA (·.1) l).take (k+1)):=by
      have hp2:(mapA (·.1) l)[k]? = some (p.1,p.2.1):=by unfold mapA;rw [List.getElem?_map,HP.out];rfl
      have e2:volsB ((mapA (·.1) l).take k ++ (some (p.1,p.2.1)).toList)=volsB ((mapA (·.1) l).take k) ++ volB (p.1,p.2.1):=by simp [volsB]
      have e3:p.2.1.m.take j=p.2.1.m:=List.take_of_length_le (by rw [HML.out];exact Nat.le_refl _);rw [List.take_add_one,hp2,← HACC.out,e2,e3];unfold volB;dsimp only;rw [HPN.out,HPS.out,HML.out];simp only [List.append_assoc]
     rw [hfe] at hby;have HFV:=hid hby;clear hby hbx hfe;go_wp2_with fail;go_roundw
     case rel=>exact ⟨k+1,by omega,by go_num,HFV.out⟩
     case measure=>simp [Go.Proofs.intOf];omega
  ·obtain rfl:k=n:=by omega
   have hbc:=HDW.out.cell;go_wp2_with fail;go_ret;refine ⟨_,rfl,?_⟩;have h1:=HBY.out;rw [List.take_of_length_le (by rw [mapA_len,HN.out];exact Nat.le_refl _)] at h1;unfold devB;rw [mapA_len,HN.out];exact h1
end Go.Proofs.YthkmihedkddnmaaGreat
