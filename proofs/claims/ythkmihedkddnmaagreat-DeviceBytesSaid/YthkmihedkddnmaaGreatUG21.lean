import Derived.Test.YthkmihedkddnmaaGreatUG2
import Derived.Test.YthkmihedkddnmaaGreatUG20
import Derived.Shelf.SlIterI.Stops
import Derived.Test.YthkmihedkddnmaaGreatUG10
set_option linter.unusedVariables false
set_option linter.unusedSimpArgs false
set_option maxHeartbeats 6400000
set_option maxRecDepth 100000
namespace Go.Proofs.YthkmihedkddnmaaGreat
open Lib (hid)
open Go.RowKit Go.Maps Wire Cmd
theorem ris_ext {α:Type}:∀ {l m:List (Nat × α)},Ris l→Ris m→(∀ p,p∈l ↔ p∈m)→l=m
 | [],[],_,_,_=>rfl
 | [],y :: m,_,_,h=>absurd ((h y).2 (List.mem_cons_self ..)) (by simp)
 | x :: l,[],_,_,h=>absurd ((h x).1 (List.mem_cons_self ..)) (by simp)
 | x :: l,y :: m,hl,hm,h=>by
  obtain ⟨h1,h2⟩:=List.pairwise_cons.1 hl;obtain ⟨k1,k2⟩:=List.pairwise_cons.1 hm;have hxy:x=y:=by
   rcases List.mem_cons.1 ((h x).1 (List.mem_cons_self ..)) with e | hx
   ·exact e
   rcases List.mem_cons.1 ((h y).2 (List.mem_cons_self ..)) with e | hy
   ·exact e.symm
   have:=k1 x hx;have:=h1 y hy;omega
  subst hxy;rw [ris_ext h2 k2 (fun p=>⟨fun hp=>by
   rcases List.mem_cons.1 ((h p).1 (List.mem_cons_of_mem _ hp)) with e | hq
   ·have:=h1 p hp
    rw [e] at this;omega
   ·exact hq,fun hp=>by
   rcases List.mem_cons.1 ((h p).2 (List.mem_cons_of_mem _ hp)) with e | hq
   ·have:=k1 p hp
    rw [e] at this;omega
   ·exact hq⟩)]
theorem ris_uniq {α:Type} {l:List (Nat × α)} (h:Ris l) {p q:Nat × α} (hp:p∈l) (hq:q∈l) (e:p.1=q.1):p=q:=by
 obtain ⟨i,hi⟩:=List.getElem?_of_mem hp;obtain ⟨j,hj⟩:=List.getElem?_of_mem hq;have h1:=getA_at h hi;have h2:=getA_at h hj;rw [e,h2] at h1;exact Prod.ext e (Option.some.inj h1).symm
theorem put_filter {α:Type} {L:List (Nat × α)} (h:Ris L) {n:Nat} {a:α} (ha:(n,a)∈L) (p:Nat × α→Bool):putA n a (L.filter p)=L.filter fun q=>p q || q.1 == n:=by
 refine ris_ext (ris_putA (ris_filter h _) _ _) (ris_filter h _) (fun q=>⟨fun hq => ?_,fun hq => ?_⟩)
 ·rcases mem_putA hq with rfl | hq
  ·exact List.mem_filter.2 ⟨ha,by simp⟩
  ·obtain ⟨h1,h2⟩:=List.mem_filter.1 hq
   exact List.mem_filter.2 ⟨h1,by simp [h2]⟩
 ·obtain ⟨h1,h2⟩:=List.mem_filter.1 hq
  by_cases e:q.1=n
  ·have:=ris_uniq h h1 ha e
   subst this;exact mem_insA.2 (.inl rfl)
  ·refine mem_insA.2 (.inr (List.mem_filter.2 ⟨List.mem_filter.2 ⟨h1,?_⟩,by simpa using e⟩))
   have e2:(q.1 == n)=false:=by rw [beq_eq_false_iff_ne];exact e
   simpa [e2] using h2
theorem at_found {α:Type} {q:IntKind} {f:α→DataW Unit} {l:List (Nat × α)} {x:Int} {d:DataW Unit} (h:∀ zd,(encM q f l).atKey (.int q x) zd=d):∃ kn a,x=((kn:Nat):Int)∧getA kn l=some a∧d=f a:=by
 by_cases hx:x<0
 ·have h1:=h (.lit (.bool true))
  have h2:=h (.lit (.bool false));rw [at_enc_neg q f x hx l] at h1 h2;rw [← h2] at h1
  cases h1
 ·obtain ⟨kn,rfl⟩:∃ kn:Nat,x=(kn:Int):=⟨x.toNat,by omega⟩
  cases hg:getA kn l with
  | some a =>
   have h1:=h (.lit (.bool true));rw [at_enc,hg] at h1;exact ⟨kn,a,rfl,hg,h1.symm⟩
  | none =>
   have h1:=h (.lit (.bool true));have h2:=h (.lit (.bool false));rw [at_enc,hg] at h1 h2;have h3:(DataW.lit (.bool true):DataW Unit)=d:=h1;have h4:(DataW.lit (.bool false):DataW Unit)=d:=h2;rw [← h4] at h3
   cases h3
theorem RVol_shape {v:Value} {y:DataW Unit × List MemPlace} (h:RVol v=some y):∃ c:Int × Option Nat,v = .agg #[.int .i64 c.1,.map c.2]:=by
 unfold RVol at h
 split at h
 ·exact ⟨(_,_),rfl⟩
 ·cases h
theorem keyU_inv {key:Value} {kl:Lit} (h:keyOf Tryz.prog 38 key=some kl):∃ x:Int,key = .int .u64 x:=by
 obtain ⟨x,rfl,_⟩:=Maps.keyOf_int_inv undU64 h;exact ⟨x,rfl⟩
theorem strip_in {l:List (Nat × (Vl × Nat))} {p:Nat × Vl} (h:p∈strip l):∃ b,(p.1,(p.2,b))∈l:=by
 unfold strip mapA at h;obtain ⟨x,hx,rfl⟩:=List.mem_map.1 h;exact ⟨x.2.2,hx⟩
theorem left_start (l:List (Nat × (Vl × Nat))):(strip l).filter (fun p => !(Maps.has (encM .u64 volF l) (.int .u64 (p.1:Int))))=[]:=by
 rw [List.filter_eq_nil_iff];intro p hp;rw [has_enc];obtain ⟨b,hb⟩:=strip_in hp
 cases hg:getA p.1 l with
 | some x=>simp
 | none=>exact absurd rfl (getA_none hg _ hb)
theorem dcopy_at (n0:Nat) (w:World) (B Ba:Nat) (l:List (Nat × (Vl × Nat))) (h:DevAt n0 w B Ba l) :
  Calls Tryz.prog 27 #[.pointer (some ⟨B,0,none⟩)] w fun e w'=>∃ B' Ba' l',e = .returned (.pointer (some ⟨B',0,none⟩))∧DevAt w.heap.size w' B' Ba' l'∧strip l'=strip l∧Below w.heap.size w w':=by
 have CT:=dthere_any w _ true h.dv;have CN:=dnew_any w.heap.size w (Nat.le_refl _);have HH:=hid h;have K:Keyed Tryz.prog 38:=int_keyed undU64;clear h
 go_enter Tryz.func27,Tryz.ntmps27
 go_wp2_with fail;refine CT.mono ?_;rintro e w1 ⟨rfl,rfl⟩;go_wp2_with fail;refine CN.mono ?_;rintro e w2 ⟨B',Ba',rfl,hd2,hb2,hB',hBa'⟩;dsimp only;have HB2:=hid hb2;have HD2:=hid hd2;have HH2:=hid (HH.out.below hb2);have c0:=HH2.out.cell;have hown:w2.ownsMap Tryz.prog 38 RVol Ba l.length (encM .u64 volF l):=HH2.out.all;have HNAA:Hid (Ba≠Ba'):=hid (by have:=HH.out.all.lt;omega);have HNB:Hid (w.heap.size≤B'∧w.heap.size≤Ba'):=hid ⟨hB',hBa'⟩;clear CT CN hd2 hb2 hB' hBa'
 go_wp2_with (at_range;refine wpList_range_own _ rfl _ 61 rfl 38 84 K undAll RVol Ba _ _ rfl hown ?_;intro w0 hrg0 hg0 hs0)
 have HR0:=hid hrg0;have HG0:=hid hg0;obtain ⟨r,hr⟩:∃ r,w2.heap.size=r:=⟨_,rfl⟩
 have HRS:=hid hr;rw [hr] at HR0 ⊢;clear c0 hown hrg0 hg0 hs0 hr
 go_frame
 go_loopw [16] (fun _ wr=>∃ (left:Lit→Bool) (cnt:Nat) (lo:List (Nat × (Vl × Nat))),wr.ranges Tryz.prog 38 RVol Ba r l.length (encM .u64 volF l) left cnt∧DevAt w.heap.size wr B' Ba' lo∧strip lo=(strip l).filter (fun p => !(left (.int .u64 (p.1:Int))))∧Below w.heap.size w wr∧(∀ k∈dF Ba' lo,k≠r)) (fun _ wr=>wr.rangeLeft Ba r)
 case atStart =>
  have hb0:Below w2.heap.size w2 w0:=⟨HG0.out.os,HG0.out.tape,HG0.out.output,HG0.out.size,fun k hk=>HG0.out.block k hk (by simp)⟩
  exact ⟨_,_,[],HR0.out,HD2.out.below hb0,by rw [left_start];rfl,bthen HB2.out hb0,fun k hk=>by
   have e:k=Ba':=by simpa [dF] using hk
   have:=HD2.out.all.lt;have:=HRS.out
   omega⟩
 case round =>
  obtain ⟨left,cnt,lo,hrg,hdo,hst,hbw,hnr⟩:=hrel;have HNR:=hid hnr;clear hnr;have HDO:=hid hdo;have HBW:=hid hbw;have HSTO:=hid hst;clear hdo hbw hst
  go_wp2_with (at_next;refine wpList_next_ranges _ rfl _ rfl 38 K RVol (Value.int .u64) (fun c:Int × Option Nat=>.agg #[.int .i64 c.1,.map c.2]) (fun key kl hkey=>keyU_inv hkey) (fun v y hv=>RVol_shape hv) Ba r _ _ _ _ rfl hrg ?_ ?_)
  ·intro _ hl0
   go_wp2_with fail;go_ret;refine ⟨B',Ba',lo,rfl,HDO.out,?_,HBW.out⟩;rw [HSTO.out,List.filter_eq_self];intro p _
   simp [hl0]
  ·intro x c1 c2 kl yd yp w1 cnt1 hkey hlx hv hat hrg1 hlt hg1 hs1 hen
   obtain ⟨x',ex,rfl,hwx⟩:=Maps.keyOf_int_inv undU64 hkey
   cases ex
   obtain ⟨kn,y,rfl,hgy,hyd⟩:=at_found hat;obtain ⟨hval,_⟩:=RVol_inv (x:=((y.1.size:Int),some y.2)) (by rw [hv,hyd];rfl);obtain ⟨rfl,rfl⟩:c1=(y.1.size:Int)∧c2=some y.2:=by simpa using hval
   have HGY:=hid hgy;have HLX:=hid hlx;have HCN:=hid hlt;have HLE:=hid hrg.left_eq;have HRG1:=hid hrg1;have hrw:w.heap.size≤r:=by rw [← HRS.out];exact HB2.out.size
   have HBW1:=hid (HBW.out.grown hg1 HBW.out.size (fun k e=>by cases e;exact hrw));have hm1:Mods [r] wr w1:=⟨hg1.os,hg1.tape,hg1.output,hg1.size,fun k hk hn=>hg1.block k hk (fun e=>hn (by simp [Option.some.inj e]))⟩
   have HD1:=hid (HDO.out.kept hm1 (fun hh=>by
    have e:B'=r:=by simpa using hh
    have:=HD2.out.lt;have:=HRS.out
    omega) (fun k hk hh=>HNR.out k hk (by simpa using hh)))
   have HKN:Hid (1≤kn∧kn<4294967296):=hid (HH.out.ok.nat (kn,y.1) (by unfold strip mapA;exact List.mem_map.2 ⟨_,getA_some hgy,rfl⟩));have HYOK:=hid (HH.out.ok.vol (kn,y.1) (by unfold strip mapA;exact List.mem_map.2 ⟨_,getA_some hgy,rfl⟩));have HYM:Hid (∀ X,Below w.heap.size w X→MapL X Tryz.prog 3 RBlk .i64 blkD y.2 y.1.m):=hid (fun X hX=>(HH.out.vol _ (getA_some HGY.out)).below hX);clear hkey hlx hv hat hrg1 hlt hs1 hgy hyd hval hwx hg1 hm1 hrg;obtain ⟨w5,hw5⟩:∃ W,w1.alloc (.cells #[.int .i64 (y.1.size:Int),.map (some y.2)] 84)=W:=⟨_,rfl⟩
   have HB5:Hid (Below w1.heap.size w1 w5):=hid (by rw [← hw5];exact balloc (Below.refl _ _) _);have HX5:Hid (w5.heap[w1.heap.size]? = some (.cells #[.int .i64 (y.1.size:Int),.map (some y.2)] 84 (0,0))):=hid (by rw [← hw5];exact heap_alloc_new w1 _);have HDF:=hid (HD1.out.below HB5.out);have HLT5:=hid (hLT HX5.out);have HNA:Hid (w1.heap.size∉[Ba']):=hid (fun hh=>by
    have e:w1.heap.size=Ba':=by simpa using hh
    have:=HD1.out.all.lt
    omega)
   go_wp2_with fail
   (try rw [hw5])
   clear hw5 hen;have HSS:Hid (∀ X,Mods [Ba'] w5 X→(X.cell? ⟨B',0,none⟩=some (.map (some Ba'))∧X.cell? ⟨w1.heap.size,0,none⟩=some (.int .i64 (y.1.size:Int))∧X.cell? ⟨w1.heap.size,1,none⟩=some (.map (some y.2)))∧Mods [Ba'] w5 X):=hid (fun X hb=>⟨⟨(World.cell?_of_block (hb.block _ (HDF.out.lt) (by simpa using HDF.out.B_ne))).trans (HDF.out.cell),(World.cell?_of_block (hb.block _ (HLT5.out) (HNA.out))).trans (cellOf HX5.out 0 rfl),(World.cell?_of_block (hb.block _ (HLT5.out) (HNA.out))).trans (cellOf HX5.out 1 rfl)⟩,hb⟩)
   refine wp_region_held_drew (S:=fun X=>(X.cell? ⟨B',0,none⟩=some (.map (some Ba'))∧X.cell? ⟨w1.heap.size,0,none⟩=some (.int .i64 (y.1.size:Int))∧X.cell? ⟨w1.heap.size,1,none⟩=some (.map (some y.2)))∧Mods [Ba'] w5 X) (by kernel_rfl) (HSS.out _ (Mods.of_below (Below.refl _ _).drew)) (fun hHeld => ?_);have hbe:Below w5.heap.size w5 w5.drew:=(Below.refl _ _).drew;obtain ⟨wd,hwd⟩:∃ y,w5.drew=y:=⟨_,rfl⟩
   rw [hwd] at hHeld hbe ⊢;have HBE:=hid hbe;have HS0:Hid (w5.heap.size≤wd.heap.size):=hid HBE.out.size;clear hwd hbe;refine tkA 0 rfl ?_;refine tkA 4 rfl ?_;refine tkA 5 rfl ?_;refine tkA 7 rfl ?_;refine tkA 1 rfl ?_;refine tkA 6 rfl ?_;refine tkA 8 rfl ?_;refine tkA 2 rfl ?_;refine tkA 3 rfl ?_;refine rd1 9 rfl fun K hK => ?_;simp only [gE1,gE2,gE3];go_simp;refine (clone_blk _ y.2 y.1.m (HYM.out _ (HBW1.out.trans ((HB5.out.trans (HBE.out.mono HB5.out.size)).mono HBW1.out.size)))).mono ?_;rintro e w6 ⟨rfl,hm6,hb6⟩;dsimp only;have HBE:=hid (bthen HBE.out hb6)
   clear hHeld;refine hK.out _ _ (HSS.out _ (Mods.of_below HBE.out)) fun hHeld => ?_;clear hK K;try simp only [Act.put,pE1,pE2,pE3]
   have HC9:=hid hb6;clear hb6;refine tkA 10 rfl ?_;refine rd1 11 rfl fun K hK => ?_;obtain ⟨w7,hup,hml,hmod⟩:=(HDF.out.below HBE.out).all.put undU64 undAll (HDF.out.short) (wfU (n:=kn) (Nat.lt_trans HKN.out.2 (by decide))) (a:=(y.1,wd.heap.size)) (RVol_mk (y.1.size:Int) (some wd.heap.size));simp only [gE1,gE2,gE3];go_simp;refine hK.out _ _ ?_ (fun hHeld => ?_)
   ·exact HSS.out _ ((Mods.of_below HBE.out).trans hmod (fun i hi=>.inl hi))
   clear hK K;try simp only [Act.put,pE1,pE2,pE3]
   refine wpAnyH_done (by kernel_rfl) ?_ _;have HEND:=hid hHeld.2;have HSE:=hid hHeld.1;clear hHeld;have HWD:Hid (w1.heap.size+1≤wd.heap.size):=hid (by have:=HS0.out;have:=HLT5.out;omega)
   have HD5:Hid (DevAt w.heap.size w7 B' Ba' (putA kn (y.1,wd.heap.size) lo)):=hid ((HDF.out.below HBE.out).putAt hml (hm6.mods hmod (by have:=HWD.out;have:=HD1.out.all.lt;simp;omega)) hmod HKN.out HYOK.out (by have:=HWD.out;have:=HBW1.out.size;omega) (by have:=HWD.out;have:=HD1.out.all.lt;omega) (fun p hp e=>absurd e (by have:=HWD.out;have:=(HD1.out.vol p hp).lt;omega)));have hb16:=bthen HB5.out HBE.out;have hg6:w1.grownBy w6 none:=⟨hb16.os,hb16.tape,hb16.output,hb16.size,fun k hk _=>hb16.block k hk⟩
   have hg7:w6.grownBy w7 (some Ba'):=⟨hmod.os,hmod.tape,hmod.output,hmod.size,fun k hk hn=>hmod.block k hk (fun hh=>hn (by
    have e:k=Ba':=by simpa using hh
    rw [e]))⟩
   have HRG5:=hid ((HRG1.out.kept hg6 (by simp) (by simp)).kept hg7 (fun e=>HNAA.out (Option.some.inj e)) (fun e=>HNR.out Ba' (List.mem_cons_self ..) (Option.some.inj e).symm));have HBW5:Hid (Below w.heap.size w w7):=hid ((HBW1.out.grown hg6 HBW1.out.size (fun k e=>by cases e)).grown hg7 (Nat.le_trans HBW1.out.size hg6.size) (fun k e=>by cases e;exact HNB.out.2));have HST:Hid (strip (putA kn (y.1,wd.heap.size) lo)=(strip l).filter (fun p => !(left (.int .u64 (p.1:Int)) && !(Lit.int .u64 (p.1:Int)).sameKey (.int .u64 (kn:Int))))):=hid (by
    rw [strip_put,HSTO.out,put_filter HH.out.ok.ris (by unfold strip mapA;exact List.mem_map.2 ⟨_,getA_some HGY.out,rfl⟩)];refine List.filter_congr fun p _ => ?_;rw [same_enc]
    cases left (.int .u64 (p.1:Int)) <;> cases (p.1 == kn) <;> rfl)
   have HNR5:Hid (∀ k∈dF Ba' (putA kn (y.1,wd.heap.size) lo),k≠r):=hid (fun k hk=>by
    rcases dF_put k hk with h | rfl
    ·exact HNR.out k h
    ·have:=HWD.out
     have:=HRG1.out.lt
     omega)
   clear hml hmod hup hg6 hg7 hm6 hb16;clear HEND HSE HSS HBE;go_wp2_with fail;go_roundw
   case rel=>exact ⟨_,cnt1,_,HRG5.out,HD5.out,HST.out,HBW5.out,HNR5.out⟩
   case measure=>rw [HRG5.out.left_eq,HLE.out];exact HCN.out
end Go.Proofs.YthkmihedkddnmaaGreat
namespace Go.Proofs.YthkmihedkddnmaaGreat
open Go.RowKit Go.Maps Wire Cmd
section
variable {P:Program} {ops:Array Oper} {rest:List Oper} {o:Oper} {a:Act} {Q:Exit→Act→World→Prop} {w:World}
end
end Go.Proofs.YthkmihedkddnmaaGreat
namespace Go.Proofs.YthkmihedkddnmaaGreat
open Go.RowKit Go.Maps Wire Cmd
theorem vl_ext {a b:Vl} (h1:a.size=b.size) (h2:a.m=b.m):a=b:=by
 cases a
 cases b
 simp only at h1 h2
 rw [h1,h2]
instance:DecidableEq Vl:=fun a b=>decidable_of_iff (a.size=b.size∧a.m=b.m) ⟨fun h=>vl_ext h.1 h.2,fun h=>by rw [h];exact ⟨rfl,rfl⟩⟩
end Go.Proofs.YthkmihedkddnmaaGreat
namespace Go.Proofs.YthkmihedkddnmaaGreat
open Lib (hid)
open Go.RowKit Go.Maps Wire Cmd
theorem run_textD (w:World) (v:Value) (n:Nat) (bs:List UInt8) (h:Rd w 1 v n (bV bs)):((convert 33 9 v).run Tryz.prog w).andThen (fun a w'=>Result.ok (Next.value a) w') = .ok (.value (.string (strB bs))) w:=by
 rw [run_text w v n bs h];rfl
theorem strB_appD (a b:List UInt8):strB a ++ strB b=strB (a ++ b):=by simp [strB,ByteArray.ext_iff]
theorem num14_any (n:Int) (w:World):Calls Tryz.prog 20 #[.int .i64 n] w fun e w'=>e = .returned (.int .i64 n)∧w=w':=by
 go_enter Tryz.func20,Tryz.ntmps20
 go_wp2_with fail;go_ret;exact ⟨rfl,rfl⟩
def x64:List UInt8:=120 :: List.replicate 63 0
def kC:Op0:=⟨1,1,0,2,0,0,[]⟩
def kW:Op0:=⟨5,1,0,0,4,0,x64⟩
def kR:Op0:=⟨9,1,0,0,0,5,[]⟩
def dC:List (Nat × Vl):=(stepD [] kC 1024).2
def dW:List (Nat × Vl):=(stepD dC kW 1024).2
theorem kR_ok:(stepD dW kR 1024).1.code=0∧(stepD dW kR 1024).1.data=List.replicate 256 0 ++ x64∧(stepD dW kR 1024).1.data.length=320:=by
 refine ⟨by kernel_rfl,by kernel_rfl,by kernel_rfl⟩
theorem kC_Ok:kC.Ok:=by constructor <;> decide
theorem kW_Ok:kW.Ok:=by constructor <;> decide
theorem kR_Ok:kR.Ok:=by constructor <;> decide
theorem rd_heap {X:World} {g:Nat} {t:TypeId} {l:List UInt8} {n:Nat} (h:X.heap[g]? = some (.cells (bV l).toArray t (0,0))) (hl:l.length=n) (hn:n≤1000000):Rd X 1 (.slice (some ⟨g,0,none⟩) n n) n (bV l):=by
 refine ⟨_,_,rfl,by simp [bV_len,hl],by unfold maxLen;omega,⟨(fun h=>by cases h),Nat.le_refl _,by unfold maxLen;omega⟩,fun j u hj=>⟨g,0,rfl,(hLT h),?_⟩⟩;rw [Nat.zero_add];exact cellOf' h j (by simpa using hj)
theorem rd_nil (X:World):Rd X 1 (.slice none 0 0) 0 (bV []):=Rd.of_own (World.ownsRow_nil X 0 5 1)
theorem PartP.chg {n0:Nat} {w w':World} {B Ba:Nat} {l:List (Nat × (Vl × Nat))} {r:Ans0 × List (Nat × Vl)} {e:Ending} (h:PartP n0 w B Ba l r e w'):∃ sa cp l',e = .returned (.agg #[.int .i64 r.1.code,.int .i64 r.1.done,.slice sa r.1.data.length cp])∧DevAt n0 w' B Ba l'∧strip l'=r.2 ∧
  w'.ownsRow w.heap.size 5 1 (.slice sa r.1.data.length cp) r.1.data.length (bV r.1.data)∧Chg (dF Ba l) w w' (dF Ba l'):=by
 obtain ⟨sv,l',rfl,h1,h2,h3,h4⟩:=h;obtain ⟨sa,cp,rfl,_⟩:=Rd.of_own h3;exact ⟨sa,cp,l',rfl,h1,h2,h3,h4⟩
theorem DevAt.own {w0 w w':World} {B Ba:Nat} {l l':List (Nat × (Vl × Nat))} (h:DevAt w0.heap.size w B Ba l) (hb:Below w0.heap.size w0 w) (hc:Chg (dF Ba l) w w' (dF Ba l')):Below w0.heap.size w0 w':=by
 refine hb.trans (hc.1.below (fun k hk => ?_) hb.size)
 rcases List.mem_cons.1 hk with rfl | hk
 ·exact h.ge.2.1
 ·obtain ⟨p,hp,rfl⟩:=List.mem_map.1 hk
  exact h.ge.2.2 p hp
theorem num14_b (n:Int) (w:World):Calls Tryz.prog 20 #[.int .i64 n] w fun e w'=>e = .returned (.int .i64 n)∧Below w.heap.size w w':=(num14_any n w).mono fun e w' ⟨h1,h2⟩=>⟨h1,by rw [← h2];exact Below.refl _ _⟩
theorem known14_any (w:World):Calls Tryz.prog 9 #[] w fun e w'=>e = .returned (.bool true)∧Below w.heap.size w w':=by
 have CN:=dnew_any w.heap.size w (Nat.le_refl _);have HMK9:Hid (∀ W:World,(Instr.makeSlice 33 (.int .i64 256) (.int .i64 256)).run Tryz.prog W = .ok (.slice (some ⟨W.heap.size,0,none⟩) 256 256) (W.alloc (.cells (bV (List.replicate 256 0)).toArray 5))):=hid (fun W=>by kernel_rfl);have HMK:Hid (∀ W:World,(Instr.makeSlice 33 (.int .i64 64) (.int .i64 64)).run Tryz.prog W = .ok (.slice (some ⟨W.heap.size,0,none⟩) 64 64) (W.alloc (.cells (bV (List.replicate 64 0)).toArray 5))):=hid (fun W=>by kernel_rfl)
 go_enter Tryz.func9,Tryz.ntmps9
 go_wp2_with fail;refine CN.mono ?_;rintro e w1 ⟨B,Ba,rfl,hd1,hb1,_,_⟩;dsimp only;have HD1:=hid hd1;have HB1:=hid hb1;clear CN hd1 hb1;have CC:=ddo_at w.heap.size w1 B Ba [] HD1.out kC kC_Ok none 0 (rd_nil _);go_wp2_with fail;refine CC.mono ?_;intro e w2 hP;obtain ⟨sa,cp,l2,rfl,hd2,hs2,_,hc2⟩:=hP.chg;dsimp only;have HD2:=hid hd2;have HS2:Hid (strip l2=dC):=hid hs2;have HB2:=hid (HD1.out.own HB1.out hc2);clear CC hd2 hs2 hc2 hP;have hmk:=HMK.out w2;obtain ⟨w3,hw3⟩:∃ y,w2.alloc (.cells (bV (List.replicate 64 0)).toArray 5)=y:=⟨_,rfl⟩
 have hb3:Below w2.heap.size w2 w3:=by rw [← hw3];exact balloc (Below.refl _ _) _
 have hx3:w3.heap[w2.heap.size]? = some (.cells (bV (List.replicate 64 0)).toArray 5 (0,0)):=by rw [← hw3];exact heap_alloc_new w2 _
 obtain ⟨g,hg⟩:∃ g,w2.heap.size=g:=⟨_,rfl⟩
 have HG:=hid hg;rw [hg] at hx3 hmk;rw [hw3] at hmk;have c30:w3.cell? ⟨g,0,none⟩=some (.int .u8 0):=cellOf hx3 0 rfl;have f30:=frozenOf hx3 0;obtain ⟨w4,hw4⟩:∃ y,w3.setCell ⟨g,0,none⟩ (.int .u8 120)=y:=⟨_,rfl⟩
 have hm4:Mods [g] w3 w4:=by rw [← hw4];exact (Mods.refl _ w3).setCell (p:=⟨g,0,none⟩) (by simp) _
 have hx4:w4.heap[g]? = some (.cells (bV x64).toArray 5 (0,0)):=by
  have h1:=setOf hx3 0 (.int .u8 120);rw [hw4] at h1;rw [h1];have:((bV (List.replicate 64 0)).toArray.setIfInBounds 0 (.int .u8 120))=(bV x64).toArray:=by kernel_rfl
  rw [this]
 have HB4:Hid (Below w2.heap.size w2 w4):=hid (hb3.trans (hm4.below (fun k hk=>by rw [List.mem_singleton.1 hk,hg];exact Nat.le_refl _) hb3.size));have HX4:=hid hx4;have CW:=ddo_at w.heap.size w4 B Ba l2 (HD2.out.below HB4.out) kW kW_Ok (some ⟨g,0,none⟩) 64 (rd_heap hx4 (by decide) (by decide));clear hb3 hx3 hm4 hx4 hg;go_wp2_with fail;refine CW.mono ?_;intro e w5 hP;obtain ⟨sa5,cp5,l5,rfl,hd5,hs5,_,hc5⟩:=hP.chg;dsimp only;have HD5:=hid hd5;have HS5:Hid (strip l5=dW):=hid (by rw [hs5,HS2.out];rfl)
 have HB5:=hid ((HD2.out.below HB4.out).own (bthen HB2.out HB4.out) hc5);have HNG:Hid (g∉dF Ba l5):=hid (fun hh=>by
  have h4:=(hLT HX4.out)
  have h2:=HG.out
  rcases hc5.2 g hh with h | h
  ·have:=HD2.out.lt_all g h
   omega
  ·omega)
 have HX5:=hid ((hc5.1.block g (hLT HX4.out) (fun hh=>by
  have:=HD2.out.lt_all g hh;have:=HG.out
  omega)).trans HX4.out)
 clear CW hd5 hs5 hc5 hP hmk c30 f30 hw3 hw4;have CR:=ddo_at w.heap.size w5 B Ba l5 HD5.out kR kR_Ok none 0 (rd_nil _);go_wp2_with fail;refine CR.mono ?_;intro e w6 hP;obtain ⟨sa6,cp6,l6,rfl,hd6,hs6,ho6,hc6⟩:=hP.chg;rw [HS5.out] at ho6 ⊢;rw [kR_ok.2.2,kR_ok.2.1] at ho6;rw [kR_ok.1,kR_ok.2.2];dsimp only;have HB6:=hid (HD5.out.own HB5.out hc6);have HX6:=hid ((hc6.1.block g (hLT HX5.out) HNG.out).trans HX5.out);have HO6:=hid ho6;clear CR hd6 hs6 hc6 hP ho6;obtain ⟨ad6,had6⟩:∃ d,(stepD dW kR 1024).1.done=d:=⟨_,rfl⟩
 rw [had6];clear had6;obtain ⟨w7,hw7⟩:∃ y,w6.alloc (.cells #[.int .i64 0,.int .i64 ad6,.slice sa6 320 cp6] 35)=y:=⟨_,rfl⟩
 have HB7:Hid (Below w6.heap.size w6 w7):=hid (by rw [← hw7];exact balloc (Below.refl _ _) _);have HX7:Hid (w7.heap[w6.heap.size]? = some (.cells #[.int .i64 0,.int .i64 ad6,.slice sa6 320 cp6] 35 (0,0))):=hid (by rw [← hw7];exact heap_alloc_new w6 _);go_wp2_with fail
 (try rw [hw7])
 clear hw7;obtain ⟨SA,hSA⟩:∃ s,strB (List.replicate 256 0)=s:=⟨_,rfl⟩
 obtain ⟨SB,hSB⟩:∃ s,strB x64=s:=⟨_,rfl⟩
 obtain ⟨SC,hSC⟩:∃ s,strB (List.replicate 256 0 ++ x64)=s:=⟨_,rfl⟩
 have HABC:Hid (SA ++ SB=SC):=hid (by rw [← hSA,← hSB,← hSC,strB_appD]);have hsz:SA.size=256∧SB.size=64∧SC.size=320:=⟨by rw [← hSA];kernel_rfl,by rw [← hSB];kernel_rfl,by rw [← hSC];kernel_rfl⟩
 have HT7:Hid (∀ X,Below w7.heap.size w7 X→((convert 33 9 (.slice sa6 320 cp6)).run Tryz.prog X).andThen (fun a w'=>Result.ok (Next.value a) w') = .ok (.value (.string SC)) X):=hid (fun X hX=>by rw [← hSC];exact run_textD X _ 320 _ ((Rd.of_own HO6.out).below (bthen HB7.out hX)))
 have HT11:Hid (∀ X,Below w7.heap.size w7 X→((convert 33 9 (.slice (some ⟨g,0,none⟩) 64 64)).run Tryz.prog X).andThen (fun a w'=>Result.ok (Next.value a) w') = .ok (.value (.string SB)) X):=hid (fun X hX=>by rw [← hSB];exact run_textD X _ 64 _ ((rd_heap HX6.out (by decide) (by decide)).below (bthen HB7.out hX)));have HSA:=hid hSA;have HLZ:=hid (hLT HX7.out);clear hSA hSB hSC
 have HSS:Hid (∀ X,Below w7.heap.size w7 X→(X.cell? ⟨w6.heap.size,0,none⟩=some (.int .i64 0)∧X.cell? ⟨w6.heap.size,2,none⟩=some (.slice sa6 320 cp6))∧Below w7.heap.size w7 X):=hid (fun X hb=>⟨⟨(World.cell?_of_block (hb.block _ (HLZ.out))).trans (cellOf HX7.out 0 rfl),(World.cell?_of_block (hb.block _ (HLZ.out))).trans (cellOf HX7.out 2 rfl)⟩,hb⟩)
 refine wp_region_held_drew (S:=fun X=>(X.cell? ⟨w6.heap.size,0,none⟩=some (.int .i64 0)∧X.cell? ⟨w6.heap.size,2,none⟩=some (.slice sa6 320 cp6))∧Below w7.heap.size w7 X) (by kernel_rfl) (HSS.out _ (Below.refl _ _).drew) (fun hHeld => ?_);have hbe:Below w7.heap.size w7 w7.drew:=(Below.refl _ _).drew;obtain ⟨wd,hwd⟩:∃ y,w7.drew=y:=⟨_,rfl⟩
 rw [hwd] at hHeld hbe ⊢;have HBE:=hid hbe;have HS0:Hid (w7.heap.size≤wd.heap.size):=hid HBE.out.size;clear hwd hbe;refine tkA 0 rfl ?_;refine tkA 1 rfl ?_;refine rd1 2 rfl fun K hK => ?_;simp only [gE1,gE2,gE3];go_simp;refine (num14_b 0 _).mono ?_;rintro e w8 ⟨rfl,hb8⟩;dsimp only;have HBE:=hid (bthen HBE.out hb8);clear hHeld;refine hK.out _ _ (HSS.out _ HBE.out) fun hHeld => ?_;clear hK K;try simp only [Act.put,pE1,pE2,pE3]
 have HC2:=hid hb8;clear hb8;refine tkA 3 rfl ?_;refine tkA 4 rfl ?_;refine tkA 5 rfl ?_;refine tkA 10 rfl ?_;refine tkA 6 rfl ?_;refine tkB 11 (.string SB) rfl ?_ ?_
 ·(intro w hSw;simp only [gE1,gE2,gE3];(go_simp;exact HT11.out w hSw.2))
 refine tkB 7 (.string SC) rfl ?_ ?_
 ·(intro w hSw;simp only [gE1,gE2,gE3];(go_simp;exact HT7.out w hSw.2))
 refine rd1 8 rfl fun K hK => ?_;obtain ⟨w9,hw9⟩:∃ y,w8.alloc (.cells (bV (List.replicate 256 0)).toArray 5)=y:=⟨_,rfl⟩
 have hmk9:(Instr.makeSlice 33 (.int .i64 256) (.int .i64 256)).run Tryz.prog w8 = .ok (.slice (some ⟨w8.heap.size,0,none⟩) 256 256) w9:=by rw [← hw9];exact HMK9.out w8
 have hb9:Below w8.heap.size w8 w9:=by rw [← hw9];exact balloc (Below.refl _ _) _
 have hx9:w9.heap[w8.heap.size]? = some (.cells (bV (List.replicate 256 0)).toArray 5 (0,0)):=by rw [← hw9];exact heap_alloc_new _ _
 simp only [gE1,gE2,gE3];go_simp;refine hK.out _ _ ?_ (fun hHeld => ?_)
 ·exact HSS.out _ (bthen hHeld.2 hb9)
 clear hK K;try simp only [Act.put,pE1,pE2,pE3]
 have HBE:=hid (bthen HBE.out hb9);have hrd9:=run_textD w9 _ 256 _ (rd_heap hx9 (List.length_replicate) (by decide));rw [HSA.out] at hrd9;clear hw9 hmk9 hb9 hx9;refine rd1 9 rfl fun K hK => ?_;have hrd:=hrd9;simp only [gE1,gE2,gE3];go_simp;clear hrd;refine hK.out _ _ ?_ (fun hHeld => ?_)
 ·exact (by first | exact HSS.out _ HBE.out | exact HSS.out _ HMD.out)
 clear hK K;try simp only [Act.put,pE1,pE2,pE3]
 refine tkB 12 (.string SC) rfl ?_ ?_
 ·(intro w hSw;simp only [gE1,gE2,gE3];(have hh:=HABC.out;go_simp;first | done | rw [hh]))
 refine tkA 13 rfl ?_;refine tkA 14 rfl ?_;refine tkA 15 rfl ?_;refine wpAnyH_done (by kernel_rfl) ?_ _;have HEND:=hid hHeld.2;have HSE:=hid hHeld.1;clear hHeld;clear HSE HSS HBE;go_wp2_with fail;go_ret;exact ⟨rfl,bthen (bthen HB6.out HB7.out) HEND.out⟩
end Go.Proofs.YthkmihedkddnmaaGreat
namespace Go.Proofs.YthkmihedkddnmaaGreat
open Go.RowKit Go.Maps Wire Cmd
end Go.Proofs.YthkmihedkddnmaaGreat
namespace Go.Proofs.YthkmihedkddnmaaGreat
open Lib (hid)
open Go.RowKit Go.Maps Go.Shelf Wire Cmd
attribute [local go_sem] Oper.semAt_some
def Come {α:Type} (q:IntKind) (l:List (Nat × α)) (left:Lit→Bool) (ss:List Nat):Prop:=ss.Nodup∧∀ x:Nat,x∈ss ↔ ((getA x l).isSome=true∧left (.int q (x:Int))=false)
theorem Come.start {α:Type} {H:Type} (q:IntKind) (f:α→DataW H) (l:List (Nat × α)):Come q l (Maps.has (encM q f l)) [] :=
 ⟨List.nodup_nil,fun x=>by rw [has_enc];cases (getA x l).isSome <;> simp⟩
theorem Come.step {α:Type} {q:IntKind} {l:List (Nat × α)} {left:Lit→Bool} {ss:List Nat} (h:Come q l left ss) {x:Nat} {a:α} (hl:left (.int q (x:Int))=true) (ha:getA x l=some a) :
  Come q l (fun z=>left z && !z.sameKey (.int q (x:Int))) (ss ++ [x]):=by
 have hn:x∉ss:=fun hx=>by have:=((h.2 x).1 hx).2;rw [hl] at this;cases this
 refine ⟨List.nodup_append.2 ⟨h.1,by simp,fun a hs b hb=>by simp at hb;subst hb;exact fun e=>hn (e ▸ hs)⟩,fun y => ?_⟩;dsimp only;rw [List.mem_append,List.mem_singleton,h.2 y,same_enc]
 by_cases hy:y=x
 ·subst hy
  simp [ha]
 ·have e:(y == x)=false:=by rw [beq_eq_false_iff_ne];exact hy
  simp [hy,e]
theorem getA_isSome {α:Type} {k:Nat} {l:List (Nat × α)}:(getA k l).isSome=true ↔ k∈l.map (·.1):=by
 rw [List.mem_map]
 constructor
 ·intro h
  obtain ⟨a,ha⟩:=Option.isSome_iff_exists.1 h;exact ⟨_,getA_some ha,rfl⟩
 ·rintro ⟨p,hp,rfl⟩
  cases hg:getA p.1 l with
  | some a=>rfl
  | none=>exact absurd rfl (getA_none hg p hp)
theorem ris_keys {α:Type} {l:List (Nat × α)} (h:Ris l):(l.map (·.1)).Pairwise (· < ·):=List.pairwise_map.2 h
theorem Come.perm {α:Type} {q:IntKind} {l:List (Nat × α)} {left:Lit→Bool} {ss:List Nat} (h:Come q l left ss) (hr:Ris l) (hl:∀ z,left z=false):ss.Perm (l.map (·.1)):=by
 refine (List.perm_ext_iff_of_nodup h.1 ((ris_keys hr).imp (fun h=>Nat.ne_of_lt h))).2 fun x => ?_;rw [h.2 x,hl,← getA_isSome]
 simp
theorem perm_sort {ss m:List Nat} (h:ss.Perm m) (hm:m.Pairwise (· < ·)):(ss.mergeSort fun x y=>decide (x≤y))=m:=by
 have tr:∀ a b c:Nat,decide (a≤b)=true→decide (b≤c)=true→decide (a≤c)=true:=fun a b c h1 h2=>by simp only [decide_eq_true_eq] at *;omega
 have tot:∀ a b:Nat,(decide (a≤b) || decide (b≤a))=true:=fun a b=>by simp only [Bool.or_eq_true,decide_eq_true_eq];omega
 refine List.Perm.eq_of_pairwise (le:=fun a b=>decide (a≤b)=true) (fun a b _ _ h1 h2 => ?_) (List.pairwise_mergeSort tr tot ss) (hm.imp (fun {a b} h=>by simp only [decide_eq_true_eq];omega)) ((List.mergeSort_perm ss _).trans h);simp only [decide_eq_true_eq] at h1 h2;omega
theorem keysV_stops (n:Nat) (hn:1≤n) (Bm b:Nat) (l:List (Nat × (Vl × Nat))) (hr:Ris l) (w:World) (hBm:w.cell? ⟨Bm,0,none⟩=some (.map (some b))) (hlt:Bm<w.heap.size) (hown:MapL w Tryz.prog 38 RVol .u64 volF b l) :
  SeqStopsK Fence.wide n Tryz.prog 83 #[.pointer (some ⟨Bm,0,none⟩)] (fun k:Nat=>#[n64 k]) KeepsWalks (fun ss=>ss.Perm (l.map (·.1))) (fun _=>True) l.length w:=by
 intro ly J Jx W hW hJ hJx hY h0;have hro:Fence.wide.round=none:=rfl;have c0:=(hW.cell (p:=⟨Bm,0,none⟩) hlt).trans hBm;have hown:W.ownsMap Tryz.prog 38 RVol b l.length (encM .u64 volF l):=hown.below hW;have K:Keyed Tryz.prog 38:=int_keyed undU64;clear hBm hlt hW;refine callsIn_of_wp Tryz.func83 rfl trivial ?_ hro;simp only [Tryz.ntmps83,List.size_toArray,List.length_cons,List.length_nil,Nat.reduceAdd,Nat.reduceSub,Array.replicate_succ,Array.replicate_zero,List.push_toArray,List.append_toArray,List.nil_append,List.cons_append]
 gi_wp2_with (first
  | (gi_at_range;refine wpListIn_range_own _ rfl _ 61 rfl 38 84 K undAll _ b l.length _ rfl hown ?_;intro w0 hrg0 hg0 hs0)
  | gi_in)
 try go_frame
 gi_loopw [3] (fun _ wr=>∃ (left:Lit→Bool) (cnt:Nat) (ss:List Nat),wr.ranges Tryz.prog 38 RVol b W.heap.size l.length (encM .u64 volF l) left cnt∧ss.length+cnt≤l.length∧Come .u64 l left ss∧J ss wr)
  (fun _ wr=>wr.rangeLeft b W.heap.size)
 case atStart =>
  exact ⟨_,_,[],hrg0,by rw [size_enc];simp,Come.start .u64 volF l,hJ [] W w0 none h0 hg0 (fun r e=>by cases e)⟩
 case round =>
  obtain ⟨left,cnt,ss,hrg,hcs,hC,hJs⟩:=hrel
  gi_wp2_with (first
   | (gi_at_next;refine wpListIn_next_ranges _ rfl _ rfl 38 K RVol (Value.int .u64) (fun c:Int × Option Nat=>.agg #[.int .i64 c.1,.map c.2]) (fun key kl hkey=>keyU_inv hkey) (fun v y hv=>RVol_shape hv) b W.heap.size _ _ _ _ rfl hrg ?_ ?_)
   | gi_in)
  ·intro hc0 hl0
   gi_wp2
   go_end0
   exact ⟨⟨_,rfl⟩,.inl ⟨ss,hC.perm hr hl0,hJs⟩⟩
  ·intro x c1 c2 kl yd yp w2 cnt2 hkey hlk hv hat hrg2 hlt hg2 hs2 hen
   obtain ⟨x',ex,rfl,hwx⟩:=Maps.keyOf_int_inv undU64 hkey
   cases ex
   obtain ⟨kn,y,rfl,hgy,hyd⟩:=at_found hat;have hJ2:J ss w2:=hJ ss wr w2 (some W.heap.size) hJs hg2 (fun r e=>by cases e;exact ⟨Nat.le_refl _,hrg.iter_walk⟩);have hC2:=hC.step hlk hgy;have hlen:ss.length+cnt2+1≤l.length:=by omega
   obtain ⟨fn,tmps,assign,body,hy,hR⟩:=hY ss kn w2 hJ2 (by omega);have HC2:=hid hC2;have HLEN:=hid hlen;have HLE:=hid hrg.left_eq;have HLT:=hid hlt;have HRG:=hid hrg2;clear hs2 hat hyd hv hC2 hlen hC hrg hlt hcs hJs hJ2 hgy hlk hrg2
   gi_wp2
   refine hR.mono ?_;rintro e W3 (⟨rfl,hJ3,hk3⟩ | ⟨rfl,hJx3⟩)
   ·gi_wp2
    have hrg3:=HRG.out.of_walks hk3;go_roundw
    case rel=>exact ⟨_,cnt2,ss ++ [kn],hrg3,by have:=HLEN.out;simp;omega,HC2.out,hJ3⟩
    case measure=>rw [hrg3.left_eq,HLE.out];exact HLT.out
   ·gi_wp2
    refine bodyPost_ret (results_none rfl _ _ _) rfl ?_;exact ⟨⟨_,rfl⟩,.inr ⟨ss ++ [kn],trivial,hJx3⟩⟩
theorem keysV_any (mb:Option Nat) (w:World):Calls Tryz.prog 57 #[.map mb] w fun e w'=>e = .returned (.func (.func 83) #[] #[.pointer (some ⟨w.heap.size,0,none⟩)])∧w.alloc (.cells #[.map mb] 61)=w':=by
 go_enter Tryz.func57,Tryz.ntmps57
 go_wp2;go_ret;exact ⟨rfl,rfl⟩
theorem dvolumes_at (n0:Nat) (w:World) (B Ba:Nat) (l:List (Nat × (Vl × Nat))) (h:DevAt n0 w B Ba l) (hl:l.length≤1000000) :
  Calls Tryz.prog 26 #[.pointer (some ⟨B,0,none⟩)] w fun e w'=>∃ v,e = .returned v∧w'.ownsRow w.heap.size 38 1 v l.length (l.map fun p=>.int .u64 (p.1:Int))∧Below w.heap.size w w':=by
 have CT:=dthere_any w _ true h.dv;have CK:=keysV_any (some Ba) w;have c0:=h.cell;have hris:Ris l:=(ris_map (fun x:Vl × Nat=>x.1)).1 h.ok.ris;have hb1:Below w.heap.size w (w.alloc (.cells #[.map (some Ba)] 61)):=balloc (Below.refl _ _) _;have CS:=srd64 83 #[.pointer (some ⟨w.heap.size,0,none⟩)] (enters_of Tryz.func83 (by kernel_rfl) rfl) _ _ _ hl (fun ss hS=>by have:=hS.length_eq;simp at this;omega) (w.alloc (.cells #[.map (some Ba)] 61))
  (keysV_stops 4 (by omega) w.heap.size Ba l hris _ (newCell w (.map (some Ba)) 61).1 (by simp) (h.all.below hb1))
 have HRIS:=hid hris;clear h hris
 go_enter Tryz.func26,Tryz.ntmps26
 go_wp2_with fail;refine CT.mono ?_;rintro e w1 ⟨rfl,rfl⟩;go_wp2_with fail;refine CK.mono ?_;rintro e w1 ⟨rfl,rfl⟩;go_wp2_with fail;refine CS.mono ?_;rintro e w2 ⟨v,ss,rfl,hS,hrow,hnil,hb⟩;have HROW:=hid hrow;have HB:=hid (bthen hb1 hb);have HS:=hid hS;have HV:Hid (∃ a n c,v = .slice a n c):=hid (by
  rcases hrow.2 with ⟨rfl,_⟩ | ⟨gb,cap,cur,rfl,_⟩
  ·exact ⟨_,_,_,rfl⟩
  ·exact ⟨_,_,_,rfl⟩)
 clear hS hrow hnil hb hb1;obtain ⟨a,n,c,rfl⟩:=HV.out;go_wp2_with fail;go_ret;refine ⟨_,rfl,?_,HB.out⟩;have h1:=HROW.out;rw [perm_sort HS.out (ris_keys HRIS.out),List.map_map,show ss.length=l.length by have:=HS.out.length_eq;simpa using this] at h1;exact ownsRow_base h1 (by simp)
end Go.Proofs.YthkmihedkddnmaaGreat
