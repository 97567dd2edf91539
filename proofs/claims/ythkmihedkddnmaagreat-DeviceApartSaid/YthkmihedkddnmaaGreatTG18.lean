import Derived.Test.YthkmihedkddnmaaGreatTG2
import Derived.Test.YthkmihedkddnmaaGreatTG17
set_option linter.unusedVariables false
set_option linter.unusedSimpArgs false
set_option maxHeartbeats 6400000
set_option maxRecDepth 100000
namespace Go.Proofs.YthkmihedkddnmaaGreat
open Lib (hid)
open Go.RowKit Go.Maps Wire Cmd
theorem ris_ext {α:Type}:∀ {l m:List (Nat × α)},Ris l→Ris m→(∀ p,p∈l ↔ p∈m)→l=m
 | [],[],_,_,_=>rfl
 | [],y :: m,_,_,h=>absurd ((h y).2 (List.mem_cons_self ..)) (by simp)
 | x :: l,[],_,_,h=>absurd ((h x).1 (List.mem_cons_self ..)) (by simp)
 | x :: l,y :: m,hl,hm,h=>by
  obtain ⟨h1,h2⟩:=List.pairwise_cons.1 hl;obtain ⟨k1,k2⟩:=List.pairwise_cons.1 hm;have hxy:x=y:=by
   rcases List.mem_cons.1 ((h x).1 (List.mem_cons_self ..)) with e | hx
   ·exact e
   rcases List.mem_cons.1 ((h y).2 (List.mem_cons_self ..)) with e | hy
   ·exact e.symm
   have:=k1 x hx;have:=h1 y hy;omega
  subst hxy;rw [ris_ext h2 k2 (fun p=>⟨fun hp=>by
   rcases List.mem_cons.1 ((h p).1 (List.mem_cons_of_mem _ hp)) with e | hq
   ·have:=h1 p hp
    rw [e] at this;omega
   ·exact hq,fun hp=>by
   rcases List.mem_cons.1 ((h p).2 (List.mem_cons_of_mem _ hp)) with e | hq
   ·have:=k1 p hp
    rw [e] at this;omega
   ·exact hq⟩)]
theorem ris_uniq {α:Type} {l:List (Nat × α)} (h:Ris l) {p q:Nat × α} (hp:p∈l) (hq:q∈l) (e:p.1=q.1):p=q:=by
 obtain ⟨i,hi⟩:=List.getElem?_of_mem hp;obtain ⟨j,hj⟩:=List.getElem?_of_mem hq;have h1:=getA_at h hi;have h2:=getA_at h hj;rw [e,h2] at h1;exact Prod.ext e (Option.some.inj h1).symm
theorem put_filter {α:Type} {L:List (Nat × α)} (h:Ris L) {n:Nat} {a:α} (ha:(n,a)∈L) (p:Nat × α→Bool):putA n a (L.filter p)=L.filter fun q=>p q || q.1 == n:=by
 refine ris_ext (ris_putA (ris_filter h _) _ _) (ris_filter h _) (fun q=>⟨fun hq => ?_,fun hq => ?_⟩)
 ·rcases mem_putA hq with rfl | hq
  ·exact List.mem_filter.2 ⟨ha,by simp⟩
  ·obtain ⟨h1,h2⟩:=List.mem_filter.1 hq
   exact List.mem_filter.2 ⟨h1,by simp [h2]⟩
 ·obtain ⟨h1,h2⟩:=List.mem_filter.1 hq
  by_cases e:q.1=n
  ·have:=ris_uniq h h1 ha e
   subst this;exact mem_insA.2 (.inl rfl)
  ·refine mem_insA.2 (.inr (List.mem_filter.2 ⟨List.mem_filter.2 ⟨h1,?_⟩,by simpa using e⟩))
   have e2:(q.1 == n)=false:=by rw [beq_eq_false_iff_ne];exact e
   simpa [e2] using h2
theorem at_found {α:Type} {q:IntKind} {f:α→DataW Unit} {l:List (Nat × α)} {x:Int} {d:DataW Unit} (h:∀ zd,(encM q f l).atKey (.int q x) zd=d):∃ kn a,x=((kn:Nat):Int)∧getA kn l=some a∧d=f a:=by
 by_cases hx:x<0
 ·have h1:=h (.lit (.bool true))
  have h2:=h (.lit (.bool false));rw [at_enc_neg q f x hx l] at h1 h2;rw [← h2] at h1
  cases h1
 ·obtain ⟨kn,rfl⟩:∃ kn:Nat,x=(kn:Int):=⟨x.toNat,by omega⟩
  cases hg:getA kn l with
  | some a =>
   have h1:=h (.lit (.bool true));rw [at_enc,hg] at h1;exact ⟨kn,a,rfl,hg,h1.symm⟩
  | none =>
   have h1:=h (.lit (.bool true));have h2:=h (.lit (.bool false));rw [at_enc,hg] at h1 h2;have h3:(DataW.lit (.bool true):DataW Unit)=d:=h1;have h4:(DataW.lit (.bool false):DataW Unit)=d:=h2;rw [← h4] at h3
   cases h3
theorem RVol_shape {v:Value} {y:DataW Unit × List MemPlace} (h:RVol v=some y):∃ c:Int × Option Nat,v = .agg #[.int .i64 c.1,.map c.2]:=by
 unfold RVol at h
 split at h
 ·exact ⟨(_,_),rfl⟩
 ·cases h
theorem keyU_inv {key:Value} {kl:Lit} (h:keyOf Tryz.prog 38 key=some kl):∃ x:Int,key = .int .u64 x:=by
 obtain ⟨x,rfl,_⟩:=Maps.keyOf_int_inv undU64 h;exact ⟨x,rfl⟩
theorem strip_in {l:List (Nat × (Vl × Nat))} {p:Nat × Vl} (h:p∈strip l):∃ b,(p.1,(p.2,b))∈l:=by
 unfold strip mapA at h;obtain ⟨x,hx,rfl⟩:=List.mem_map.1 h;exact ⟨x.2.2,hx⟩
theorem left_start (l:List (Nat × (Vl × Nat))):(strip l).filter (fun p => !(Maps.has (encM .u64 volF l) (.int .u64 (p.1:Int))))=[]:=by
 rw [List.filter_eq_nil_iff];intro p hp;rw [has_enc];obtain ⟨b,hb⟩:=strip_in hp
 cases hg:getA p.1 l with
 | some x=>simp
 | none=>exact absurd rfl (getA_none hg _ hb)
theorem dcopy_at (n0:Nat) (w:World) (B Ba:Nat) (l:List (Nat × (Vl × Nat))) (h:DevAt n0 w B Ba l) :
  Calls Tryz.prog 27 #[.pointer (some ⟨B,0,none⟩)] w fun e w'=>∃ B' Ba' l',e = .returned (.pointer (some ⟨B',0,none⟩))∧DevAt w.heap.size w' B' Ba' l'∧strip l'=strip l∧Below w.heap.size w w':=by
 have CT:=dthere_any w _ true h.dv;have CN:=dnew_any w.heap.size w (Nat.le_refl _);have HH:=hid h;have K:Keyed Tryz.prog 38:=int_keyed undU64;clear h
 go_enter Tryz.func27,Tryz.ntmps27
 go_wp2_with fail;refine CT.mono ?_;rintro e w1 ⟨rfl,rfl⟩;go_wp2_with fail;refine CN.mono ?_;rintro e w2 ⟨B',Ba',rfl,hd2,hb2,hB',hBa'⟩;dsimp only;have HB2:=hid hb2;have HD2:=hid hd2;have HH2:=hid (HH.out.below hb2);have c0:=HH2.out.cell;have hown:w2.ownsMap Tryz.prog 38 RVol Ba l.length (encM .u64 volF l):=HH2.out.all;have HNAA:Hid (Ba≠Ba'):=hid (by have:=HH.out.all.lt;omega);have HNB:Hid (w.heap.size≤B'∧w.heap.size≤Ba'):=hid ⟨hB',hBa'⟩;clear CT CN hd2 hb2 hB' hBa'
 go_wp2_with (at_range;refine wpList_range_own _ rfl _ 61 rfl 38 84 K undAll RVol Ba _ _ rfl hown ?_;intro w0 hrg0 hg0 hs0)
 have HR0:=hid hrg0;have HG0:=hid hg0;obtain ⟨r,hr⟩:∃ r,w2.heap.size=r:=⟨_,rfl⟩
 have HRS:=hid hr;rw [hr] at HR0 ⊢;clear c0 hown hrg0 hg0 hs0 hr
 go_frame
 go_loopw [16] (fun _ wr=>∃ (left:Lit→Bool) (cnt:Nat) (lo:List (Nat × (Vl × Nat))),wr.ranges Tryz.prog 38 RVol Ba r l.length (encM .u64 volF l) left cnt∧DevAt w.heap.size wr B' Ba' lo∧strip lo=(strip l).filter (fun p => !(left (.int .u64 (p.1:Int))))∧Below w.heap.size w wr∧(∀ k∈dF Ba' lo,k≠r)) (fun _ wr=>wr.rangeLeft Ba r)
 case atStart =>
  have hb0:Below w2.heap.size w2 w0:=⟨HG0.out.os,HG0.out.tape,HG0.out.output,HG0.out.size,fun k hk=>HG0.out.block k hk (by simp)⟩
  exact ⟨_,_,[],HR0.out,HD2.out.below hb0,by rw [left_start];rfl,bthen HB2.out hb0,fun k hk=>by
   have e:k=Ba':=by simpa [dF] using hk
   have:=HD2.out.all.lt;have:=HRS.out
   omega⟩
 case round =>
  obtain ⟨left,cnt,lo,hrg,hdo,hst,hbw,hnr⟩:=hrel;have HNR:=hid hnr;clear hnr;have HDO:=hid hdo;have HBW:=hid hbw;have HSTO:=hid hst;clear hdo hbw hst
  go_wp2_with (at_next;refine wpList_next_ranges _ rfl _ rfl 38 K RVol (Value.int .u64) (fun c:Int × Option Nat=>.agg #[.int .i64 c.1,.map c.2]) (fun key kl hkey=>keyU_inv hkey) (fun v y hv=>RVol_shape hv) Ba r _ _ _ _ rfl hrg ?_ ?_)
  ·intro _ hl0
   go_wp2_with fail;go_ret;refine ⟨B',Ba',lo,rfl,HDO.out,?_,HBW.out⟩;rw [HSTO.out,List.filter_eq_self];intro p _
   simp [hl0]
  ·intro x c1 c2 kl yd yp w1 cnt1 hkey hlx hv hat hrg1 hlt hg1 hs1 hen
   obtain ⟨x',ex,rfl,hwx⟩:=Maps.keyOf_int_inv undU64 hkey
   cases ex
   obtain ⟨kn,y,rfl,hgy,hyd⟩:=at_found hat;obtain ⟨hval,_⟩:=RVol_inv (x:=((y.1.size:Int),some y.2)) (by rw [hv,hyd];rfl);obtain ⟨rfl,rfl⟩:c1=(y.1.size:Int)∧c2=some y.2:=by simpa using hval
   have HGY:=hid hgy;have HLX:=hid hlx;have HCN:=hid hlt;have HLE:=hid hrg.left_eq;have HRG1:=hid hrg1;have hrw:w.heap.size≤r:=by rw [← HRS.out];exact HB2.out.size
   have HBW1:=hid (HBW.out.grown hg1 HBW.out.size (fun k e=>by cases e;exact hrw));have hm1:Mods [r] wr w1:=⟨hg1.os,hg1.tape,hg1.output,hg1.size,fun k hk hn=>hg1.block k hk (fun e=>hn (by simp [Option.some.inj e]))⟩
   have HD1:=hid (HDO.out.kept hm1 (fun hh=>by
    have e:B'=r:=by simpa using hh
    have:=HD2.out.lt;have:=HRS.out
    omega) (fun k hk hh=>HNR.out k hk (by simpa using hh)))
   have HKN:Hid (1≤kn∧kn<4294967296):=hid (HH.out.ok.nat (kn,y.1) (by unfold strip mapA;exact List.mem_map.2 ⟨_,getA_some hgy,rfl⟩));have HYOK:=hid (HH.out.ok.vol (kn,y.1) (by unfold strip mapA;exact List.mem_map.2 ⟨_,getA_some hgy,rfl⟩));have HYM:Hid (∀ X,Below w.heap.size w X→MapL X Tryz.prog 3 RBlk .i64 blkD y.2 y.1.m):=hid (fun X hX=>(HH.out.vol _ (getA_some HGY.out)).below hX);clear hkey hlx hv hat hrg1 hlt hs1 hgy hyd hval hwx hg1 hm1 hrg;obtain ⟨w5,hw5⟩:∃ W,w1.alloc (.cells #[.int .i64 (y.1.size:Int),.map (some y.2)] 84)=W:=⟨_,rfl⟩
   have HB5:Hid (Below w1.heap.size w1 w5):=hid (by rw [← hw5];exact balloc (Below.refl _ _) _);have HX5:Hid (w5.heap[w1.heap.size]? = some (.cells #[.int .i64 (y.1.size:Int),.map (some y.2)] 84 (0,0))):=hid (by rw [← hw5];exact heap_alloc_new w1 _);have HDF:=hid (HD1.out.below HB5.out);have HLT5:=hid (hLT HX5.out);have HNA:Hid (w1.heap.size∉[Ba']):=hid (fun hh=>by
    have e:w1.heap.size=Ba':=by simpa using hh
    have:=HD1.out.all.lt
    omega)
   go_wp2_with fail
   (try rw [hw5])
   clear hw5 hen;have HSS:Hid (∀ X,Mods [Ba'] w5 X→(X.cell? ⟨B',0,none⟩=some (.map (some Ba'))∧X.cell? ⟨w1.heap.size,0,none⟩=some (.int .i64 (y.1.size:Int))∧X.cell? ⟨w1.heap.size,1,none⟩=some (.map (some y.2)))∧Mods [Ba'] w5 X):=hid (fun X hb=>⟨⟨(World.cell?_of_block (hb.block _ (HDF.out.lt) (by simpa using HDF.out.B_ne))).trans (HDF.out.cell),(World.cell?_of_block (hb.block _ (HLT5.out) (HNA.out))).trans (cellOf HX5.out 0 rfl),(World.cell?_of_block (hb.block _ (HLT5.out) (HNA.out))).trans (cellOf HX5.out 1 rfl)⟩,hb⟩)
   refine wp_region_held_drew (S:=fun X=>(X.cell? ⟨B',0,none⟩=some (.map (some Ba'))∧X.cell? ⟨w1.heap.size,0,none⟩=some (.int .i64 (y.1.size:Int))∧X.cell? ⟨w1.heap.size,1,none⟩=some (.map (some y.2)))∧Mods [Ba'] w5 X) (by kernel_rfl) (HSS.out _ (Mods.of_below (Below.refl _ _).drew)) (fun hHeld => ?_);have hbe:Below w5.heap.size w5 w5.drew:=(Below.refl _ _).drew;obtain ⟨wd,hwd⟩:∃ y,w5.drew=y:=⟨_,rfl⟩
   rw [hwd] at hHeld hbe ⊢;have HBE:=hid hbe;have HS0:Hid (w5.heap.size≤wd.heap.size):=hid HBE.out.size;clear hwd hbe;refine tkA 0 rfl ?_;refine tkA 4 rfl ?_;refine tkA 5 rfl ?_;refine tkA 7 rfl ?_;refine tkA 1 rfl ?_;refine tkA 6 rfl ?_;refine tkA 8 rfl ?_;refine tkA 2 rfl ?_;refine tkA 3 rfl ?_;refine rd1 9 rfl fun K hK => ?_;simp only [gE1,gE2,gE3];go_simp;refine (clone_blk _ y.2 y.1.m (HYM.out _ (HBW1.out.trans ((HB5.out.trans (HBE.out.mono HB5.out.size)).mono HBW1.out.size)))).mono ?_;rintro e w6 ⟨rfl,hm6,hb6⟩;dsimp only;have HBE:=hid (bthen HBE.out hb6)
   clear hHeld;refine hK.out _ _ (HSS.out _ (Mods.of_below HBE.out)) fun hHeld => ?_;clear hK K;try simp only [Act.put,pE1,pE2,pE3]
   have HC9:=hid hb6;clear hb6;refine tkA 10 rfl ?_;refine rd1 11 rfl fun K hK => ?_;obtain ⟨w7,hup,hml,hmod⟩:=(HDF.out.below HBE.out).all.put undU64 undAll (HDF.out.short) (wfU (n:=kn) (Nat.lt_trans HKN.out.2 (by decide))) (a:=(y.1,wd.heap.size)) (RVol_mk (y.1.size:Int) (some wd.heap.size));simp only [gE1,gE2,gE3];go_simp;refine hK.out _ _ ?_ (fun hHeld => ?_)
   ·exact HSS.out _ ((Mods.of_below HBE.out).trans hmod (fun i hi=>.inl hi))
   clear hK K;try simp only [Act.put,pE1,pE2,pE3]
   refine wpAnyH_done (by kernel_rfl) ?_ _;have HEND:=hid hHeld.2;have HSE:=hid hHeld.1;clear hHeld;have HWD:Hid (w1.heap.size+1≤wd.heap.size):=hid (by have:=HS0.out;have:=HLT5.out;omega)
   have HD5:Hid (DevAt w.heap.size w7 B' Ba' (putA kn (y.1,wd.heap.size) lo)):=hid ((HDF.out.below HBE.out).putAt hml (hm6.mods hmod (by have:=HWD.out;have:=HD1.out.all.lt;simp;omega)) hmod HKN.out HYOK.out (by have:=HWD.out;have:=HBW1.out.size;omega) (by have:=HWD.out;have:=HD1.out.all.lt;omega) (fun p hp e=>absurd e (by have:=HWD.out;have:=(HD1.out.vol p hp).lt;omega)));have hb16:=bthen HB5.out HBE.out;have hg6:w1.grownBy w6 none:=⟨hb16.os,hb16.tape,hb16.output,hb16.size,fun k hk _=>hb16.block k hk⟩
   have hg7:w6.grownBy w7 (some Ba'):=⟨hmod.os,hmod.tape,hmod.output,hmod.size,fun k hk hn=>hmod.block k hk (fun hh=>hn (by
    have e:k=Ba':=by simpa using hh
    rw [e]))⟩
   have HRG5:=hid ((HRG1.out.kept hg6 (by simp) (by simp)).kept hg7 (fun e=>HNAA.out (Option.some.inj e)) (fun e=>HNR.out Ba' (List.mem_cons_self ..) (Option.some.inj e).symm));have HBW5:Hid (Below w.heap.size w w7):=hid ((HBW1.out.grown hg6 HBW1.out.size (fun k e=>by cases e)).grown hg7 (Nat.le_trans HBW1.out.size hg6.size) (fun k e=>by cases e;exact HNB.out.2));have HST:Hid (strip (putA kn (y.1,wd.heap.size) lo)=(strip l).filter (fun p => !(left (.int .u64 (p.1:Int)) && !(Lit.int .u64 (p.1:Int)).sameKey (.int .u64 (kn:Int))))):=hid (by
    rw [strip_put,HSTO.out,put_filter HH.out.ok.ris (by unfold strip mapA;exact List.mem_map.2 ⟨_,getA_some HGY.out,rfl⟩)];refine List.filter_congr fun p _ => ?_;rw [same_enc]
    cases left (.int .u64 (p.1:Int)) <;> cases (p.1 == kn) <;> rfl)
   have HNR5:Hid (∀ k∈dF Ba' (putA kn (y.1,wd.heap.size) lo),k≠r):=hid (fun k hk=>by
    rcases dF_put k hk with h | rfl
    ·exact HNR.out k h
    ·have:=HWD.out
     have:=HRG1.out.lt
     omega)
   clear hml hmod hup hg6 hg7 hm6 hb16;clear HEND HSE HSS HBE;go_wp2_with fail;go_roundw
   case rel=>exact ⟨_,cnt1,_,HRG5.out,HD5.out,HST.out,HBW5.out,HNR5.out⟩
   case measure=>rw [HRG5.out.left_eq,HLE.out];exact HCN.out
end Go.Proofs.YthkmihedkddnmaaGreat
namespace Go.Proofs.YthkmihedkddnmaaGreat
open Lib (hid)
open Go.RowKit Go.Maps Wire Cmd
theorem ris_sub {α:Type}:∀ {m l:List (Nat × α)},Ris l→Ris m→(∀ p∈l,p∈m)→l.length≤m.length∧(l.length=m.length→l=m)
 | [],[],_,_,_=>⟨Nat.le_refl _,fun _=>rfl⟩
 | [],x :: l,_,_,h=>absurd (h x (List.mem_cons_self ..)) (by simp)
 | y :: m,[],_,_,_=>⟨Nat.zero_le _,fun h=>by cases h⟩
 | y :: m,x :: l,hl,hm,h=>by
  obtain ⟨h1,h2⟩:=List.pairwise_cons.1 hl;obtain ⟨k1,k2⟩:=List.pairwise_cons.1 hm
  by_cases hxy:x=y
  ·subst hxy
   have hs:∀ p∈l,p∈m:=fun p hp=>by
    rcases List.mem_cons.1 (h p (List.mem_cons_of_mem _ hp)) with e | hq
    ·have:=h1 p hp
     rw [e] at this;omega
    ·exact hq
   obtain ⟨i1,i2⟩:=ris_sub h2 k2 hs;refine ⟨Nat.succ_le_succ i1,fun e=>by rw [i2 (Nat.succ.inj e)]⟩
  ·have hx:x∈m:=by
    rcases List.mem_cons.1 (h x (List.mem_cons_self ..)) with e | hq
    ·exact absurd e hxy
    ·exact hq
   have hs:∀ p∈x :: l,p∈m:=fun p hp=>by
    rcases List.mem_cons.1 (h p hp) with e | hq
    ·have a1:=k1 x hx
     rcases List.mem_cons.1 hp with e2 | hp2
     ·exact absurd (e2.symm.trans e) hxy
     ·have:=h1 p hp2
      rw [e] at this;omega
    ·exact hq
   obtain ⟨i1,_⟩:=ris_sub hl k2 hs;exact ⟨Nat.le_succ_of_le i1,fun e=>absurd e (by simp only [List.length_cons] at i1 ⊢;omega)⟩
theorem ris_all {α:Type} {l m:List (Nat × α)} (hl:Ris l) (hm:Ris m) (hn:l.length=m.length) (h:∀ p∈l,getA p.1 m=some p.2):l=m :=
 (ris_sub hl hm (fun p hp=>getA_some (h p hp))).2 hn
section
variable {P:Program} {ops:Array Oper} {rest:List Oper} {o:Oper} {a:Act} {Q:Exit→Act→World→Prop} {w:World}
theorem wpList_yes (hw:Region.wanted o (yielded ops a.tmps)=true) (h:∀ K:Act→World→Prop,(∀ a w,wpList P ops Q rest a w→K a w)→o.wp P a w K Q):wpList P ops Q (o :: rest) a w :=
 wpList_step fun K hK=>by simp only [hw,if_true];exact h K hK
theorem wpList_load_yes (hw:Region.wanted o (yielded ops a.tmps)=true) (ty:TypeId) (x:Operand) (ho:o.op = .load ty x) (b of:Nat) (hx:a.eval x = .pointer (some ⟨b,of,none⟩)) (cs:List Value) (d:TypeDesc) (hc:w.rangeAt b of cs)
  (hu:P.underlying ty=some d) (hd:d.isRow=true) (hi:(P.info? ty).map (·.size)=some cs.length)
  (h:wpList P ops Q rest (a.put o.dst (.agg cs.toArray)) w):wpList P ops Q (o :: rest) a w:=by
 refine wpList_yes hw fun K hK => ?_;unfold Oper.wp execOp;simp only [ho,hx,Instr.loadAt,Instr.sureAddr,Sem.run_bind,Sem.run_pure,Result.andThen_ok,run_loadVar_mid w b of ty cs d hc hu hd hi];exact hK _ _ h
end
theorem keyI_inv {key:Value} {kl:Lit} (h:keyOf Tryz.prog 3 key=some kl):∃ x:Int,key = .int .i64 x:=by
 obtain ⟨x,rfl,_⟩:=Maps.keyOf_int_inv undInt h;exact ⟨x,rfl⟩
theorem MapL.blkAtOk {w:World} {b:Nat} {m:List (Nat × List UInt8)} (h:MapL w Tryz.prog 3 RBlk .i64 blkD b m) {n:Nat} (hn:n<9223372036854775808) :
  (Instr.lookup 82 (.map (some b)) (.int .i64 (n:Int)) true).run Tryz.prog w = .ok (.tuple #[bA (blkAt m n),.bool (getA n m).isSome]) w:=by
 have:=h.blkOk (k:=(n:Int)) (by omega);rw [getI_nat] at this;exact this
theorem meq_blk (w:World) (b1 b2:Nat) (m1 m2:List (Nat × List UInt8)) (h1:MapL w Tryz.prog 3 RBlk .i64 blkD b1 m1) (h2:MapL w Tryz.prog 3 RBlk .i64 blkD b2 m2) (r1:Ris m1) (r2:Ris m2)
  (k1:∀ q∈m1,q.1<9223372036854775808∧q.2.length=256) (k2:∀ q∈m2,q.2.length=256) :
  Calls Tryz.prog 61 #[.map (some b1),.map (some b2)] w fun e w'=>e = .returned (.bool (decide (m1=m2)))∧Below w.heap.size w w':=by
 have l1:=fun ty=>h1.len (t:=82) undBlks ty;have l2:=fun ty=>h2.len (t:=82) undBlks ty;have HR1:=hid r1;have HR2:=hid r2;have HK1:=hid k1;have HK2:=hid k2;have H2:=hid h2;have HL1:=hid h1.lt;have K:Keyed Tryz.prog 3:=int_keyed undInt;have hown:w.ownsMap Tryz.prog 3 RBlk b1 m1.length (encM .i64 blkD m1):=h1;have HZ:Hid (∀ (X:World) (c:List UInt8),c.length=256→(storeCells ⟨X.heap.size,0,none⟩ (bV c)).run Tryz.prog (X.alloc (.cells Tryz.zeroCells50 50)) = .ok () (X.alloc (.cells (bV c).toArray 50))):=hid (fun X c hc=>by
  have:=run_storeNew (P:=Tryz.prog) X 50 Tryz.zeroCells50 (bV c).toArray (by rw [zszM];simp [bV_len,hc]) (by simpa using bV_one c)
  simpa using this)
 have HNE:Hid (∀ (X:World) (c d:List UInt8),c.length=256→d.length=256→(Op.equalIn 10000 50 (.agg (bV c).toArray) (.agg (bV d).toArray)).run Tryz.prog X = .ok (c == d) X):=hid (fun X c d hc hd=>run_equalIn_bytes (P:=Tryz.prog) X (t:=50) (e:=5) (n:=256) Tryz.underlying50 Tryz.underlying5 rfl rfl 9998 c d hc hd);clear r1 r2 k1 k2 h1 h2
 by_cases hlen:m1.length=m2.length
 ·have HLEN:=hid hlen
  obtain ⟨n1,hn1⟩:∃ n,m1.length=n:=⟨_,rfl⟩
  have HN1:=hid hn1;rw [← hlen,hn1] at l2;rw [hn1] at l1 hown;clear hlen hn1
  go_enter Tryz.func61,Tryz.ntmps61
  go_wp2_with (at_range;refine wpList_range_own _ rfl _ 82 rfl 3 50 K undBlks RBlk b1 _ _ rfl hown ?_;intro w0 hrg0 hg0 hs0)
  have HB0:Hid (Below w.heap.size w w0):=hid ⟨hg0.os,hg0.tape,hg0.output,hg0.size,fun k hk=>hg0.block k hk (by simp)⟩;have HRG0:=hid hrg0;clear hrg0 hg0 hs0 l1 l2 hown
  go_frame
  go_loopw [17] (fun _ wr=>∃ (left:Lit→Bool) (cnt:Nat),wr.ranges Tryz.prog 3 RBlk b1 w.heap.size n1 (encM .i64 blkD m1) left cnt∧(∀ p∈m1,left (.int .i64 (p.1:Int))=false→getA p.1 m2=some p.2)∧Below w.heap.size w wr) (fun _ wr=>wr.rangeLeft b1 w.heap.size)
  case atStart =>
   refine ⟨_,_,HRG0.out,fun p hp hl => ?_,HB0.out⟩;rw [has_enc] at hl
   cases hg:getA p.1 m1 with
   | some x=>rw [hg] at hl;cases hl
   | none=>exact absurd rfl (getA_none hg _ hp)
  case round =>
   obtain ⟨left,cnt,hrg,hgood,hbw⟩:=hrel;have HGOOD:=hid hgood;have HBW:=hid hbw;clear hgood hbw
   go_wp2_with (at_next;refine wpList_next_ranges _ rfl _ rfl 3 K RBlk (Value.int .i64) (fun c:{c:List UInt8 // c.length=256}=>bA c.1) (fun key kl hkey=>keyI_inv hkey) (fun v y hv=>RBlk_shape hv) b1 w.heap.size _ _ _ _ rfl hrg ?_ ?_)
   ·intro _ hl0
    have HE:Hid (decide (m1=m2)=true):=hid (decide_eq_true (ris_all HR1.out HR2.out HLEN.out (fun p hp=>HGOOD.out p hp (hl0 _))));go_wp2_with fail;go_ret;exact ⟨by rw [HE.out];rfl,HBW.out⟩
   ·intro x c hcl kl yd yp w1 cnt1 hkey hlx hv hat hrg1 hlt hg1 hs1 hen
    obtain ⟨x',ex,rfl,hwx⟩:=Maps.keyOf_int_inv undInt hkey
    cases ex
    obtain ⟨kn,y,rfl,hgy,hyd⟩:=at_found hat;have hyl:=(HK1.out _ (getA_some hgy)).2;have hyc:c=y:=by
     rw [hyd] at hv;obtain ⟨_,hval,_⟩:=RBlk_inv hv;exact bA_inj hval
    subst hyc;have HGY:=hid hgy;have HLX:=hid hlx;have HCN:=hid hlt;have HLE:=hid hrg.left_eq;have HRG1:=hid hrg1;have HKN:Hid (kn<9223372036854775808):=hid ((HK1.out _ (getA_some hgy)).1);have HBW1:Hid (Below w.heap.size w w1):=hid (HBW.out.grown hg1 HBW.out.size (fun k e=>by cases e;exact Nat.le_refl _));have HLK:Hid (∀ X,Below w.heap.size w X→(Instr.lookup 82 (.map (some b2)) (.int .i64 (kn:Int)) true).run Tryz.prog X = .ok (.tuple #[bA (blkAt m2 kn),.bool (getA kn m2).isSome]) X):=hid (fun X hX=>(H2.out.below hX).blkAtOk HKN.out)
    obtain ⟨d,hd⟩:∃ d,blkAt m2 kn=d:=⟨_,rfl⟩
    obtain ⟨q,hq⟩:∃ q,(getA kn m2).isSome=q:=⟨_,rfl⟩
    have hdl:d.length=256:=by rw [← hd];exact blkAt_len HK2.out kn
    have HD:=hid hd;have HQ:=hid hq;rw [hd,hq] at HLK;clear hkey hlx hv hat hrg1 hlt hs1 hgy hyd hwx hg1 hrg hyl hd hq;have hst1:(storeCells ⟨w1.heap.size,0,none⟩ (bV c)).run Tryz.prog (w1.alloc (.cells Tryz.zeroCells50 50)) = .ok () (w1.alloc (.cells (bV c).toArray 50)):=HZ.out w1 c hcl;have hcs:(bV c).toArray.size=256:=by simp [bV_len,hcl]
    have hds:(bV d).toArray.size=256:=by simp [bV_len,hdl]
    obtain ⟨w2,hw2⟩:∃ W,w1.alloc (.cells (bV c).toArray 50)=W:=⟨_,rfl⟩
    have hb2:Below w1.heap.size w1 w2:=by rw [← hw2];exact balloc (Below.refl _ _) _
    have hx2:w2.heap[w1.heap.size]? = some (.cells (bV c).toArray 50 (0,0)):=by rw [← hw2];exact heap_alloc_new w1 _
    have hst2:(storeCells ⟨w2.heap.size,0,none⟩ (bV d)).run Tryz.prog (w2.alloc (.cells Tryz.zeroCells50 50)) = .ok () (w2.alloc (.cells (bV d).toArray 50)):=HZ.out w2 d hdl;obtain ⟨w3,hw3⟩:∃ W,w2.alloc (.cells (bV d).toArray 50)=W:=⟨_,rfl⟩
    have hb3:Below w2.heap.size w2 w3:=by rw [← hw3];exact balloc (Below.refl _ _) _
    have hx3:w3.heap[w2.heap.size]? = some (.cells (bV d).toArray 50 (0,0)):=by rw [← hw3];exact heap_alloc_new w2 _
    have hlk:(Instr.lookup 82 (.map (some b2)) (.int .i64 (kn:Int)) true).run Tryz.prog w2 = .ok (.tuple #[.agg (bV d).toArray,.bool q]) w2:=HLK.out w2 (bthen HBW1.out hb2);have HB3:=hid (bthen hb2 hb3);have HX3:=hid (And.intro ((hb3.block _ (hLT hx2)).trans hx2) hx3);clear hb2 hx2 hb3 hx3;unfold bA at hen
    cases q with
    | false =>
     have HE:Hid (decide (m1=m2)=false):=hid (decide_eq_false (fun e=>by
      have h1:=HGY.out;rw [e] at h1;have h2:=HQ.out;rw [h1] at h2
      cases h2))
     go_wp2_with fail;go_ret;exact ⟨by rw [HE.out];rfl,bthen HBW1.out HB3.out⟩
    | true =>
     have hne:=HNE.out w3 c d hcl hdl;have HI:=hid (And.intro (infoB hcl) (infoB hdl));obtain ⟨z,hz⟩:∃ z,(c == d)=z:=⟨_,rfl⟩
     have HZZ:=hid hz;rw [hz] at hne;clear hz
     cases z with
     | false =>
      have HE:Hid (decide (m1=m2)=false):=hid (decide_eq_false (fun e=>by
       have h1:=HGY.out;rw [e] at h1;have h2:=HD.out;unfold blkAt at h2;rw [h1] at h2;have h3:=HZZ.out;rw [show c=d from h2,beq_self_eq_true] at h3
       cases h3))
      go_wp2_with (first
       | (refine wpList_load_yes (by kernel_rfl) 50 _ rfl w1.heap.size 0 rfl (bV c) _ (blkBox HX3.out.1) Tryz.underlying50 rfl HI.out.1 ?_)
       | (refine wpList_load_yes (by kernel_rfl) 50 _ rfl w2.heap.size 0 rfl (bV d) _ (blkBox HX3.out.2) Tryz.underlying50 rfl HI.out.2 ?_))
      go_ret;exact ⟨by rw [HE.out];rfl,bthen HBW1.out HB3.out⟩
     | true =>
      go_wp2_with (first
       | (refine wpList_load_yes (by kernel_rfl) 50 _ rfl w1.heap.size 0 rfl (bV c) _ (blkBox HX3.out.1) Tryz.underlying50 rfl HI.out.1 ?_)
       | (refine wpList_load_yes (by kernel_rfl) 50 _ rfl w2.heap.size 0 rfl (bV d) _ (blkBox HX3.out.2) Tryz.underlying50 rfl HI.out.2 ?_))
      have hg3:w1.grownBy w3 none:=⟨HB3.out.os,HB3.out.tape,HB3.out.output,HB3.out.size,fun k hk _=>HB3.out.block k hk⟩
      have HRG3:=hid (HRG1.out.kept hg3 (by simp) (by simp));go_roundw
      case rel =>
       refine ⟨_,cnt1,HRG3.out,fun p hp hl => ?_,bthen HBW1.out HB3.out⟩;rw [same_enc] at hl
       by_cases e:p.1=kn
       ·have hpc:p.2=c:=by
         have h1:=HGY.out;have h2:getA p.1 m1=some p.2:=by
          obtain ⟨i,hi⟩:=List.getElem?_of_mem hp;exact getA_at HR1.out hi
         rw [e,h1] at h2;exact (Option.some.inj h2).symm
        have h2:=HD.out;have h3:=HQ.out;unfold blkAt at h2
        cases hg:getA kn m2 with
        | none=>rw [hg] at h3;cases h3
        | some x =>
         rw [hg] at h2;have h4:x=d:=h2;rw [e,hg,hpc,h4,eq_of_beq HZZ.out]
       ·have e2:(p.1 == kn)=false:=by rw [beq_eq_false_iff_ne];exact e
        rw [e2] at hl;exact HGOOD.out p hp (by simpa using hl)
      case measure=>rw [HRG3.out.left_eq,HLE.out];exact HCN.out
 ·have HE:Hid (decide (m1=m2)=false):=hid (decide_eq_false (fun e=>hlen (by rw [e])))
  have hne:((m1.length:Int) == (m2.length:Int))=false:=by rw [beq_eq_false_iff_ne];omega
  obtain ⟨n1,hn1⟩:∃ n,m1.length=n:=⟨_,rfl⟩
  obtain ⟨n2,hn2⟩:∃ n,m2.length=n:=⟨_,rfl⟩
  rw [hn1] at l1 hne;rw [hn2] at l2 hne;clear hlen hn1 hn2 hown
  go_enter Tryz.func61,Tryz.ntmps61
  go_wp2_with fail;go_ret;exact ⟨by rw [HE.out];rfl,Below.refl _ _⟩
end Go.Proofs.YthkmihedkddnmaaGreat
namespace Go.Proofs.YthkmihedkddnmaaGreat
open Lib (hid)
open Go.RowKit Go.Maps Wire Cmd
theorem vl_ext {a b:Vl} (h1:a.size=b.size) (h2:a.m=b.m):a=b:=by
 cases a
 cases b
 simp only at h1 h2
 rw [h1,h2]
instance:DecidableEq Vl:=fun a b=>decidable_of_iff (a.size=b.size∧a.m=b.m) ⟨fun h=>vl_ext h.1 h.2,fun h=>by rw [h];exact ⟨rfl,rfl⟩⟩
theorem dsame1_any (w:World) (v1 v2:Vl) (b1 b2:Nat) (h1:MapL w Tryz.prog 3 RBlk .i64 blkD b1 v1.m) (h2:MapL w Tryz.prog 3 RBlk .i64 blkD b2 v2.m) (o1:v1.Ok) (o2:v2.Ok) :
  Calls Tryz.prog 60 #[.agg #[.int .i64 (v1.size:Int),.map (some b1)],.agg #[.int .i64 (v2.size:Int),.map (some b2)]] w fun e w'=>e = .returned (.bool (decide (v1=v2)))∧Below w.heap.size w w':=by
 have HB:=hid (balloc (balloc (Below.refl _ w) (.cells #[.int .i64 (v1.size:Int),.map (some b1)] 84)) (.cells #[.int .i64 (v2.size:Int),.map (some b2)] 84));have CE:=meq_blk _ b1 b2 v1.m v2.m (h1.below HB.out) (h2.below HB.out) o1.ris o2.ris (fun q hq=>⟨by have:=o1.lt q hq;have:=o1.size;omega,o1.blk q hq⟩) o2.blk;have HEX:Hid (v1.size=v2.size→decide (v1.m=v2.m)=decide (v1=v2)):=hid (fun e=>by
  rw [Bool.eq_iff_iff,decide_eq_true_eq,decide_eq_true_eq];exact ⟨fun h=>vl_ext e h,fun h=>by rw [h]⟩)
 have HNX:Hid (v1.size≠v2.size→decide (v1=v2)=false):=hid (fun e=>decide_eq_false (fun h=>e (by rw [h])));obtain ⟨s1,hs1⟩:∃ s,v1.size=s:=⟨_,rfl⟩
 obtain ⟨s2,hs2⟩:∃ s,v2.size=s:=⟨_,rfl⟩
 rw [hs1,hs2] at HB HEX HNX CE;rw [hs1,hs2];clear h1 h2 o1 o2 hs1 hs2
 by_cases hs:s1=s2
 ·have HE:=hid (HEX.out hs)
  subst hs
  go_enter Tryz.func60,Tryz.ntmps60
  go_wp2_with fail;refine CE.mono ?_;rintro e w2 ⟨rfl,hb2⟩;dsimp only;have HB2:=hid (bthen HB.out hb2);rw [HE.out];clear hb2 CE;go_wp2_with fail;go_ret;exact ⟨rfl,HB2.out⟩
 ·have HE:=hid (HNX.out hs)
  have hne:((s1:Int) == (s2:Int))=false:=by rw [beq_eq_false_iff_ne];omega
  clear hs CE
  go_enter Tryz.func60,Tryz.ntmps60
  go_wp2_with fail;go_ret;exact ⟨by rw [HE.out];rfl,HB.out⟩
theorem strip_get {l:List (Nat × (Vl × Nat))} {n:Nat} {x:Vl × Nat} (h:getA n l=some x):getA n (strip l)=some x.1:=by rw [getA_strip,h];rfl
theorem meqf_vol (n1 n2:Nat) (w:World) (B1 Ba1 B2 Ba2:Nat) (l1 l2:List (Nat × (Vl × Nat))) (h1:DevAt n1 w B1 Ba1 l1) (h2:DevAt n2 w B2 Ba2 l2) :
  Calls Tryz.prog 59 #[.map (some Ba1),.map (some Ba2),.func (.func 60) #[] #[]] w fun e w'=>e = .returned (.bool (decide (strip l1=strip l2)))∧Below w.heap.size w w':=by
 have ll1:=fun ty=>h1.all.len (t:=61) undAll ty;have ll2:=fun ty=>h2.all.len (t:=61) undAll ty;have H1:=hid h1;have H2:=hid h2;have K:Keyed Tryz.prog 38:=int_keyed undU64;have hown:w.ownsMap Tryz.prog 38 RVol Ba1 l1.length (encM .u64 volF l1):=h1.all;have HR1:Hid (Ris l1):=hid ((ris_map (fun x:Vl × Nat=>x.1)).1 h1.ok.ris);clear h1 h2
 by_cases hlen:l1.length=l2.length
 ·have HLEN:Hid ((strip l1).length=(strip l2).length):=hid (by unfold strip;rw [mapA_len,mapA_len];exact hlen)
  obtain ⟨n,hn⟩:∃ n,l1.length=n:=⟨_,rfl⟩
  rw [← hlen,hn] at ll2;rw [hn] at ll1 hown;clear hlen hn
  go_enter Tryz.func59,Tryz.ntmps59
  go_wp2_with (at_range;refine wpList_range_own _ rfl _ 61 rfl 38 84 K undAll RVol Ba1 _ _ rfl hown ?_;intro w0 hrg0 hg0 hs0)
  have HB0:Hid (Below w.heap.size w w0):=hid ⟨hg0.os,hg0.tape,hg0.output,hg0.size,fun k hk=>hg0.block k hk (by simp)⟩;have HRG0:=hid hrg0;clear hrg0 hg0 hs0 ll1 ll2 hown
  go_frame
  go_loopw [19] (fun _ wr=>∃ (left:Lit→Bool) (cnt:Nat),wr.ranges Tryz.prog 38 RVol Ba1 w.heap.size n (encM .u64 volF l1) left cnt∧(∀ p∈strip l1,left (.int .u64 (p.1:Int))=false→getA p.1 (strip l2)=some p.2)∧Below w.heap.size w wr) (fun _ wr=>wr.rangeLeft Ba1 w.heap.size)
  case atStart =>
   refine ⟨_,_,HRG0.out,fun p hp hl => ?_,HB0.out⟩;rw [has_enc] at hl;obtain ⟨b,hb⟩:=strip_in hp
   cases hg:getA p.1 l1 with
   | some x=>rw [hg] at hl;cases hl
   | none=>exact absurd rfl (getA_none hg _ hb)
  case round =>
   obtain ⟨left,cnt,hrg,hgood,hbw⟩:=hrel;have HGOOD:=hid hgood;have HBW:=hid hbw;clear hgood hbw
   go_wp2_with (at_next;refine wpList_next_ranges _ rfl _ rfl 38 K RVol (Value.int .u64) (fun c:Int × Option Nat=>.agg #[.int .i64 c.1,.map c.2]) (fun key kl hkey=>keyU_inv hkey) (fun v y hv=>RVol_shape hv) Ba1 w.heap.size _ _ _ _ rfl hrg ?_ ?_)
   ·intro _ hl0
    have HE:Hid (decide (strip l1=strip l2)=true):=hid (decide_eq_true (ris_all H1.out.ok.ris H2.out.ok.ris HLEN.out (fun p hp=>HGOOD.out p hp (hl0 _))));go_wp2_with fail;go_ret;exact ⟨by rw [HE.out];rfl,HBW.out⟩
   ·intro x c1 c2 kl yd yp w1 cnt1 hkey hlx hv hat hrg1 hlt hg1 hs1 hen
    obtain ⟨x',ex,rfl,hwx⟩:=Maps.keyOf_int_inv undU64 hkey
    cases ex
    obtain ⟨kn,y,rfl,hgy,hyd⟩:=at_found hat;obtain ⟨hval,_⟩:=RVol_inv (x:=((y.1.size:Int),some y.2)) (by rw [hv,hyd];rfl);obtain ⟨rfl,rfl⟩:c1=(y.1.size:Int)∧c2=some y.2:=by simpa using hval
    have HGY:=hid hgy;have HLX:=hid hlx;have HCN:=hid hlt;have HLE:=hid hrg.left_eq;have HRG1:=hid hrg1;have HKN:Hid (kn<18446744073709551616):=hid (Nat.lt_trans (H1.out.ok.nat (kn,y.1) (by unfold strip mapA;exact List.mem_map.2 ⟨_,getA_some hgy,rfl⟩)).2 (by decide));have HBW1:Hid (Below w.heap.size w w1):=hid (HBW.out.grown hg1 HBW.out.size (fun k e=>by cases e;exact Nat.le_refl _));have HY1:=hid (H1.out.ok.vol (kn,y.1) (by unfold strip mapA;exact List.mem_map.2 ⟨_,getA_some hgy,rfl⟩))
    obtain ⟨s,p,b,hlk,hcase⟩:=(H2.out.below HBW1.out).looked HKN.out;have HLK:=hid hlk;have HCASE:=hid hcase;clear hkey hlx hv hat hrg1 hlt hs1 hgy hyd hwx hg1 hrg hval hlk hcase;obtain ⟨w2,hw2⟩:∃ W,w1.alloc (.cells #[.int .i64 (y.1.size:Int),.map (some y.2)] 84)=W:=⟨_,rfl⟩
    have hb2:Below w1.heap.size w1 w2:=by rw [← hw2];exact balloc (Below.refl _ _) _
    have hx2:w2.heap[w1.heap.size]? = some (.cells #[.int .i64 (y.1.size:Int),.map (some y.2)] 84 (0,0)):=by rw [← hw2];exact heap_alloc_new w1 _
    obtain ⟨w3,hw3⟩:∃ W,w2.alloc (.cells #[.int .i64 (s:Int),.map p] 84)=W:=⟨_,rfl⟩
    have hb3:Below w2.heap.size w2 w3:=by rw [← hw3];exact balloc (Below.refl _ _) _
    have hx3:w3.heap[w2.heap.size]? = some (.cells #[.int .i64 (s:Int),.map p] 84 (0,0)):=by rw [← hw3];exact heap_alloc_new w2 _
    have hlk2:=HLK.out w2 hb2;have HB3:=hid (bthen hb2 hb3);have hx23:=(hb3.block _ (hLT hx2)).trans hx2;have a0:=cellOf hx23 0 (v:=.int .i64 (y.1.size:Int)) rfl;have a1:=cellOf hx23 1 (v:=.map (some y.2)) rfl;have b0:=cellOf hx3 0 (v:=.int .i64 (s:Int)) rfl;have b1:=cellOf hx3 1 (v:=.map p) rfl;clear hb2 hx2 hb3 hx3 hx23
    rcases HCASE.out with ⟨x,hg2,rfl,rfl,rfl⟩ | ⟨hg2,rfl,rfl,rfl⟩
    ·have HG2:=hid (strip_get hg2)
     have CE:=dsame1_any w3 y.1 x.1 y.2 x.2 ((H1.out.vol _ (getA_some HGY.out)).below (bthen HBW1.out HB3.out)) ((H2.out.vol _ (getA_some hg2)).below (bthen HBW1.out HB3.out)) HY1.out (H2.out.ok.vol (kn,x.1) (by unfold strip mapA;exact List.mem_map.2 ⟨_,getA_some hg2,rfl⟩));obtain ⟨z,hz⟩:∃ z,decide (y.1=x.1)=z:=⟨_,rfl⟩
     have HZZ:=hid hz;rw [hz] at CE;clear hz hg2;go_wp2_with fail;refine CE.mono ?_;rintro e w4 ⟨rfl,hb4⟩;dsimp only;have HB4:=hid (bthen HB3.out hb4);clear hb4 a0 a1 b0 b1 hlk2 hw2 hw3 hen CE
     cases z with
     | false =>
      have HE:Hid (decide (strip l1=strip l2)=false):=hid (decide_eq_false (fun e=>by
       have h1:=strip_get HGY.out;rw [e,HG2.out] at h1;exact of_decide_eq_false HZZ.out (Option.some.inj h1).symm))
      go_wp2_with fail;go_ret;exact ⟨by rw [HE.out];rfl,bthen HBW1.out HB4.out⟩
     | true =>
      go_wp2_with fail;have hg4:w1.grownBy w4 none:=⟨HB4.out.os,HB4.out.tape,HB4.out.output,HB4.out.size,fun k hk _=>HB4.out.block k hk⟩
      have HRG4:=hid (HRG1.out.kept hg4 (by simp) (by simp));go_roundw
      case rel =>
       refine ⟨_,cnt1,HRG4.out,fun q hq hl => ?_,bthen HBW1.out HB4.out⟩;rw [same_enc] at hl
       by_cases e:q.1=kn
       ·have h1:=strip_get HGY.out
        have h2:getA q.1 (strip l1)=some q.2:=by
         obtain ⟨i,hi⟩:=List.getElem?_of_mem hq;exact getA_at H1.out.ok.ris hi
        rw [e,h1] at h2;rw [e,HG2.out,← Option.some.inj h2,of_decide_eq_true HZZ.out]
       ·have e2:(q.1 == kn)=false:=by rw [beq_eq_false_iff_ne];exact e
        rw [e2] at hl;exact HGOOD.out q hq (by simpa using hl)
      case measure=>rw [HRG4.out.left_eq,HLE.out];exact HCN.out
    ·have HE:Hid (decide (strip l1=strip l2)=false):=hid (decide_eq_false (fun e=>by
      have h1:=strip_get HGY.out;rw [e,getA_strip,hg2] at h1
      cases h1))
     clear hg2;go_wp2_with fail;go_ret;exact ⟨by rw [HE.out];rfl,by have h3:=HB3.out;rw [← hw3] at h3;exact bthen HBW1.out h3⟩
 ·have HE:Hid (decide (strip l1=strip l2)=false):=hid (decide_eq_false (fun e=>hlen (by
   have:=congrArg List.length e;unfold strip at this
   rwa [mapA_len,mapA_len] at this)))
  have hne:((l1.length:Int) == (l2.length:Int))=false:=by rw [beq_eq_false_iff_ne];omega
  obtain ⟨m1,hm1⟩:∃ n,l1.length=n:=⟨_,rfl⟩
  obtain ⟨m2,hm2⟩:∃ n,l2.length=n:=⟨_,rfl⟩
  rw [hm1] at ll1 hne;rw [hm2] at ll2 hne;clear hlen hm1 hm2 hown
  go_enter Tryz.func59,Tryz.ntmps59
  go_wp2_with fail;go_ret;exact ⟨by rw [HE.out];rfl,Below.refl _ _⟩
theorem dsame_in (n1 n2:Nat) (w:World) (B1 Ba1 B2 Ba2:Nat) (l1 l2:List (Nat × (Vl × Nat))) (h1:DevAt n1 w B1 Ba1 l1) (h2:DevAt n2 w B2 Ba2 l2) :
  Calls Tryz.prog 28 #[.pointer (some ⟨B1,0,none⟩),.pointer (some ⟨B2,0,none⟩)] w fun e w'=>e = .returned (.bool (decide (strip l1=strip l2)))∧Below w.heap.size w w':=by
 have CT1:=dthere_any w _ true h1.dv;have CT2:=dthere_any w _ true h2.dv;have HE:Hid (∀ X,Below w.heap.size w X→Calls Tryz.prog 59 #[.map (some Ba1),.map (some Ba2),.func (.func 60) #[] #[]] X fun e w'=>e = .returned (.bool (decide (strip l1=strip l2)))∧Below X.heap.size X w'):=hid (fun X hX=>meqf_vol n1 n2 X B1 Ba1 B2 Ba2 l1 l2 (h1.below hX) (h2.below hX));have H1:=hid h1;have H2:=hid h2;obtain ⟨z,hz⟩:∃ z,decide (strip l1=strip l2)=z:=⟨_,rfl⟩
 rw [hz] at HE ⊢;clear h1 h2 hz
 go_enter Tryz.func28,Tryz.ntmps28
 go_wp2_with fail;refine CT1.mono ?_;rintro e w1 ⟨rfl,rfl⟩;go_wp2_with fail;refine CT2.mono ?_;rintro e w1 ⟨rfl,rfl⟩;go_wp2_with fail;clear CT1 CT2;have HSS:Hid (∀ X,Below w.heap.size w X→(X.cell? ⟨B1,0,none⟩=some (.map (some Ba1))∧X.cell? ⟨B2,0,none⟩=some (.map (some Ba2)))∧Below w.heap.size w X):=hid (fun X hb=>⟨⟨(World.cell?_of_block (hb.block _ (H1.out.lt))).trans (H1.out.cell),(World.cell?_of_block (hb.block _ (H2.out.lt))).trans (H2.out.cell)⟩,hb⟩)
 refine wp_region_held_drew (S:=fun X=>(X.cell? ⟨B1,0,none⟩=some (.map (some Ba1))∧X.cell? ⟨B2,0,none⟩=some (.map (some Ba2)))∧Below w.heap.size w X) (by kernel_rfl) (HSS.out _ (Below.refl _ _).drew) (fun hHeld => ?_);have hbe:Below w.heap.size w w.drew:=(Below.refl _ _).drew;obtain ⟨wd,hwd⟩:∃ y,w.drew=y:=⟨_,rfl⟩
 rw [hwd] at hHeld hbe ⊢;have HBE:=hid hbe;have HS0:Hid (w.heap.size≤wd.heap.size):=hid HBE.out.size;clear hwd hbe;refine tkA 0 rfl ?_;refine tkA 4 rfl ?_;refine tkA 1 rfl ?_;refine tkA 5 rfl ?_;refine tkA 2 rfl ?_;refine tkA 6 rfl ?_;refine tkA 3 rfl ?_;refine tkA 7 rfl ?_;refine rd1 8 rfl fun K hK => ?_;simp only [gE1,gE2,gE3];go_simp;refine (HE.out _ HBE.out).mono ?_;rintro e w3 ⟨rfl,hb3⟩;dsimp only;have HBE:=hid (bthen HBE.out hb3);clear hHeld;refine hK.out _ _ (HSS.out _ HBE.out) fun hHeld => ?_;clear hK K;try simp only [Act.put,pE1,pE2,pE3]
 have HC8:=hid hb3;clear hb3;refine tkA 9 rfl ?_;refine wpAnyH_done (by kernel_rfl) ?_ _;have HEND:=hid hHeld.2;have HSE:=hid hHeld.1;clear hHeld;clear HSE HSS HBE;go_wp2_with fail;go_ret;exact ⟨rfl,HEND.out⟩
end Go.Proofs.YthkmihedkddnmaaGreat
