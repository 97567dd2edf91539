import Derived.Test.YthkmihedkddnmaaGreatUG2
import Derived.Test.YthkmihedkddnmaaGreatUG6
import Derived.Test.YthkmihedkddnmaaGreatUG22
import Derived.Test.YthkmihedkddnmaaGreatUG23
import Derived.Test.YthkmihedkddnmaaGreatUG18
set_option linter.unusedVariables false
set_option linter.unusedSimpArgs false
set_option maxHeartbeats 6400000
set_option maxRecDepth 100000
namespace Go.Proofs.YthkmihedkddnmaaGreat
open Lib (hid)
open Go.RowKit Go.Maps Go.Shelf Wire Cmd
attribute [local go_sem] Oper.semAt_some
theorem rblkC_at:∀ {m:List (Nat × List UInt8)} {k:Nat} {q:Nat × List UInt8},(∀ q∈m,q.2.length=256)→m[k]? = some q→(rblkC m)[k * 257]? = some (.int .i64 (q.1:Int))∧∀ j u,(bV q.2)[j]? = some u→(rblkC m)[k * 257+1+j]? = some u
 | y :: m,0,q,hm,h=>by
  obtain rfl:=Option.some.inj h;have hl:=hm y (List.mem_cons_self ..);unfold rblkC;rw [List.flatMap_cons];refine ⟨rfl,fun j u hj => ?_⟩;rw [show 0 * 257+1+j=j+1 by omega,List.getElem?_append_left (by have:=(List.getElem?_eq_some_iff.1 hj).1;simp;omega),List.getElem?_cons_succ];exact hj
 | y :: m,k+1,q,hm,h=>by
  have hl:=hm y (List.mem_cons_self ..);obtain ⟨h1,h2⟩:=rblkC_at (m:=m) (k:=k) (q:=q) (fun q hq=>hm q (List.mem_cons_of_mem _ hq)) (by simpa using h);have e:(Value.int .i64 (y.1:Int) :: bV y.2).length=257:=by simp [bV_len,hl]
  unfold rblkC at h1 h2 ⊢;rw [List.flatMap_cons];refine ⟨?_,fun j u hj => ?_⟩
  ·rw [List.getElem?_append_right (by omega),e,show (k+1) * 257 - 257=k * 257 by omega]
   exact h1
  ·rw [List.getElem?_append_right (by omega),e,show (k+1) * 257+1+j - 257=k * 257+1+j by omega]
   exact h2 j u hj
theorem rangeStays {w w':World} {b o:Nat} {cs:List Value} (h:w.rangeAt b o cs) (hl:b<w.heap.size) (hb:Below w.heap.size w w'):w'.rangeAt b o cs :=
 fun j v hv=>(World.cell?_of_block (hb.block b hl)).trans (h j v hv)
theorem keepsFrom_mods {G:List Nat} {W W':World} {B:Nat} (h:Mods G W W') (hG:∀ k∈G,k<B):KeepsFrom B W W' :=
 ⟨h.size,fun k o hB ho _=>(h.block k (hLT ho) (fun hk=>by have:=hG k hk;omega)).trans ho⟩
theorem KpD.mods {G F:List Nat} {W W':World} (h:Mods G W W') (hG:∀ k∈G,k∈F) (hc:∀ k∈G,∃ cs t fr,W.heap[k]? = some (.cells cs t fr)):KpD F W W' :=
 ⟨⟨h.size,fun g k hk=>Nat.lt_of_lt_of_le (g k hk) h.size,fun k hk hn o ho _=>(h.block k hk (fun e=>hn (hG k e))).trans ho,fun _ _ h=>h⟩,
  ⟨h.size,fun k o ho hw=>(h.block k (hLT ho) (fun e=>by obtain ⟨cs,t,fr,h2⟩:=hc k e;rw [h2] at ho;cases ho;cases hw)).trans ho⟩⟩
theorem spots_len {l:List (Nat × Vl)} (h:DevOk l):(spotsL l).length≤256 * l.length:=by
 have h1:∀ p∈l,p.2.m.length≤256:=fun p hp=>by
  have hv:=h.vol p hp;have h1:=ris_len_le 0 hv.ris (fun q hq=>⟨Nat.zero_le _,hv.lt q hq⟩);have h2:=hv.size;omega
 clear h
 induction l with
 | nil=>simp [spotsL]
 | cons p l ih =>
  have h2:=ih (fun q hq=>h1 q (List.mem_cons_of_mem _ hq));have h3:=h1 p (List.mem_cons_self ..);unfold spotsL at h2 ⊢;rw [List.flatMap_cons,List.length_append,List.length_cons,show (spotsV p).length=p.2.m.length by unfold spotsV;rw [List.length_map]];omega
theorem rblk_at {n0:Nat} {w:World} {v:Value} {m:List (Nat × List UInt8)} (h:w.ownsRow n0 107 257 v m.length (rblkC m)) (hm:∀ q∈m,q.2.length=256) {k:Nat} {q:Nat × List UInt8} (hq:m[k]? = some q) :
  ∃ g cap,v = .slice (some ⟨g,0,none⟩) m.length cap∧m.length≤cap∧cap≤maxLen∧g<w.heap.size∧w.cell? ⟨g,k * 257,none⟩=some (.int .i64 (q.1:Int))∧w.rangeAt g (k * 257+1) (bV q.2):=by
 obtain ⟨h1,h2⟩:=rblkC_at hm hq;obtain ⟨ao,cap,rfl,_,_,⟨_,hc1,hc2⟩,hc⟩:=Rd.of_own h
 rcases h.2 with ⟨he,h0⟩ | ⟨g,cap',cur,he,_,hgb,_⟩
 ·have:=(List.getElem?_eq_some_iff.1 hq).1
  omega
 ·obtain ⟨rfl,_,rfl⟩:=Value.slice.inj he
  refine ⟨g,cap,rfl,hc1,hc2,(hLT hgb),?_,fun j u hj => ?_⟩
  ·obtain ⟨b,off,e,_,hh⟩:=hc _ _ h1
   obtain ⟨rfl,rfl,_⟩:=Addr.mk.inj (Option.some.inj e)
   simpa using hh
  ·obtain ⟨b,off,e,_,hh⟩:=hc _ _ (h2 j u hj)
   obtain ⟨rfl,rfl,_⟩:=Addr.mk.inj (Option.some.inj e)
   simpa using hh
def Pos (l:List (Nat × Vl)) (i k c:Nat):Prop:=i≤l.length∧(spotsL (l.take i)).length+k=c∧∀ p,l[i]? = some p→k≤p.2.m.length
theorem Pos.start (l:List (Nat × Vl)):Pos l 0 0 0:=⟨Nat.zero_le _,by simp [spotsL],fun _ _=>Nat.zero_le _⟩
theorem Pos.next {l:List (Nat × Vl)} {i k c:Nat} {p:Nat × Vl} (h:Pos l i k c) (hp:l[i]? = some p) (hk:p.2.m.length≤k):Pos l (i+1) 0 c:=by
 obtain ⟨h1,h2,h3⟩:=h;have h4:=h3 p hp;refine ⟨(List.getElem?_eq_some_iff.1 hp).1,?_,fun _ _=>Nat.zero_le _⟩;rw [spots_take hp,List.length_append,show (spotsV p).length=p.2.m.length by unfold spotsV;rw [List.length_map]];omega
theorem Pos.here {l:List (Nat × Vl)} {i k c:Nat} {p:Nat × Vl} {q:Nat × List UInt8} (h:Pos l i k c) (hp:l[i]? = some p) (hq:p.2.m[k]? = some q):(spotsL l)[c]? = some (p.1,q):=by
 rw [← h.2.1];exact spots_get hp hq
theorem Pos.more {l:List (Nat × Vl)} {i k c:Nat} {p:Nat × Vl} (h:Pos l i k c) (hp:l[i]? = some p) (hk:k<p.2.m.length):Pos l i (k+1) (c+1) :=
 ⟨h.1,by have:=h.2.1;omega,fun p' hp'=>by rw [hp] at hp';obtain rfl:=Option.some.inj hp';exact hk⟩
theorem Pos.out {l:List (Nat × Vl)} {i k c:Nat} (h:Pos l i k c) (hi:i=l.length):(spotsL l).length≤c:=by
 subst hi;have:=h.2.1;rw [List.take_length] at this;omega
theorem spotI_len {l:List (Nat × Vl)} (h:DevOk l) (i:Nat):(spotI l i).2.2.length=256:=by
 unfold spotI
 cases he:(spotsL l)[i]? with
 | none =>
  show zeroB.length=256
  unfold zeroB;rw [List.length_replicate]
 | some x =>
  have hm:=List.mem_of_getElem? he;unfold spotsL at hm;obtain ⟨p,hp,hx⟩:=List.mem_flatMap.1 hm;unfold spotsV at hx;obtain ⟨q,hq,rfl⟩:=List.mem_map.1 hx;exact (h.vol p hp).blk q hq
theorem range_snoc {pre:List Nat} {N x:Nat} (h:pre ++ [x] <+: List.range N):x=pre.length:=by
 have h1:(pre ++ [x])[pre.length]? = some x:=by simp
 obtain ⟨r,hr⟩:=h;have h2:(List.range N)[pre.length]? = some x:=by
  rw [← hr,List.getElem?_append_left (by simp),h1]
 rw [List.getElem?_range] at h2
 ·exact (Option.some.inj h2).symm
 ·have:=(List.getElem?_eq_some_iff.1 h2).1
  simpa using this
theorem spots_in (n0 n1:Nat) (w:World) (B Ba:Nat) (l:List (Nat × (Vl × Nat))) (h:DevAt n0 w B Ba l) (C:Nat) (sv:Value) (lw:List (Nat × (Vl × Value))) (hr:RDevAt n1 w C sv lw) (hs:mapA (·.1) lw=strip l) (hl:l.length≤1000000) (most:Int) :
  CallsIn Fence.wide 5 Tryz.prog 34 #[.pointer (some ⟨B,0,none⟩),.pointer (some ⟨C,0,none⟩),.int .i64 most] w fun e w'=>e = .returned (.bool true)∧Below w.heap.size w w':=by
 have hro:Fence.wide.round=none:=rfl;have HH:=hid h;have HR:=hid hr;have HS:=hid hs;clear h hr hs;refine callsIn_of_wp_marks Tryz.func34 rfl trivial ?_ hro;refine wpIn_wide.2 ?_;simp only [Tryz.ntmps34,List.size_toArray,List.length_cons,List.length_nil,Nat.reduceAdd,Nat.reduceSub,Array.replicate_succ,Array.replicate_zero,List.push_toArray,List.append_toArray,List.nil_append,List.cons_append];obtain ⟨w1,hw1⟩:∃ y,((w.alloc (.cells #[.pointer (some ⟨C,0,none⟩)] 27)).alloc (.cells #[.int .i64 most] 3)).alloc (.cells #[.bool false] 4)=y:=⟨_,rfl⟩
 obtain ⟨z,hz⟩:∃ z,w.heap.size=z:=⟨_,rfl⟩
 have hb1:Below w.heap.size w w1:=by rw [← hw1];exact balloc (balloc (balloc (Below.refl _ _) _) _) _
 have hs1:w1.heap.size=z+3:=by rw [← hw1,← hz];simp
 have k4:Boxed w1 z 27 (.pointer (some ⟨C,0,none⟩)):=by rw [← hw1,← hz];exact ((Boxed.new _ _ _).alloc _).alloc _
 have k5:Boxed w1 (z+1) 3 (.int .i64 most):=by
  rw [← hw1,← hz];have:=(Boxed.new (w.alloc (.cells #[.pointer (some ⟨C,0,none⟩)] 27)) 3 (.int .i64 most)).alloc (.cells #[.bool false] 4)
  simpa using this
 have k6:Boxed w1 (z+2) 4 (.bool false):=by
  rw [← hw1,← hz];have:=Boxed.new ((w.alloc (.cells #[.pointer (some ⟨C,0,none⟩)] 27)).alloc (.cells #[.int .i64 most] 3)) 4 (.bool false)
  simpa using this
 have CA:=dall_at n0 w1 B Ba l (HH.out.below hb1);have HB1:=hid hb1;have HK:=hid (And.intro k4 (And.intro k5 k6));have HZ:=hid hz;have HS1:=hid hs1;clear k4 k5 k6 hs1 hb1;go_wp2_with fail
 (try rw [hz])
 (try rw [hw1])
 clear hw1 hz;refine CA.mono ?_;rintro e w2 ⟨Bx,B',Ba',l',rfl,hbx,hd2,hs2,hb2,hge⟩;have HBX:=hid hbx;have HD2:=hid hd2;have HS2:=hid hs2;have HB2:=hid hb2;have HGE:=hid hge;have hnn:=eqlFn;clear CA hbx hd2 hs2 hb2 hge;go_wp2_with fail;obtain ⟨y,hy⟩:∃ y,w2.heap.size=y:=⟨_,rfl⟩
 have q8:=(((Boxed.new w2 3 (.int .i64 0)).alloc (.cells #[.int .i64 0] 3)).alloc (.cells #[.int .i64 0] 3))
 have q9:=(Boxed.new (w2.alloc (.cells #[.int .i64 0] 3)) 3 (.int .i64 0)).alloc (.cells #[.int .i64 0] 3);have q10:=Boxed.new ((w2.alloc (.cells #[.int .i64 0] 3)).alloc (.cells #[.int .i64 0] 3)) 3 (.int .i64 0);have hb0:Below w2.heap.size w2 (((w2.alloc (.cells #[.int .i64 0] 3)).alloc (.cells #[.int .i64 0] 3)).alloc (.cells #[.int .i64 0] 3)):=balloc (balloc (balloc (Below.refl _ _) _) _) _;obtain ⟨W0,hW0⟩:∃ W0,((w2.alloc (.cells #[.int .i64 0] 3)).alloc (.cells #[.int .i64 0] 3)).alloc (.cells #[.int .i64 0] 3)=W0:=⟨_,rfl⟩
 have hs0:W0.heap.size=y+3:=by rw [← hW0,← hy];simp
 simp only [World.size_alloc] at q9 q10;rw [hW0] at q8 q9 q10 hb0 ⊢;rw [hy] at q8 q9 q10 ⊢;have HY:=hid hy;have HB0:=hid hb0;have hzy:z+3≤y:=by have h1:=HB2.out.size;have h2:=HS1.out;omega
 have hbxy:z+3≤Bx∧Bx<y:=⟨by have h1:=HGE.out;have h2:=HS1.out;omega,by rw [← hy];exact (hLT HBX.out)⟩
 have hbpy:z+3≤B'∧B'<y:=⟨by have h1:=HD2.out.ge.1;have h2:=HS1.out;omega,by rw [← hy];exact HD2.out.lt⟩
 have HBW0:Hid (Below w.heap.size w W0):=hid (bthen (bthen HB1.out HB2.out) hb0);have j4:Boxed W0 z 27 (.pointer (some ⟨C,0,none⟩)):=((bthen HB2.out hb0).block _ HK.out.1.lt).trans HK.out.1;have j5:Boxed W0 (z+1) 3 (.int .i64 most):=((bthen HB2.out hb0).block _ HK.out.2.1.lt).trans HK.out.2.1;have j6:Boxed W0 (z+1+1) 4 (.bool false):=((bthen HB2.out hb0).block _ HK.out.2.2.lt).trans HK.out.2.2;have hlen':l'.length≤1000000:=by
  have h1:(strip l').length=(strip l).length:=by rw [HS2.out]
  unfold strip at h1;rw [mapA_len,mapA_len] at h1;omega
 have HOK:Hid (DevOk (strip l')):=hid HD2.out.ok;have HIL:Hid (∀ x,(spotI (strip l') x).2.2.length=256):=hid (fun x=>spotI_len HOK.out x);have HWZ:Hid (w.heap.size=z):=HZ;have hD0:=HD2.out.below hb0;have hbx0:=(hb0.block Bx (hLT HBX.out)).trans HBX.out;clear hb0 hW0 hy hnn;refine wpIn_wide.1 (wpIn_rangeFunc_ownH (n:=5) hro (by omega) (gf:=55) (lb:=#[.pointer (some ⟨Bx,0,none⟩)]) rfl trivial (enters_of Tryz.func55 (by kernel_rfl) rfl)
  (all_stops (5 - 1) (by omega) Bx w1.heap.size B' Ba' l' [z+1+1,y,y+1,y+1+1] W0 hbx0 hD0 hlen' (by simp;omega) (by simp;omega) (by simp;omega))
  KpD.trans KpD.put (Below.refl _ _) (fun _=>rfl)
  (fun pre Y=>(Boxed Y z 27 (.pointer (some ⟨C,0,none⟩))∧Boxed Y (z+1) 3 (.int .i64 most)∧Boxed Y (z+1+1) 4 (.bool false)∧Boxed Y y 3 (.int .i64 (pre.length:Int))∧∃ i k:Nat,Boxed Y (y+1) 3 (.int .i64 (i:Int))∧Boxed Y (y+1+1) 3 (.int .i64 (k:Int))∧Pos (strip l') i k pre.length)∧Below w.heap.size w Y)
  (fun c pre Y=>(c = .ret∧∃ b,(b=false → ¬ pre <+: List.range (spotsL (strip l')).length)∧Boxed Y (z+1+1) 4 (.bool b))∧Below w.heap.size w Y)
  ?oI ?oX ⟨⟨j4,j5,j6,q8,0,0,q9,q10,Pos.start _⟩,HBW0.out⟩
  (fun x a' Y=>∃ b1 b2,y+1+1<b1∧b1<b2∧Y.heap[b1]? = some (.cells #[.int .u64 ((spotI (strip l') x).1:Int),.int .i64 ((spotI (strip l') x).2.1:Int)] 48 (0,0))∧Y.heap[b2]? = some (.cells (bV (spotI (strip l') x).2.2).toArray 50 (0,0)) ∧
   a'={ tmps:=#[.pointer (some ⟨B,0,none⟩),.pointer (some ⟨C,0,none⟩),.int .i64 most,undef,.pointer (some ⟨z,0,none⟩),.pointer (some ⟨z+1,0,none⟩),.pointer (some ⟨z+1+1,0,none⟩),(.func (.func 55) #[] #[.pointer (some ⟨Bx,0,none⟩)]),.pointer (some ⟨y,0,none⟩),.pointer (some ⟨y+1,0,none⟩),.pointer (some ⟨y+1+1,0,none⟩),.pointer (some ⟨b1,0,none⟩),.pointer (some ⟨b2,0,none⟩),.pointer (some ⟨B,0,none⟩),(.func (.func 55) #[] #[.pointer (some ⟨Bx,0,none⟩)]),(.func (.func 55) #[] #[.pointer (some ⟨Bx,0,none⟩)]),.bool false,(.func (.func 55) #[] #[.pointer (some ⟨Bx,0,none⟩)]),.agg #[.int .u64 ((spotI (strip l') x).1:Int),.int .i64 ((spotI (strip l') x).2.1:Int)],bA (spotI (strip l') x).2.2,undef,undef,undef,undef,undef,undef,undef,undef,undef,undef,undef,undef,undef,undef,undef,undef,undef,undef,undef,undef,undef,undef,undef,undef,undef,undef,undef,undef,undef,undef,undef,undef,undef,undef,undef,undef,undef,undef,undef,undef,undef,undef,undef,undef,undef,undef,undef,undef,undef,undef,undef,undef,undef,undef,undef,undef,undef,undef,undef,undef,undef,undef,undef,undef,undef,undef,undef,undef,undef,undef,undef,undef,undef,undef,undef,undef,undef,undef,undef,undef,undef,undef,undef,undef,undef,undef,undef,undef,undef,undef,undef,undef,undef,undef,undef,undef,undef,undef,undef,undef,undef,undef,undef,undef,undef,undef,undef,undef,undef,undef,undef],defers:=[] })
  ?oA ?assign ?body ?done ?stop)
 case oI =>
  exact OwnFrom.and (Own.from (fun s A B row hs hg hr=>by
   obtain ⟨h1,h2,h3,h4,i,k,h5,h6,h7⟩:=hs;exact ⟨rowKept h1 hg hr,rowKept h2 hg hr,rowKept h3 hg hr,rowKept h4 hg hr,i,k,rowKept h5 hg hr,rowKept h6 hg hr,h7⟩) _) (ownFrom_below (Nat.le_refl _) (by have:=HWZ.out;omega))
 case oX=>exact fun c=>OwnFrom.and (Own.from (fun s A B row hs hg hr=>by obtain ⟨h1,b,h2,h3⟩:=hs;exact ⟨h1,b,h2,rowKept h3 hg hr⟩) _) (ownFrom_below (Nat.le_refl _) (by have:=HWZ.out;omega))
 case oA =>
  exact fun x a' _ A C row hs hg hr=>by
   obtain ⟨b1,b2,h1,h2,h3,h4,h5⟩:=hs;exact ⟨b1,b2,h1,h2,rowKept h3 hg (fun r e=>(hr r e).2),rowKept h4 hg (fun r e=>(hr r e).2),h5⟩
 case assign =>
  rintro lq pre x Y K ⟨⟨h1,h2,h3,h4,i,k,h5,h6,h7⟩,hB⟩ hK;have hlt:=h6.lt;have hcl:=HIL.out x;obtain ⟨it,hit⟩:∃ it,spotI (strip l') x=it:=⟨_,rfl⟩
  obtain ⟨sn,bn,c⟩:=it;rw [hit] at hK hcl ⊢;dsimp only at hK hcl;clear hit;have hst:(storeCells ⟨Y.heap.size+1,0,none⟩ (bV c)).run Tryz.prog ((Y.alloc (.cells #[.int .u64 (sn:Int),.int .i64 (bn:Int)] 48)).alloc (.cells Tryz.zeroCells50 50)) = .ok () ((Y.alloc (.cells #[.int .u64 (sn:Int),.int .i64 (bn:Int)] 48)).alloc (.cells (bV c).toArray 50)):=by
   have:=run_storeNew (P:=Tryz.prog) (Y.alloc (.cells #[.int .u64 (sn:Int),.int .i64 (bn:Int)] 48)) 50 Tryz.zeroCells50 (bV c).toArray (by rw [zszM];simp [bV_len,hcl]) (by simpa using bV_one c)
   simpa using this
  have hcs:(bV c).toArray.size=256:=by simp [bV_len,hcl]
  have HKK:=hid hK;clear hcl hK;unfold spotA bA
  simp
  gi_wp2
  have hbb:Below Y.heap.size Y ((Y.alloc (.cells #[.int .u64 (sn:Int),.int .i64 (bn:Int)] 48)).alloc (.cells (bV c).toArray 50)):=balloc (balloc (Below.refl _ _) _) _;have hx1:((Y.alloc (.cells #[.int .u64 (sn:Int),.int .i64 (bn:Int)] 48)).alloc (.cells (bV c).toArray 50)).heap[Y.heap.size]? = some (.cells #[.int .u64 (sn:Int),.int .i64 (bn:Int)] 48 (0,0)):=(Below.heap_alloc _ _ _ (by simp)).trans (heap_alloc_new Y _)
  have hx2:((Y.alloc (.cells #[.int .u64 (sn:Int),.int .i64 (bn:Int)] 48)).alloc (.cells (bV c).toArray 50)).heap[Y.heap.size+1]? = some (.cells (bV c).toArray 50 (0,0)):=by
   have:=heap_alloc_new (Y.alloc (.cells #[.int .u64 (sn:Int),.int .i64 (bn:Int)] 48)) (.cells (bV c).toArray 50)
   simpa using this
  exact HKK.out _ _ (((KeepsOthers.alloc _ _).trans (KeepsOthers.alloc _ _)).from _) (KpD.below hbb) ⟨⟨(h1.alloc _).alloc _,(h2.alloc _).alloc _,(h3.alloc _).alloc _,(h4.alloc _).alloc _,i,k,(h5.alloc _).alloc _,(h6.alloc _).alloc _,h7⟩,bthen hB hbb⟩ ⟨_,_,hlt,Nat.lt_succ_self _,hx1,hx2,rfl⟩
 case body =>
  rintro lq pre x a' Y hlq ⟨rq,hrq⟩ ⟨⟨h1,h2,h3,h4,i0,k0,h5,h6,h7⟩,hB⟩ ⟨b1,b2,hb1,hb12,hx1,hx2,rfl⟩ hlt;have hcl:=HIL.out x;obtain ⟨it,hit⟩:∃ it,spotI (strip l') x=it:=⟨_,rfl⟩
  have HIT:=hid hit;obtain ⟨sn,bn,c⟩:=it;rw [hit] at hcl hx1 hx2 ⊢;dsimp only at hcl hx1 hx2 ⊢;have HCL:=hid hcl;have HX1:=hid hx1;have HX2:=hid hx2;have HBB:=hid hB;have HB4:=hid h1;have HB5:=hid h2;have HB6:=hid h3;have HB8:=hid h4;have H5:=hid h5;have H6:=hid h6;have H7:=hid h7;have HLT:=hid hlt;clear hit hcl hx1 hx2 hB h1 h2 h3 h4 h5 h6 h7 hlt;obtain ⟨n,hn⟩:∃ n,lw.length=n:=⟨_,rfl⟩
  have HN:=hid hn;have hnl:n≤1000000:=by
   have h1:(mapA (·.1) lw).length=(strip l).length:=by rw [HS.out]
   unfold strip at h1;rw [mapA_len,mapA_len] at h1;omega
  clear hn;unfold bA
  gi_wp2
  gi_loopg [] (n - i0) (fun g wr=>∃ i k:Nat,g=n - i∧Boxed wr (y+1) 3 (.int .i64 (i:Int))∧Boxed wr (y+1+1) 3 (.int .i64 (k:Int))∧Pos (strip l') i k pre.length∧Mods [y+1,y+1+1] Y wr)
  case atStart=>exact ⟨i0,k0,rfl,H5.out,H6.out,H7.out,Mods.refl _ _⟩
  case round =>
   obtain ⟨i,k,rfl,g5,g6,g7,hm⟩:=hrel;have G5:=hid g5;have G6:=hid g6;have G7:=hid g7;have HM:=hid hm;have hbwr:Below w.heap.size w wr:=HBB.out.trans (hm.below (fun q hq=>by have:=HWZ.out;simp at hq;omega) HBB.out.size);have hrd:=HR.out.below hbwr;have hil:i<n:=by
    have h1:(strip l').length=lw.length:=by rw [HS2.out,← HS.out,mapA_len]
    have h2:=g7.1;have h3:=HN.out
    by_cases he:i=n
    ·have h4:=g7.out (by omega)
     have h5:=HLT.out;omega
    ·omega
   obtain ⟨p,hp⟩:∃ p,lw[i]? = some p:=⟨_,List.getElem?_eq_getElem (by have:=HN.out;omega)⟩
   have hps:(strip l')[i]? = some (p.1,p.2.1):=by rw [HS2.out,← HS.out];unfold mapA;simp [hp]
   obtain ⟨g,cap,rfl,hc1,hc2,e0,e1,e2⟩:=hrd.at_ hp;have hgz:g<w.heap.size:=by
    rcases HR.out.row.2 with ⟨he,_⟩ | ⟨g',cap',cur,he,_,hgb,_⟩
    ·cases he
    ·obtain ⟨e,_,_⟩:=Value.slice.inj he
     cases e
     exact (hLT hgb)
   have hblk:=HR.out.blk p (List.mem_of_getElem? hp);have hvok:=HOK.out.vol (p.1,p.2.1) (List.mem_of_getElem? hps);have hml:p.2.1.m.length≤1000000:=by
    have h1:=ris_len_le 0 hvok.ris (fun q hq=>⟨Nat.zero_le _,hvok.lt q hq⟩);have h2:p.2.1.size≤256:=hvok.size;dsimp only at h1;omega
   obtain ⟨am,cm,hv⟩:=row_slice hblk;have HCC:=hid hrd.cell;have HCL2:=hid HR.out.lt;have HP:=hid hp;have HPS:=hid hps;have HBLK:=hid hblk;have HBW:=hid hbwr;have HVOK:=hid hvok;have HE0:=hid e0;have HE1:=hid e2;have HGZ:=hid hgz;have HV:=hid hv;rw [hv] at e2;have HE2:=hid e2;have HWR:Hid (w.heap.size≤wr.heap.size):=hid hbwr.size;have HYY:Hid (y+1+1<wr.heap.size):=hid g6.lt;have K4:Hid (Boxed wr z 27 (.pointer (some ⟨C,0,none⟩))):=hid ((hm.block z HB4.out.lt (by simp;omega)).trans HB4.out)
   obtain ⟨nm,hnm⟩:∃ nm,p.2.1.m.length=nm:=⟨_,rfl⟩
   rw [hnm] at HE2 hml;have HNM:=hid hnm;have hnc:n≤cap:=by have:=HN.out;omega
   have hce:Hid (wr.cell? ⟨C,0,none⟩=some (.slice (some ⟨g,0,none⟩) n cap)):=hid (by rw [← HN.out];exact HCC.out);clear hm g5 g6 g7 hbwr hrd hp hps e0 e1 e2 hgz hblk hvok hv hnm hc1
   by_cases hk:nm≤k
   ·gi_wp2
    have HSS:Hid (∀ X,Below wr.heap.size wr X→(X.cell? ⟨y+1,0,none⟩=some (.int .i64 (i:Int))∧X.cell? ⟨z,0,none⟩=some (.pointer (some ⟨C,0,none⟩))∧X.cell? ⟨C,0,none⟩=some (.slice (some ⟨g,0,none⟩) n cap)∧X.cell? ⟨y+1+1,0,none⟩=some (.int .i64 (k:Int))∧X.cell? ⟨g,i * 3+2,none⟩=some (.slice am nm cm))∧Below wr.heap.size wr X):=hid (fun X hb=>⟨⟨(World.cell?_of_block (hb.block _ (G5.out.lt))).trans (G5.out.cell),(World.cell?_of_block (hb.block _ (K4.out.lt))).trans (K4.out.cell),(World.cell?_of_block (hb.block _ (Nat.lt_of_lt_of_le HCL2.out HWR.out))).trans (hce.out),(World.cell?_of_block (hb.block _ (G6.out.lt))).trans (G6.out.cell),(World.cell?_of_block (hb.block _ (Nat.lt_of_lt_of_le HGZ.out HWR.out))).trans (HE2.out)⟩,hb⟩)
    refine region_round (S:=fun X=>(X.cell? ⟨y+1,0,none⟩=some (.int .i64 (i:Int))∧X.cell? ⟨z,0,none⟩=some (.pointer (some ⟨C,0,none⟩))∧X.cell? ⟨C,0,none⟩=some (.slice (some ⟨g,0,none⟩) n cap)∧X.cell? ⟨y+1+1,0,none⟩=some (.int .i64 (k:Int))∧X.cell? ⟨g,i * 3+2,none⟩=some (.slice am nm cm))∧Below wr.heap.size wr X) (by kernel_rfl) (by kernel_rfl) (HSS.out _ (Below.refl _ _).drew) (fun hHeld => ?_);have hbe:Below wr.heap.size wr wr.drew:=(Below.refl _ _).drew;obtain ⟨wd,hwd⟩:∃ y,wr.drew=y:=⟨_,rfl⟩
    rw [hwd] at hHeld hbe ⊢;have HBE:=hid hbe;have HS0:Hid (wr.heap.size≤wd.heap.size):=hid HBE.out.size;clear hwd hbe;refine tkR 0 rfl ?_;refine tkR 1 rfl ?_;refine tkR 2 rfl ?_;refine tkR 3 rfl ?_;refine tkR 4 rfl ?_;refine tkR 5 rfl ?_;refine tkS 6 (.bool true) rfl ?_ ?_
    ·(intro w hSw;simp only [gE1,gE2,gE3];(go_simp;first | done | (simp;omega)))
    refine tkR 7 rfl ?_;refine tkR 8 rfl ?_;refine tkR 9 rfl ?_;refine tkR 13 rfl ?_;refine tkR 10 rfl ?_;refine tkR 11 rfl ?_;refine tkR 12 rfl ?_;refine tkR 14 rfl ?_;refine tkR 15 rfl ?_;refine tkR 16 rfl ?_;refine tkR 17 rfl ?_;refine tkS 18 (.bool true) rfl ?_ ?_
    ·(intro w hSw;simp only [gE1,gE2,gE3];(go_simp;first | done | (simp;omega)))
    refine tkR 19 rfl ?_;refine wpAnyH_done (by kernel_rfl) ⟨rfl,?_⟩ _;have HEND:=hid hHeld.2;have HSE:=hid hHeld.1;clear hHeld;have hg5:Boxed wd (y+1) 3 (.int .i64 (i:Int)):=(HEND.out.block _ G5.out.lt).trans G5.out;have hg6:Boxed wd (y+1+1) 3 (.int .i64 (k:Int)):=(HEND.out.block _ G6.out.lt).trans G6.out;have f5:=hg5.frozen;have f6:=hg6.frozen;have c5:=hg5.cell;have c6:=hg6.cell;have HG5:=hid hg5;have HG6:=hid hg6;have HNX:=hid (G7.out.next HPS.out (by have h1:=HNM.out;dsimp only;omega));clear hg5 hg6 HSE HSS HBE
    gi_wp2
    gi_roundg (n - (i+1))
    case measure=>omega
    case rel =>
     refine ⟨i+1,0,rfl,?_,?_,HNX.out,?_⟩
     ·have:=(HG5.out.set (.int .i64 ((i:Int)+1))).other (show y+1≠y+1+1 by omega) (.int .i64 0)
      simpa using this
     ·exact ((HG6.out.other (show y+1+1≠y+1 by omega) _).set (.int .i64 0))
     ·exact ((HM.out.thenBelow HEND.out).setCell (p:=⟨y+1,0,none⟩) (by simp) _).setCell (p:=⟨y+1+1,0,none⟩) (by simp) _
   ·gi_wp2
    have HSS:Hid (∀ X,Below wr.heap.size wr X→(X.cell? ⟨y+1,0,none⟩=some (.int .i64 (i:Int))∧X.cell? ⟨z,0,none⟩=some (.pointer (some ⟨C,0,none⟩))∧X.cell? ⟨C,0,none⟩=some (.slice (some ⟨g,0,none⟩) n cap)∧X.cell? ⟨y+1+1,0,none⟩=some (.int .i64 (k:Int))∧X.cell? ⟨g,i * 3+2,none⟩=some (.slice am nm cm))∧Below wr.heap.size wr X):=hid (fun X hb=>⟨⟨(World.cell?_of_block (hb.block _ (G5.out.lt))).trans (G5.out.cell),(World.cell?_of_block (hb.block _ (K4.out.lt))).trans (K4.out.cell),(World.cell?_of_block (hb.block _ (Nat.lt_of_lt_of_le HCL2.out HWR.out))).trans (hce.out),(World.cell?_of_block (hb.block _ (G6.out.lt))).trans (G6.out.cell),(World.cell?_of_block (hb.block _ (Nat.lt_of_lt_of_le HGZ.out HWR.out))).trans (HE2.out)⟩,hb⟩)
    refine region_round (S:=fun X=>(X.cell? ⟨y+1,0,none⟩=some (.int .i64 (i:Int))∧X.cell? ⟨z,0,none⟩=some (.pointer (some ⟨C,0,none⟩))∧X.cell? ⟨C,0,none⟩=some (.slice (some ⟨g,0,none⟩) n cap)∧X.cell? ⟨y+1+1,0,none⟩=some (.int .i64 (k:Int))∧X.cell? ⟨g,i * 3+2,none⟩=some (.slice am nm cm))∧Below wr.heap.size wr X) (by kernel_rfl) (by kernel_rfl) (HSS.out _ (Below.refl _ _).drew) (fun hHeld => ?_);have hbe:Below wr.heap.size wr wr.drew:=(Below.refl _ _).drew;obtain ⟨wd,hwd⟩:∃ y,wr.drew=y:=⟨_,rfl⟩
    rw [hwd] at hHeld hbe ⊢;have HBE:=hid hbe;have HS0:Hid (wr.heap.size≤wd.heap.size):=hid HBE.out.size;clear hwd hbe;refine tkR 0 rfl ?_;refine tkR 1 rfl ?_;refine tkR 2 rfl ?_;refine tkR 3 rfl ?_;refine tkR 4 rfl ?_;refine tkR 5 rfl ?_;refine tkS 6 (.bool true) rfl ?_ ?_
    ·(intro w hSw;simp only [gE1,gE2,gE3];(go_simp;first | done | (simp;omega)))
    refine tkR 7 rfl ?_;refine tkR 8 rfl ?_;refine tkR 9 rfl ?_;refine tkR 13 rfl ?_;refine tkR 10 rfl ?_;refine tkR 11 rfl ?_;refine tkR 12 rfl ?_;refine tkR 14 rfl ?_;refine tkR 15 rfl ?_;refine tkR 16 rfl ?_;refine tkR 17 rfl ?_;refine tkS 18 (.bool false) rfl ?_ ?_
    ·(intro w hSw;simp only [gE1,gE2,gE3];(go_simp;first | done | (simp;omega)))
    refine tkR 19 rfl ?_;refine wpAnyH_done (by kernel_rfl) ⟨rfl,?_⟩ _;have HEND:=hid hHeld.2;have HSE:=hid hHeld.1;clear hHeld;obtain ⟨W8,hW8⟩:∃ W8,W8=wd:=⟨_,rfl⟩
    subst hW8;have hkn:k<nm:=by omega
    obtain ⟨q,hq⟩:∃ q,p.2.1.m[k]? = some q:=⟨_,List.getElem?_eq_getElem (by rw [HNM.out];omega)⟩
    obtain ⟨gm,cx,hv',hcm1,hcm2,hgl,hq0,hq1⟩:=rblk_at HBLK.out HVOK.out.blk hq;have hv2:=HV.out;rw [hv'] at hv2;obtain ⟨rfl,_,rfl⟩:=Value.slice.inj hv2;have hy1:=HM.out.block b1 (hLT HX1.out) (by simp;omega);have hy2:=HM.out.block b2 (hLT HX2.out) (by simp;omega);have HLB1:Hid (b1<wr.heap.size):=hid (Nat.lt_of_lt_of_le (hLT HX1.out) HM.out.size);have HLB2:Hid (b2<wr.heap.size):=hid (Nat.lt_of_lt_of_le (hLT HX2.out) HM.out.size);have HG5:Hid (Boxed W8 (y+1) 3 (.int .i64 (i:Int))):=hid ((HEND.out.block _ G5.out.lt).trans G5.out)
    have HG6:Hid (Boxed W8 (y+1+1) 3 (.int .i64 (k:Int))):=hid ((HEND.out.block _ G6.out.lt).trans G6.out);have HK4:Hid (Boxed W8 z 27 (.pointer (some ⟨C,0,none⟩))):=hid ((HEND.out.block _ K4.out.lt).trans K4.out);have HY1:Hid (W8.heap[b1]? = some (.cells #[.int .u64 (sn:Int),.int .i64 (bn:Int)] 48 (0,0))):=hid ((HEND.out.block _ HLB1.out).trans (hy1.trans HX1.out));have HY2:Hid (W8.heap[b2]? = some (.cells (bV c).toArray 50 (0,0))):=hid ((HEND.out.block _ HLB2.out).trans (hy2.trans HX2.out));have hww:=bthen HBW.out HEND.out
    have HC0:Hid (W8.cell? ⟨C,0,none⟩=some (.slice (some ⟨g,0,none⟩) n cap)):=hid ((World.cell?_of_block (HEND.out.block C (Nat.lt_of_lt_of_le HCL2.out HWR.out))).trans hce.out);have HV0:Hid (W8.cell? ⟨g,i * 3,none⟩=some (.int .u64 (p.1:Int))):=hid ((World.cell?_of_block (HEND.out.block g (Nat.lt_of_lt_of_le HGZ.out HWR.out))).trans HE0.out);have HV2:Hid (W8.cell? ⟨g,i * 3+2,none⟩=some (.slice (some ⟨gm,0,none⟩) nm cx)):=hid ((World.cell?_of_block (HEND.out.block g (Nat.lt_of_lt_of_le HGZ.out HWR.out))).trans HE2.out)
    have HQ0:Hid (W8.cell? ⟨gm,k * 257,none⟩=some (.int .i64 (q.1:Int))):=hid ((World.cell?_of_block (hww.block gm hgl)).trans hq0);have HQ1:Hid (W8.rangeAt gm (k * 257+1) (bV q.2)):=hid (rangeStays hq1 hgl hww);have HSZ:Hid (C<W8.heap.size∧g<W8.heap.size∧b1<W8.heap.size∧gm<W8.heap.size∧b2<W8.heap.size):=hid ⟨Nat.lt_of_lt_of_le HCL2.out hww.size,Nat.lt_of_lt_of_le HGZ.out hww.size,Nat.lt_of_lt_of_le HLB1.out HEND.out.size,Nat.lt_of_lt_of_le hgl hww.size,Nat.lt_of_lt_of_le HLB2.out HEND.out.size⟩
    have HQL:Hid (q.2.length=256):=hid (HVOK.out.blk q (List.mem_of_getElem? hq));have HNE:Hid (∀ (X:World) (c d:List UInt8),c.length=256→d.length=256→(Op.equalIn 10000 50 (.agg (bV c).toArray) (.agg (bV d).toArray)).run Tryz.prog X = .ok (c == d) X):=hid (fun X c d hc hd=>run_equalIn_bytes (P:=Tryz.prog) X (t:=50) (e:=5) (n:=256) Tryz.underlying50 Tryz.underlying5 rfl rfl 9998 c d hc hd);have HHERE:=hid (G7.out.here HPS.out hq);have HMORE:=hid (G7.out.more HPS.out (by have h1:=HNM.out;dsimp only;omega));have HM2:=hid (HM.out.thenBelow HEND.out)
    have HBW2:=hid hww;have hkc:nm≤cx:=by have:=HNM.out;omega
    obtain ⟨pn,hpn⟩:∃ a,p.1=a:=⟨_,rfl⟩
    obtain ⟨qn,qb⟩:=q;rw [hpn] at HV0 HHERE;dsimp only at HQ0 HQ1 HQL HHERE;have HXE:Hid (∀ x2,(sn,bn,c)=(pn,qn,qb) ∨ ¬ (pre ++ [x2] <+: List.range (spotsL (strip l')).length)∨x2≠x):=hid (fun x2=>by
     by_cases hx:x2=x
     ·subst hx
      by_cases hpre:pre ++ [x2] <+: List.range (spotsL (strip l')).length
      ·have h1:=range_snoc hpre
       have h2:=HIT.out;unfold spotI at h2;rw [h1,HHERE.out] at h2;exact .inl h2.symm
      ·exact .inr (.inl hpre)
     ·exact .inr (.inr hx))
    clear hq hv' hcm1 hcm2 hgl hq0 hq1 hv2 hy1 hy2 hww hpn HSE HSS HBE
    gi_wp2
    by_cases e0:sn=pn
    ·subst e0
     by_cases e1:bn=qn
     ·subst e1
      by_cases e2:c=qb
      ·have HCE:Hid (c=qb):=hid e2
       clear e2
       have HSS:Hid (∀ X,Below W8.heap.size W8 X→(X.cell? ⟨y+1,0,none⟩=some (.int .i64 (i:Int))∧X.cell? ⟨z,0,none⟩=some (.pointer (some ⟨C,0,none⟩))∧X.cell? ⟨C,0,none⟩=some (.slice (some ⟨g,0,none⟩) n cap)∧X.cell? ⟨b1,0,none⟩=some (.int .u64 (sn:Int))∧X.cell? ⟨b1,1,none⟩=some (.int .i64 (bn:Int))∧X.cell? ⟨g,i * 3,none⟩=some (.int .u64 (sn:Int))∧X.cell? ⟨g,i * 3+2,none⟩=some (.slice (some ⟨gm,0,none⟩) nm cx)∧X.cell? ⟨y+1+1,0,none⟩=some (.int .i64 (k:Int))∧X.cell? ⟨gm,k * 257,none⟩=some (.int .i64 (bn:Int))∧X.rangeAt gm (k * 257+1) (bV qb)∧X.rangeAt b2 0 (bV c))∧Below W8.heap.size W8 X):=hid (fun X hb=>⟨⟨(World.cell?_of_block (hb.block _ (HG5.out.lt))).trans (HG5.out.cell),(World.cell?_of_block (hb.block _ (HK4.out.lt))).trans (HK4.out.cell),(World.cell?_of_block (hb.block _ (HSZ.out.1))).trans (HC0.out),(World.cell?_of_block (hb.block _ (HSZ.out.2.2.1))).trans (cellOf HY1.out 0 rfl),(World.cell?_of_block (hb.block _ (HSZ.out.2.2.1))).trans (cellOf HY1.out 1 rfl),(World.cell?_of_block (hb.block _ (HSZ.out.2.1))).trans (HV0.out),(World.cell?_of_block (hb.block _ (HSZ.out.2.1))).trans (HV2.out),(World.cell?_of_block (hb.block _ (HG6.out.lt))).trans (HG6.out.cell),(World.cell?_of_block (hb.block _ (HSZ.out.2.2.2.1))).trans (HQ0.out),rangeStays HQ1.out HSZ.out.2.2.2.1 hb,rangeStays (blkBox HY2.out) HSZ.out.2.2.2.2 hb⟩,hb⟩)
       refine region_round (S:=fun X=>(X.cell? ⟨y+1,0,none⟩=some (.int .i64 (i:Int))∧X.cell? ⟨z,0,none⟩=some (.pointer (some ⟨C,0,none⟩))∧X.cell? ⟨C,0,none⟩=some (.slice (some ⟨g,0,none⟩) n cap)∧X.cell? ⟨b1,0,none⟩=some (.int .u64 (sn:Int))∧X.cell? ⟨b1,1,none⟩=some (.int .i64 (bn:Int))∧X.cell? ⟨g,i * 3,none⟩=some (.int .u64 (sn:Int))∧X.cell? ⟨g,i * 3+2,none⟩=some (.slice (some ⟨gm,0,none⟩) nm cx)∧X.cell? ⟨y+1+1,0,none⟩=some (.int .i64 (k:Int))∧X.cell? ⟨gm,k * 257,none⟩=some (.int .i64 (bn:Int))∧X.rangeAt gm (k * 257+1) (bV qb)∧X.rangeAt b2 0 (bV c))∧Below W8.heap.size W8 X) (by kernel_rfl) (by kernel_rfl) (HSS.out _ (Below.refl _ _).drew) (fun hHeld => ?_)
       have hbe:Below W8.heap.size W8 W8.drew:=(Below.refl _ _).drew;obtain ⟨wd,hwd⟩:∃ y,W8.drew=y:=⟨_,rfl⟩
       rw [hwd] at hHeld hbe ⊢;have HBE:=hid hbe;have HS0:Hid (W8.heap.size≤wd.heap.size):=hid HBE.out.size;clear hwd hbe;refine tkR 0 rfl ?_;refine tkR 1 rfl ?_;refine tkR 2 rfl ?_;refine tkR 3 rfl ?_;refine tkR 4 rfl ?_;refine tkR 5 rfl ?_;refine tkS 6 (.bool false) rfl ?_ ?_
       ·(intro w hSw;simp only [gE1,gE2,gE3];(go_simp;first | done | (simp;omega)))
       refine tkR 7 rfl ?_;refine tkR 8 rfl ?_;refine tkR 10 rfl ?_;refine tkR 14 rfl ?_;refine tkR 9 rfl ?_;refine tkR 11 rfl ?_;refine tkR 12 rfl ?_;refine tkR 13 rfl ?_;refine tkR 15 rfl ?_;refine tkR 16 rfl ?_;refine tkR 17 rfl ?_;refine tkS 18 (.bool false) rfl ?_ ?_
       ·(intro w hSw;simp only [gE1,gE2,gE3];(go_simp;first | done | simp))
       refine tkR 19 rfl ?_;refine tkR 20 rfl ?_;refine tkR 21 rfl ?_;refine tkR 23 rfl ?_;refine tkR 27 rfl ?_;refine tkR 31 rfl ?_;refine tkR 22 rfl ?_;refine tkR 24 rfl ?_;refine tkR 25 rfl ?_;refine tkR 26 rfl ?_;refine tkR 28 rfl ?_;refine tkR 29 rfl ?_;refine tkR 30 rfl ?_;refine tkR 32 rfl ?_;refine tkR 33 rfl ?_;refine tkR 34 rfl ?_;refine tkS 35 (.bool false) rfl ?_ ?_
       ·(intro w hSw;simp only [gE1,gE2,gE3];(go_simp;first | done | simp))
       refine tkR 36 rfl ?_;refine tkR 37 rfl ?_;refine wpAnyH_take (i:=38) (v:=_) rfl (by kernel_rfl) (by kernel_rfl) (by kernel_rfl) (fun _ _ _ h=>(by cases h.1)) (yieldsIf_load_mid (by rfl) 50 _ rfl (b2) (0) rfl (bV c) _ (fun w hSw=>hSw.1.2.2.2.2.2.2.2.2.2.2) (Tryz.underlying50) rfl (infoB HCL.out)) (by assumption) ?_;simp only [gE1,gE2,gE3,Act.put,pE1,pE2,pE3];refine tkR 39 rfl ?_;refine tkR 43 rfl ?_;refine tkR 47 rfl ?_;refine tkR 40 rfl ?_;refine tkR 41 rfl ?_;refine tkR 42 rfl ?_;refine tkR 44 rfl ?_;refine tkR 45 rfl ?_;refine tkR 46 rfl ?_
       refine tkR 48 rfl ?_;refine tkR 49 rfl ?_;refine wpAnyH_take (i:=50) (v:=_) rfl (by kernel_rfl) (by kernel_rfl) (by kernel_rfl) (fun _ _ _ h=>(by cases h.1)) (yieldsIf_load_mid (by rfl) 50 _ rfl (gm) (k * 257+1) rfl (bV qb) _ (fun w hSw=>hSw.1.2.2.2.2.2.2.2.2.2.1) (Tryz.underlying50) rfl (infoB HQL.out)) (by assumption) ?_;simp only [gE1,gE2,gE3,Act.put,pE1,pE2,pE3];refine tkS 51 (.bool false) rfl ?_ ?_
       ·(intro w hSw;simp only [gE1,gE2,gE3];(have hne:=HNE.out w c qb HCL.out HQL.out;go_simp;exact HCE.out))
       refine tkR 52 rfl ?_;refine wpAnyH_done (by kernel_rfl) ⟨rfl,?_⟩ _;have HEND:=hid hHeld.2;have HSE:=hid hHeld.1;clear hHeld;have HM3:Hid (Mods [y+1,y+1+1] Y wd):=hid (HM2.out.thenBelow HEND.out);have hk4:Boxed wd z 27 (.pointer (some ⟨C,0,none⟩)):=(HM3.out.block _ HB4.out.lt (by simp;omega)).trans HB4.out;have hk5:Boxed wd (z+1) 3 (.int .i64 most):=(HM3.out.block _ HB5.out.lt (by simp;omega)).trans HB5.out;have hk6:Boxed wd (z+1+1) 4 (.bool false):=(HM3.out.block _ HB6.out.lt (by simp;omega)).trans HB6.out
       have hk8:Boxed wd y 3 (.int .i64 (pre.length:Int)):=(HM3.out.block _ HB8.out.lt (by simp;omega)).trans HB8.out;have hk9:Boxed wd (y+1) 3 (.int .i64 (i:Int)):=(HEND.out.block _ HG5.out.lt).trans HG5.out;have hk10:Boxed wd (y+1+1) 3 (.int .i64 (k:Int)):=(HEND.out.block _ HG6.out.lt).trans HG6.out;have HKS:=hid (And.intro hk4 (And.intro hk5 (And.intro hk6 (And.intro hk8 (And.intro hk9 hk10)))));have f6:=hk6.frozen;have f8:=hk8.frozen;have f10:=hk10.frozen;have c5:=hk5.cell;have c6:=hk6.cell;have c8:=hk8.cell;have c10:=hk10.cell
       have HBW3:=hid (bthen HBW2.out HEND.out);have hpl:pre.length<1000000000:=by
        have h1:=HLT.out;have h2:=spots_len HOK.out;have h3:(strip l').length=l'.length:=by unfold strip;rw [mapA_len]
        omega
       clear hk4 hk5 hk6 hk8 hk9 hk10 HSE HSS HBE;obtain ⟨k4,k5,k6,k8,k9,k10⟩:=HKS.out;have KS:=hid (And.intro k4 (And.intro k5 (And.intro k6 (And.intro k8 (And.intro k9 k10)))));clear k4 k5 k6 k8 k9 k10;have HMX:Hid (Mods [y,y+1,y+1+1] Y ((wd.setCell ⟨y+1+1,0,none⟩ (.int .i64 ((k:Int)+1))).setCell ⟨y,0,none⟩ (.int .i64 ((pre.length:Int)+1)))):=hid ((((HM3.out.mono (G:=[y,y+1,y+1+1]) (fun q hq=>List.mem_cons_of_mem _ hq)).setCell (p:=⟨y+1+1,0,none⟩) (by simp) _)).setCell (p:=⟨y,0,none⟩) (by simp) _)
       by_cases hm:(pre.length:Int)+1=most
       ·have hmb:(((pre.length:Int)+1) == most)=true:=by simpa using hm
        clear hm
        gi_wp2
        obtain ⟨k4,k5,k6,k8,k9,k10⟩:=KS.out;refine ⟨keepsFrom_mods ((HMX.out.mono (G:=[z+1+1,y,y+1,y+1+1]) (fun q hq=>List.mem_cons_of_mem _ hq)).setCell (p:=⟨z+1+1,0,none⟩) (List.mem_cons_self ..) _) (by simp;omega),⟨rfl,true,fun h=>(by cases h),((k6.other (by omega) _).other (by omega) _).set _⟩,?_⟩;exact ((HBW3.out.setCell (p:=⟨y+1+1,0,none⟩) (by have:=HWZ.out;simp;omega) _).setCell (p:=⟨y,0,none⟩) (by have:=HWZ.out;simp;omega) _).setCell (p:=⟨z+1+1,0,none⟩) (by have:=HWZ.out;simp;omega) _
       ·have hmb:(((pre.length:Int)+1) == most)=false:=by simpa using hm
        clear hm
        gi_wp2
        obtain ⟨k4,k5,k6,k8,k9,k10⟩:=KS.out;have hmm:=HMX.out.mono (G:=[z+1+1,y,y+1,y+1+1]) (fun q hq=>List.mem_cons_of_mem _ hq);refine ⟨keepsFrom_mods hmm (by simp;omega),KpD.mods hmm (by simp) ?_,⟨(k4.other (by omega) _).other (by omega) _,(k5.other (by omega) _).other (by omega) _,(k6.other (by omega) _).other (by omega) _,?_,i,k+1,(k9.other (by omega) _).other (by omega) _,?_,?_⟩,?_⟩
        ·intro q hq
         simp only [List.mem_cons,List.not_mem_nil,or_false] at hq
         rcases hq with rfl | rfl | rfl | rfl
         ·exact ⟨_,_,_,HB6.out⟩
         ·exact ⟨_,_,_,HB8.out⟩
         ·exact ⟨_,_,_,H5.out⟩
         ·exact ⟨_,_,_,H6.out⟩
        ·rw [show (((pre ++ [x]).length:Nat):Int)=(pre.length:Int)+1 by simp]
         exact ((k8.other (by omega) _).set _)
        ·have:=((k10.set (.int .i64 ((k:Int)+1))).other (show y+1+1≠y by omega) (.int .i64 ((pre.length:Int)+1)))
         simpa using this
        ·rw [show (pre ++ [x]).length=pre.length+1 by simp]
         exact HMORE.out
        ·exact (HBW3.out.setCell (p:=⟨y+1+1,0,none⟩) (by have:=HWZ.out;simp;omega) _).setCell (p:=⟨y,0,none⟩) (by have:=HWZ.out;simp;omega) _
      ·have HCX:Hid (¬ c=qb):=hid e2
       have HBAD:Hid (¬ (pre ++ [x] <+: List.range (spotsL (strip l')).length)):=hid (by
        rcases HXE.out x with h | h | h
        ·exact absurd (Prod.mk.inj (Prod.mk.inj h).2).2 e2
        ·exact h
        ·exact absurd rfl h)
       clear e2
       have HSS:Hid (∀ X,Below W8.heap.size W8 X→(X.cell? ⟨y+1,0,none⟩=some (.int .i64 (i:Int))∧X.cell? ⟨z,0,none⟩=some (.pointer (some ⟨C,0,none⟩))∧X.cell? ⟨C,0,none⟩=some (.slice (some ⟨g,0,none⟩) n cap)∧X.cell? ⟨b1,0,none⟩=some (.int .u64 (sn:Int))∧X.cell? ⟨b1,1,none⟩=some (.int .i64 (bn:Int))∧X.cell? ⟨g,i * 3,none⟩=some (.int .u64 (sn:Int))∧X.cell? ⟨g,i * 3+2,none⟩=some (.slice (some ⟨gm,0,none⟩) nm cx)∧X.cell? ⟨y+1+1,0,none⟩=some (.int .i64 (k:Int))∧X.cell? ⟨gm,k * 257,none⟩=some (.int .i64 (bn:Int))∧X.rangeAt gm (k * 257+1) (bV qb)∧X.rangeAt b2 0 (bV c))∧Below W8.heap.size W8 X):=hid (fun X hb=>⟨⟨(World.cell?_of_block (hb.block _ (HG5.out.lt))).trans (HG5.out.cell),(World.cell?_of_block (hb.block _ (HK4.out.lt))).trans (HK4.out.cell),(World.cell?_of_block (hb.block _ (HSZ.out.1))).trans (HC0.out),(World.cell?_of_block (hb.block _ (HSZ.out.2.2.1))).trans (cellOf HY1.out 0 rfl),(World.cell?_of_block (hb.block _ (HSZ.out.2.2.1))).trans (cellOf HY1.out 1 rfl),(World.cell?_of_block (hb.block _ (HSZ.out.2.1))).trans (HV0.out),(World.cell?_of_block (hb.block _ (HSZ.out.2.1))).trans (HV2.out),(World.cell?_of_block (hb.block _ (HG6.out.lt))).trans (HG6.out.cell),(World.cell?_of_block (hb.block _ (HSZ.out.2.2.2.1))).trans (HQ0.out),rangeStays HQ1.out HSZ.out.2.2.2.1 hb,rangeStays (blkBox HY2.out) HSZ.out.2.2.2.2 hb⟩,hb⟩)
       refine region_round (S:=fun X=>(X.cell? ⟨y+1,0,none⟩=some (.int .i64 (i:Int))∧X.cell? ⟨z,0,none⟩=some (.pointer (some ⟨C,0,none⟩))∧X.cell? ⟨C,0,none⟩=some (.slice (some ⟨g,0,none⟩) n cap)∧X.cell? ⟨b1,0,none⟩=some (.int .u64 (sn:Int))∧X.cell? ⟨b1,1,none⟩=some (.int .i64 (bn:Int))∧X.cell? ⟨g,i * 3,none⟩=some (.int .u64 (sn:Int))∧X.cell? ⟨g,i * 3+2,none⟩=some (.slice (some ⟨gm,0,none⟩) nm cx)∧X.cell? ⟨y+1+1,0,none⟩=some (.int .i64 (k:Int))∧X.cell? ⟨gm,k * 257,none⟩=some (.int .i64 (bn:Int))∧X.rangeAt gm (k * 257+1) (bV qb)∧X.rangeAt b2 0 (bV c))∧Below W8.heap.size W8 X) (by kernel_rfl) (by kernel_rfl) (HSS.out _ (Below.refl _ _).drew) (fun hHeld => ?_)
       have hbe:Below W8.heap.size W8 W8.drew:=(Below.refl _ _).drew;obtain ⟨wd,hwd⟩:∃ y,W8.drew=y:=⟨_,rfl⟩
       rw [hwd] at hHeld hbe ⊢;have HBE:=hid hbe;have HS0:Hid (W8.heap.size≤wd.heap.size):=hid HBE.out.size;clear hwd hbe;refine tkR 0 rfl ?_;refine tkR 1 rfl ?_;refine tkR 2 rfl ?_;refine tkR 3 rfl ?_;refine tkR 4 rfl ?_;refine tkR 5 rfl ?_;refine tkS 6 (.bool false) rfl ?_ ?_
       ·(intro w hSw;simp only [gE1,gE2,gE3];(go_simp;first | done | (simp;omega)))
       refine tkR 7 rfl ?_;refine tkR 8 rfl ?_;refine tkR 10 rfl ?_;refine tkR 14 rfl ?_;refine tkR 9 rfl ?_;refine tkR 11 rfl ?_;refine tkR 12 rfl ?_;refine tkR 13 rfl ?_;refine tkR 15 rfl ?_;refine tkR 16 rfl ?_;refine tkR 17 rfl ?_;refine tkS 18 (.bool false) rfl ?_ ?_
       ·(intro w hSw;simp only [gE1,gE2,gE3];(go_simp;first | done | simp))
       refine tkR 19 rfl ?_;refine tkR 20 rfl ?_;refine tkR 21 rfl ?_;refine tkR 23 rfl ?_;refine tkR 27 rfl ?_;refine tkR 31 rfl ?_;refine tkR 22 rfl ?_;refine tkR 24 rfl ?_;refine tkR 25 rfl ?_;refine tkR 26 rfl ?_;refine tkR 28 rfl ?_;refine tkR 29 rfl ?_;refine tkR 30 rfl ?_;refine tkR 32 rfl ?_;refine tkR 33 rfl ?_;refine tkR 34 rfl ?_;refine tkS 35 (.bool false) rfl ?_ ?_
       ·(intro w hSw;simp only [gE1,gE2,gE3];(go_simp;first | done | simp))
       refine tkR 36 rfl ?_;refine tkR 37 rfl ?_;refine wpAnyH_take (i:=38) (v:=_) rfl (by kernel_rfl) (by kernel_rfl) (by kernel_rfl) (fun _ _ _ h=>(by cases h.1)) (yieldsIf_load_mid (by rfl) 50 _ rfl (b2) (0) rfl (bV c) _ (fun w hSw=>hSw.1.2.2.2.2.2.2.2.2.2.2) (Tryz.underlying50) rfl (infoB HCL.out)) (by assumption) ?_;simp only [gE1,gE2,gE3,Act.put,pE1,pE2,pE3];refine tkR 39 rfl ?_;refine tkR 43 rfl ?_;refine tkR 47 rfl ?_;refine tkR 40 rfl ?_;refine tkR 41 rfl ?_;refine tkR 42 rfl ?_;refine tkR 44 rfl ?_;refine tkR 45 rfl ?_;refine tkR 46 rfl ?_
       refine tkR 48 rfl ?_;refine tkR 49 rfl ?_;refine wpAnyH_take (i:=50) (v:=_) rfl (by kernel_rfl) (by kernel_rfl) (by kernel_rfl) (fun _ _ _ h=>(by cases h.1)) (yieldsIf_load_mid (by rfl) 50 _ rfl (gm) (k * 257+1) rfl (bV qb) _ (fun w hSw=>hSw.1.2.2.2.2.2.2.2.2.2.1) (Tryz.underlying50) rfl (infoB HQL.out)) (by assumption) ?_;simp only [gE1,gE2,gE3,Act.put,pE1,pE2,pE3];refine tkS 51 (.bool true) rfl ?_ ?_
       ·(intro w hSw;simp only [gE1,gE2,gE3];(have hne:=HNE.out w c qb HCL.out HQL.out;go_simp;exact HCX.out))
       refine tkR 52 rfl ?_;refine wpAnyH_done (by kernel_rfl) ⟨rfl,?_⟩ _;have HEND:=hid hHeld.2;have HSE:=hid hHeld.1;clear hHeld;have HM3:Hid (Mods [y+1,y+1+1] Y wd):=hid (HM2.out.thenBelow HEND.out);have hk6:Boxed wd (z+1+1) 4 (.bool false):=(HM3.out.block _ HB6.out.lt (by simp;omega)).trans HB6.out;have HK6:=hid hk6;have f6:=hk6.frozen;have c6:=hk6.cell;have HBW3:=hid (bthen HBW2.out HEND.out);clear hk6 HSE HSS HBE
       gi_wp2
       refine ⟨keepsFrom_mods (((HM3.out.mono (G:=[z+1+1,y+1,y+1+1]) (fun q hq=>List.mem_cons_of_mem _ hq)).setCell (p:=⟨z+1+1,0,none⟩) (List.mem_cons_self ..) _)) (by simp;omega),⟨rfl,false,fun _=>HBAD.out,HK6.out.set _⟩,HBW3.out.setCell (p:=⟨z+1+1,0,none⟩) (by have:=HWZ.out;simp;omega) _⟩
     ·have HBAD:Hid (¬ (pre ++ [x] <+: List.range (spotsL (strip l')).length)):=hid (by
       rcases HXE.out x with h | h | h
       ·exact absurd (Prod.mk.inj (Prod.mk.inj h).2).1 e1
       ·exact h
       ·exact absurd rfl h)
      have HSS:Hid (∀ X,Below W8.heap.size W8 X→(X.cell? ⟨y+1,0,none⟩=some (.int .i64 (i:Int))∧X.cell? ⟨z,0,none⟩=some (.pointer (some ⟨C,0,none⟩))∧X.cell? ⟨C,0,none⟩=some (.slice (some ⟨g,0,none⟩) n cap)∧X.cell? ⟨b1,0,none⟩=some (.int .u64 (sn:Int))∧X.cell? ⟨b1,1,none⟩=some (.int .i64 (bn:Int))∧X.cell? ⟨g,i * 3,none⟩=some (.int .u64 (sn:Int))∧X.cell? ⟨g,i * 3+2,none⟩=some (.slice (some ⟨gm,0,none⟩) nm cx)∧X.cell? ⟨y+1+1,0,none⟩=some (.int .i64 (k:Int))∧X.cell? ⟨gm,k * 257,none⟩=some (.int .i64 (qn:Int))∧X.rangeAt gm (k * 257+1) (bV qb)∧X.rangeAt b2 0 (bV c))∧Below W8.heap.size W8 X):=hid (fun X hb=>⟨⟨(World.cell?_of_block (hb.block _ (HG5.out.lt))).trans (HG5.out.cell),(World.cell?_of_block (hb.block _ (HK4.out.lt))).trans (HK4.out.cell),(World.cell?_of_block (hb.block _ (HSZ.out.1))).trans (HC0.out),(World.cell?_of_block (hb.block _ (HSZ.out.2.2.1))).trans (cellOf HY1.out 0 rfl),(World.cell?_of_block (hb.block _ (HSZ.out.2.2.1))).trans (cellOf HY1.out 1 rfl),(World.cell?_of_block (hb.block _ (HSZ.out.2.1))).trans (HV0.out),(World.cell?_of_block (hb.block _ (HSZ.out.2.1))).trans (HV2.out),(World.cell?_of_block (hb.block _ (HG6.out.lt))).trans (HG6.out.cell),(World.cell?_of_block (hb.block _ (HSZ.out.2.2.2.1))).trans (HQ0.out),rangeStays HQ1.out HSZ.out.2.2.2.1 hb,rangeStays (blkBox HY2.out) HSZ.out.2.2.2.2 hb⟩,hb⟩)
      refine region_round (S:=fun X=>(X.cell? ⟨y+1,0,none⟩=some (.int .i64 (i:Int))∧X.cell? ⟨z,0,none⟩=some (.pointer (some ⟨C,0,none⟩))∧X.cell? ⟨C,0,none⟩=some (.slice (some ⟨g,0,none⟩) n cap)∧X.cell? ⟨b1,0,none⟩=some (.int .u64 (sn:Int))∧X.cell? ⟨b1,1,none⟩=some (.int .i64 (bn:Int))∧X.cell? ⟨g,i * 3,none⟩=some (.int .u64 (sn:Int))∧X.cell? ⟨g,i * 3+2,none⟩=some (.slice (some ⟨gm,0,none⟩) nm cx)∧X.cell? ⟨y+1+1,0,none⟩=some (.int .i64 (k:Int))∧X.cell? ⟨gm,k * 257,none⟩=some (.int .i64 (qn:Int))∧X.rangeAt gm (k * 257+1) (bV qb)∧X.rangeAt b2 0 (bV c))∧Below W8.heap.size W8 X) (by kernel_rfl) (by kernel_rfl) (HSS.out _ (Below.refl _ _).drew) (fun hHeld => ?_)
      have hbe:Below W8.heap.size W8 W8.drew:=(Below.refl _ _).drew;obtain ⟨wd,hwd⟩:∃ y,W8.drew=y:=⟨_,rfl⟩
      rw [hwd] at hHeld hbe ⊢;have HBE:=hid hbe;have HS0:Hid (W8.heap.size≤wd.heap.size):=hid HBE.out.size;clear hwd hbe;refine tkR 0 rfl ?_;refine tkR 1 rfl ?_;refine tkR 2 rfl ?_;refine tkR 3 rfl ?_;refine tkR 4 rfl ?_;refine tkR 5 rfl ?_;refine tkS 6 (.bool false) rfl ?_ ?_
      ·(intro w hSw;simp only [gE1,gE2,gE3];(go_simp;first | done | (simp;omega)))
      refine tkR 7 rfl ?_;refine tkR 8 rfl ?_;refine tkR 10 rfl ?_;refine tkR 14 rfl ?_;refine tkR 9 rfl ?_;refine tkR 11 rfl ?_;refine tkR 12 rfl ?_;refine tkR 13 rfl ?_;refine tkR 15 rfl ?_;refine tkR 16 rfl ?_;refine tkR 17 rfl ?_;refine tkS 18 (.bool false) rfl ?_ ?_
      ·(intro w hSw;simp only [gE1,gE2,gE3];(go_simp;first | done | simp))
      refine tkR 19 rfl ?_;refine tkR 20 rfl ?_;refine tkR 21 rfl ?_;refine tkR 23 rfl ?_;refine tkR 27 rfl ?_;refine tkR 31 rfl ?_;refine tkR 22 rfl ?_;refine tkR 24 rfl ?_;refine tkR 25 rfl ?_;refine tkR 26 rfl ?_;refine tkR 28 rfl ?_;refine tkR 29 rfl ?_;refine tkR 30 rfl ?_;refine tkR 32 rfl ?_;refine tkR 33 rfl ?_;refine tkR 34 rfl ?_;refine tkS 35 (.bool true) rfl ?_ ?_
      ·(intro w hSw;simp only [gE1,gE2,gE3];(go_simp;first | done | omega))
      refine tkR 36 rfl ?_;refine tkR 37 rfl ?_;refine tkV 38 rfl ?_;refine tkV 39 rfl ?_;refine tkV 43 rfl ?_;refine tkV 47 rfl ?_;refine tkV 40 rfl ?_;refine tkV 41 rfl ?_;refine tkV 42 rfl ?_;refine tkV 44 rfl ?_;refine tkV 45 rfl ?_;refine tkV 46 rfl ?_;refine tkV 48 rfl ?_;refine tkV 49 rfl ?_;refine tkV 50 rfl ?_;refine tkV 51 rfl ?_;refine tkR 52 rfl ?_;refine wpAnyH_done (by kernel_rfl) ⟨rfl,?_⟩ _;have HEND:=hid hHeld.2;have HSE:=hid hHeld.1;clear hHeld;have HM3:Hid (Mods [y+1,y+1+1] Y wd):=hid (HM2.out.thenBelow HEND.out)
      have hk6:Boxed wd (z+1+1) 4 (.bool false):=(HM3.out.block _ HB6.out.lt (by simp;omega)).trans HB6.out;have HK6:=hid hk6;have f6:=hk6.frozen;have c6:=hk6.cell;have HBW3:=hid (bthen HBW2.out HEND.out);clear hk6 HSE HSS HBE
      gi_wp2
      refine ⟨keepsFrom_mods (((HM3.out.mono (G:=[z+1+1,y+1,y+1+1]) (fun q hq=>List.mem_cons_of_mem _ hq)).setCell (p:=⟨z+1+1,0,none⟩) (List.mem_cons_self ..) _)) (by simp;omega),⟨rfl,false,fun _=>HBAD.out,HK6.out.set _⟩,HBW3.out.setCell (p:=⟨z+1+1,0,none⟩) (by have:=HWZ.out;simp;omega) _⟩
    ·have HBAD:Hid (¬ (pre ++ [x] <+: List.range (spotsL (strip l')).length)):=hid (by
      rcases HXE.out x with h | h | h
      ·exact absurd (Prod.mk.inj h).1 e0
      ·exact h
      ·exact absurd rfl h)
     have HSS:Hid (∀ X,Below W8.heap.size W8 X→(X.cell? ⟨y+1,0,none⟩=some (.int .i64 (i:Int))∧X.cell? ⟨z,0,none⟩=some (.pointer (some ⟨C,0,none⟩))∧X.cell? ⟨C,0,none⟩=some (.slice (some ⟨g,0,none⟩) n cap)∧X.cell? ⟨b1,0,none⟩=some (.int .u64 (sn:Int))∧X.cell? ⟨b1,1,none⟩=some (.int .i64 (bn:Int))∧X.cell? ⟨g,i * 3,none⟩=some (.int .u64 (pn:Int))∧X.cell? ⟨g,i * 3+2,none⟩=some (.slice (some ⟨gm,0,none⟩) nm cx)∧X.cell? ⟨y+1+1,0,none⟩=some (.int .i64 (k:Int))∧X.cell? ⟨gm,k * 257,none⟩=some (.int .i64 (qn:Int))∧X.rangeAt gm (k * 257+1) (bV qb)∧X.rangeAt b2 0 (bV c))∧Below W8.heap.size W8 X):=hid (fun X hb=>⟨⟨(World.cell?_of_block (hb.block _ (HG5.out.lt))).trans (HG5.out.cell),(World.cell?_of_block (hb.block _ (HK4.out.lt))).trans (HK4.out.cell),(World.cell?_of_block (hb.block _ (HSZ.out.1))).trans (HC0.out),(World.cell?_of_block (hb.block _ (HSZ.out.2.2.1))).trans (cellOf HY1.out 0 rfl),(World.cell?_of_block (hb.block _ (HSZ.out.2.2.1))).trans (cellOf HY1.out 1 rfl),(World.cell?_of_block (hb.block _ (HSZ.out.2.1))).trans (HV0.out),(World.cell?_of_block (hb.block _ (HSZ.out.2.1))).trans (HV2.out),(World.cell?_of_block (hb.block _ (HG6.out.lt))).trans (HG6.out.cell),(World.cell?_of_block (hb.block _ (HSZ.out.2.2.2.1))).trans (HQ0.out),rangeStays HQ1.out HSZ.out.2.2.2.1 hb,rangeStays (blkBox HY2.out) HSZ.out.2.2.2.2 hb⟩,hb⟩)
     refine region_round (S:=fun X=>(X.cell? ⟨y+1,0,none⟩=some (.int .i64 (i:Int))∧X.cell? ⟨z,0,none⟩=some (.pointer (some ⟨C,0,none⟩))∧X.cell? ⟨C,0,none⟩=some (.slice (some ⟨g,0,none⟩) n cap)∧X.cell? ⟨b1,0,none⟩=some (.int .u64 (sn:Int))∧X.cell? ⟨b1,1,none⟩=some (.int .i64 (bn:Int))∧X.cell? ⟨g,i * 3,none⟩=some (.int .u64 (pn:Int))∧X.cell? ⟨g,i * 3+2,none⟩=some (.slice (some ⟨gm,0,none⟩) nm cx)∧X.cell? ⟨y+1+1,0,none⟩=some (.int .i64 (k:Int))∧X.cell? ⟨gm,k * 257,none⟩=some (.int .i64 (qn:Int))∧X.rangeAt gm (k * 257+1) (bV qb)∧X.rangeAt b2 0 (bV c))∧Below W8.heap.size W8 X) (by kernel_rfl) (by kernel_rfl) (HSS.out _ (Below.refl _ _).drew) (fun hHeld => ?_)
     have hbe:Below W8.heap.size W8 W8.drew:=(Below.refl _ _).drew;obtain ⟨wd,hwd⟩:∃ y,W8.drew=y:=⟨_,rfl⟩
     rw [hwd] at hHeld hbe ⊢;have HBE:=hid hbe;have HS0:Hid (W8.heap.size≤wd.heap.size):=hid HBE.out.size;clear hwd hbe;refine tkR 0 rfl ?_;refine tkR 1 rfl ?_;refine tkR 2 rfl ?_;refine tkR 3 rfl ?_;refine tkR 4 rfl ?_;refine tkR 5 rfl ?_;refine tkS 6 (.bool false) rfl ?_ ?_
     ·(intro w hSw;simp only [gE1,gE2,gE3];(go_simp;first | done | (simp;omega)))
     refine tkR 7 rfl ?_;refine tkR 8 rfl ?_;refine tkR 10 rfl ?_;refine tkR 14 rfl ?_;refine tkR 9 rfl ?_;refine tkR 11 rfl ?_;refine tkR 12 rfl ?_;refine tkR 13 rfl ?_;refine tkR 15 rfl ?_;refine tkR 16 rfl ?_;refine tkR 17 rfl ?_;refine tkS 18 (.bool true) rfl ?_ ?_
     ·(intro w hSw;simp only [gE1,gE2,gE3];(go_simp;first | done | omega))
     refine tkR 19 rfl ?_;refine tkR 20 rfl ?_;refine tkV 21 rfl ?_;refine tkV 23 rfl ?_;refine tkV 27 rfl ?_;refine tkV 31 rfl ?_;refine tkV 22 rfl ?_;refine tkV 24 rfl ?_;refine tkV 25 rfl ?_;refine tkV 26 rfl ?_;refine tkV 28 rfl ?_;refine tkV 29 rfl ?_;refine tkV 30 rfl ?_;refine tkV 32 rfl ?_;refine tkV 33 rfl ?_;refine tkV 34 rfl ?_;refine tkV 35 rfl ?_;refine tkR 36 rfl ?_;refine tkR 37 rfl ?_;refine tkV 38 rfl ?_;refine tkV 39 rfl ?_;refine tkV 43 rfl ?_;refine tkV 47 rfl ?_;refine tkV 40 rfl ?_;refine tkV 41 rfl ?_;refine tkV 42 rfl ?_;refine tkV 44 rfl ?_
     refine tkV 45 rfl ?_;refine tkV 46 rfl ?_;refine tkV 48 rfl ?_;refine tkV 49 rfl ?_;refine tkV 50 rfl ?_;refine tkV 51 rfl ?_;refine tkR 52 rfl ?_;refine wpAnyH_done (by kernel_rfl) ⟨rfl,?_⟩ _;have HEND:=hid hHeld.2;have HSE:=hid hHeld.1;clear hHeld;have HM3:Hid (Mods [y+1,y+1+1] Y wd):=hid (HM2.out.thenBelow HEND.out);have hk6:Boxed wd (z+1+1) 4 (.bool false):=(HM3.out.block _ HB6.out.lt (by simp;omega)).trans HB6.out;have HK6:=hid hk6;have f6:=hk6.frozen;have c6:=hk6.cell;have HBW3:=hid (bthen HBW2.out HEND.out);clear hk6 HSE HSS HBE
     gi_wp2
     refine ⟨keepsFrom_mods (((HM3.out.mono (G:=[z+1+1,y+1,y+1+1]) (fun q hq=>List.mem_cons_of_mem _ hq)).setCell (p:=⟨z+1+1,0,none⟩) (List.mem_cons_self ..) _)) (by simp;omega),⟨rfl,false,fun _=>HBAD.out,HK6.out.set _⟩,HBW3.out.setCell (p:=⟨z+1+1,0,none⟩) (by have:=HWZ.out;simp;omega) _⟩
 case done =>
  rintro D ys Y hD rfl ⟨⟨h4,h5,h6,h8,i0,k0,h9,h10,h7⟩,hB⟩ hK;rw [List.length_range] at h7 h8;have HBB:=hid hB;have HB4:=hid h4;have HB6:=hid h6;have H5:=hid h9;have H6:=hid h10;have H7:=hid h7;have HDK:=hid hK;have HDS:=hid hD;clear hB h4 h5 h6 h8 h9 h10 h7 hK hD;obtain ⟨n,hn⟩:∃ n,lw.length=n:=⟨_,rfl⟩
  have HN:=hid hn;have hnl:n≤1000000:=by
   have h1:(mapA (·.1) lw).length=(strip l).length:=by rw [HS.out]
   unfold strip at h1;rw [mapA_len,mapA_len] at h1;omega
  clear hn;go_wp2_with fail
  go_loopg [] (n - i0) (fun g wr=>∃ i k:Nat,g=n - i∧Boxed wr (y+1) 3 (.int .i64 (i:Int))∧Boxed wr (y+1+1) 3 (.int .i64 (k:Int))∧Pos (strip l') i k (spotsL (strip l')).length∧Mods [y+1,y+1+1] Y wr)
  case atStart=>exact ⟨i0,k0,rfl,H5.out,H6.out,H7.out,Mods.refl _ _⟩
  case round =>
   obtain ⟨i,k,rfl,g5,g6,g7,hm⟩:=hrel;have G5:=hid g5;have G6:=hid g6;have G7:=hid g7;have HM:=hid hm;have hbwr:Below w.heap.size w wr:=HBB.out.trans (hm.below (fun q hq=>by have:=HWZ.out;simp at hq;omega) HBB.out.size);have hrd:=HR.out.below hbwr;have HCC:=hid hrd.cell;have HCL2:=hid HR.out.lt;have HBW:=hid hbwr;have HWR:Hid (w.heap.size≤wr.heap.size):=hid hbwr.size;have K4:Hid (Boxed wr z 27 (.pointer (some ⟨C,0,none⟩))):=hid ((hm.block z HB4.out.lt (by simp;omega)).trans HB4.out)
   have K6:Hid (Boxed wr (z+1+1) 4 (.bool false)):=hid ((hm.block (z+1+1) HB6.out.lt (by simp;omega)).trans HB6.out);have hll:(strip l').length=n:=by rw [HS2.out,← HS.out,mapA_len];exact HN.out
   have hin:i≤n:=by have:=g7.1;omega
   have HRD:=hid hrd;have HLL:=hid hll;clear hm g5 g6 g7 hbwr hrd hll
   by_cases hil:i<n
   ·obtain ⟨p,hp⟩:∃ p,lw[i]? = some p:=⟨_,List.getElem?_eq_getElem (by have:=HN.out;omega)⟩
    have hps:(strip l')[i]? = some (p.1,p.2.1):=by rw [HS2.out,← HS.out];unfold mapA;simp [hp]
    obtain ⟨g,cap,rfl,hc1,hc2,e0,e1,e2⟩:=HRD.out.at_ hp;have hgz:g<w.heap.size:=by
     rcases HR.out.row.2 with ⟨he,_⟩ | ⟨g',cap',cur,he,_,hgb,_⟩
     ·cases he
     ·obtain ⟨e,_,_⟩:=Value.slice.inj he
      cases e
      exact (hLT hgb)
    have hblk:=HR.out.blk p (List.mem_of_getElem? hp);have hvok:=HOK.out.vol (p.1,p.2.1) (List.mem_of_getElem? hps);have hml:p.2.1.m.length≤k:=by
     by_cases h:p.2.1.m.length≤k
     ·exact h
     ·obtain ⟨q,hq⟩:∃ q,p.2.1.m[k]? = some q:=⟨_,List.getElem?_eq_getElem (by omega)⟩
      have h1:=G7.out.here hps hq;have h2:=(List.getElem?_eq_some_iff.1 h1).1;omega
    obtain ⟨am,cm,hv⟩:=row_slice hblk;rw [hv] at e2;have HE2:=hid e2;have HGZ:=hid hgz;have HNX:=hid (G7.out.next hps (by dsimp only;omega));obtain ⟨nm,hnm⟩:∃ nm,p.2.1.m.length=nm:=⟨_,rfl⟩
    rw [hnm] at HE2 hml;have hnc:n≤cap:=by have:=HN.out;omega
    have hce:Hid (wr.cell? ⟨C,0,none⟩=some (.slice (some ⟨g,0,none⟩) n cap)):=hid (by rw [← HN.out];exact HCC.out);clear hp hps e0 e1 e2 hgz hblk hvok hv hnm hc1;go_wp2_with fail
    have HSS:Hid (∀ X,Below wr.heap.size wr X→(X.cell? ⟨y+1,0,none⟩=some (.int .i64 (i:Int))∧X.cell? ⟨z,0,none⟩=some (.pointer (some ⟨C,0,none⟩))∧X.cell? ⟨C,0,none⟩=some (.slice (some ⟨g,0,none⟩) n cap)∧X.cell? ⟨y+1+1,0,none⟩=some (.int .i64 (k:Int))∧X.cell? ⟨g,i * 3+2,none⟩=some (.slice am nm cm))∧Below wr.heap.size wr X):=hid (fun X hb=>⟨⟨(World.cell?_of_block (hb.block _ (G5.out.lt))).trans (G5.out.cell),(World.cell?_of_block (hb.block _ (K4.out.lt))).trans (K4.out.cell),(World.cell?_of_block (hb.block _ (Nat.lt_of_lt_of_le HCL2.out HWR.out))).trans (hce.out),(World.cell?_of_block (hb.block _ (G6.out.lt))).trans (G6.out.cell),(World.cell?_of_block (hb.block _ (Nat.lt_of_lt_of_le HGZ.out HWR.out))).trans (HE2.out)⟩,hb⟩)
    refine region_normal (S:=fun X=>(X.cell? ⟨y+1,0,none⟩=some (.int .i64 (i:Int))∧X.cell? ⟨z,0,none⟩=some (.pointer (some ⟨C,0,none⟩))∧X.cell? ⟨C,0,none⟩=some (.slice (some ⟨g,0,none⟩) n cap)∧X.cell? ⟨y+1+1,0,none⟩=some (.int .i64 (k:Int))∧X.cell? ⟨g,i * 3+2,none⟩=some (.slice am nm cm))∧Below wr.heap.size wr X) (by kernel_rfl) (HSS.out _ (Below.refl _ _).drew) (fun hHeld => ?_);have hbe:Below wr.heap.size wr wr.drew:=(Below.refl _ _).drew;obtain ⟨wd,hwd⟩:∃ y,wr.drew=y:=⟨_,rfl⟩
    rw [hwd] at hHeld hbe ⊢;have HBE:=hid hbe;have HS0:Hid (wr.heap.size≤wd.heap.size):=hid HBE.out.size;clear hwd hbe;refine tkR 0 rfl ?_;refine tkR 1 rfl ?_;refine tkR 2 rfl ?_;refine tkR 3 rfl ?_;refine tkR 4 rfl ?_;refine tkR 5 rfl ?_;refine tkS 6 (.bool true) rfl ?_ ?_
    ·(intro w hSw;simp only [gE1,gE2,gE3];(go_simp;first | done | (simp;omega)))
    refine tkR 7 rfl ?_;refine tkR 8 rfl ?_;refine tkR 9 rfl ?_;refine tkR 13 rfl ?_;refine tkR 10 rfl ?_;refine tkR 11 rfl ?_;refine tkR 12 rfl ?_;refine tkR 14 rfl ?_;refine tkR 15 rfl ?_;refine tkR 16 rfl ?_;refine tkR 17 rfl ?_;refine tkS 18 (.bool true) rfl ?_ ?_
    ·(intro w hSw;simp only [gE1,gE2,gE3];(go_simp;first | done | (simp;omega)))
    refine tkR 19 rfl ?_;refine wpAnyH_done (by kernel_rfl) ⟨rfl,?_⟩ _;have HEND:=hid hHeld.2;have HSE:=hid hHeld.1;clear hHeld;have hg5:Boxed wd (y+1) 3 (.int .i64 (i:Int)):=(HEND.out.block _ G5.out.lt).trans G5.out;have hg6:Boxed wd (y+1+1) 3 (.int .i64 (k:Int)):=(HEND.out.block _ G6.out.lt).trans G6.out;have f5:=hg5.frozen;have f6:=hg6.frozen;have c5:=hg5.cell;have c6:=hg6.cell;have HG5:=hid hg5;have HG6:=hid hg6;clear hg5 hg6 HSE HSS HBE;go_wp2_with fail
    go_roundg (n - (i+1))
    case measure=>omega
    case rel =>
     refine ⟨i+1,0,rfl,?_,?_,HNX.out,?_⟩
     ·have:=(HG5.out.set (.int .i64 ((i:Int)+1))).other (show y+1≠y+1+1 by omega) (.int .i64 0)
      simpa using this
     ·exact ((HG6.out.other (show y+1+1≠y+1 by omega) _).set (.int .i64 0))
     ·exact ((HM.out.thenBelow HEND.out).setCell (p:=⟨y+1,0,none⟩) (by simp) _).setCell (p:=⟨y+1+1,0,none⟩) (by simp) _
   ·obtain rfl:i=n:=by omega
    obtain ⟨av,cs,hsv⟩:=row_slice HR.out.row;have hce:Hid (wr.cell? ⟨C,0,none⟩=some (.slice av i cs)):=hid (by rw [← HN.out,← hsv];exact HCC.out);clear hsv;go_wp2_with fail
    have HSS:Hid (∀ X,Below wr.heap.size wr X→(X.cell? ⟨y+1,0,none⟩=some (.int .i64 (i:Int))∧X.cell? ⟨z,0,none⟩=some (.pointer (some ⟨C,0,none⟩))∧X.cell? ⟨C,0,none⟩=some (.slice av i cs))∧Below wr.heap.size wr X):=hid (fun X hb=>⟨⟨(World.cell?_of_block (hb.block _ (G5.out.lt))).trans (G5.out.cell),(World.cell?_of_block (hb.block _ (K4.out.lt))).trans (K4.out.cell),(World.cell?_of_block (hb.block _ (Nat.lt_of_lt_of_le HCL2.out HWR.out))).trans (hce.out)⟩,hb⟩)
    refine region_normal (S:=fun X=>(X.cell? ⟨y+1,0,none⟩=some (.int .i64 (i:Int))∧X.cell? ⟨z,0,none⟩=some (.pointer (some ⟨C,0,none⟩))∧X.cell? ⟨C,0,none⟩=some (.slice av i cs))∧Below wr.heap.size wr X) (by kernel_rfl) (HSS.out _ (Below.refl _ _).drew) (fun hHeld => ?_);have hbe:Below wr.heap.size wr wr.drew:=(Below.refl _ _).drew;obtain ⟨wd,hwd⟩:∃ y,wr.drew=y:=⟨_,rfl⟩
    rw [hwd] at hHeld hbe ⊢;have HBE:=hid hbe;have HS0:Hid (wr.heap.size≤wd.heap.size):=hid HBE.out.size;clear hwd hbe;refine tkR 0 rfl ?_;refine tkR 1 rfl ?_;refine tkR 2 rfl ?_;refine tkR 3 rfl ?_;refine tkR 4 rfl ?_;refine tkR 5 rfl ?_;refine tkS 6 (.bool false) rfl ?_ ?_
    ·(intro w hSw;simp only [gE1,gE2,gE3];(go_simp;first | done | (simp;omega)))
    refine tkR 7 rfl ?_;refine tkV 8 rfl ?_;refine tkV 9 rfl ?_;refine tkV 13 rfl ?_;refine tkV 10 rfl ?_;refine tkV 11 rfl ?_;refine tkV 12 rfl ?_;refine tkV 14 rfl ?_;refine tkV 15 rfl ?_;refine tkV 16 rfl ?_;refine tkV 17 rfl ?_;refine tkV 18 rfl ?_;refine tkR 19 rfl ?_;refine wpAnyH_done (by kernel_rfl) ⟨rfl,?_⟩ _;have HEND:=hid hHeld.2;have HSE:=hid hHeld.1;clear hHeld;obtain ⟨W8,hW8⟩:∃ W8,W8=wd:=⟨_,rfl⟩
    subst hW8;have hg5:Boxed W8 (y+1) 3 (.int .i64 (i:Int)):=(HEND.out.block _ G5.out.lt).trans G5.out;have hg4:Boxed W8 z 27 (.pointer (some ⟨C,0,none⟩)):=(HEND.out.block _ K4.out.lt).trans K4.out;have hg6:Boxed W8 (z+1+1) 4 (.bool false):=(HEND.out.block _ K6.out.lt).trans K6.out;have hc0:W8.cell? ⟨C,0,none⟩=some (.slice av i cs):=(World.cell?_of_block (HEND.out.block C (Nat.lt_of_lt_of_le HCL2.out HWR.out))).trans hce.out;have f6:=hg6.frozen;have c4:=hg4.cell;have c5:=hg5.cell;have c6:=hg6.cell;have HG6:=hid hg6
    have HMM:=hid (HM.out.thenBelow HEND.out);have HBW2:=hid (bthen HBW.out HEND.out);clear hg4 hg5 hg6 HSE HSS HBE;go_wp2_with fail
    go_region
    all_goals go_wp2_with fail
    have hK2:W8.heap[D]? = some (.deferred (some [])):=(HMM.out.block D (hLT HDK.out) (by have:=HDS.out;simp;omega)).trans HDK.out;have hK4:=(KeepsOthers.setCell W8 ⟨z+1+1,0,none⟩ (.bool true)).same D _ hK2 rfl;have hK5:((W8.setCell ⟨z+1+1,0,none⟩ (.bool true)).drew).heap[D]? = some (.deferred (some [])):=hK4;refine ⟨by simp,.inl ⟨_,_,rfl,run_takeDeferred hK5,?_⟩⟩;have hc4:((W8.setCell ⟨z+1+1,0,none⟩ (.bool true)).drew).cell? ⟨z+1+1,0,none⟩=some (.bool true):=(HG6.out.set (.bool true)).cell
    have hc5:=cell_kept hc4 (grownBy_putObj' _ D (.deferred none)) (fun r e=>by cases e;exact ⟨_,hK5,rfl⟩);refine ⟨.bool true,?_,rfl,(((HBW2.out.setCell (p:=⟨z+1+1,0,none⟩) (by have:=HWZ.out;simp;omega) _)).drew).trans (belowK_b (w:=w) (Nat.le_refl _) _ D _ _ (by have:=HDS.out;have:=HWZ.out;omega) hK5 rfl rfl)⟩
    simp [results,Tryz.f34,go_sem,hc5]
 case stop =>
  rintro D c pre Y hD hpre ⟨⟨rfl,b,hb,h6⟩,hB⟩ hK;obtain rfl:b=true:=by
   cases b with
   | true=>rfl
   | false=>exact absurd hpre (hb rfl)
  have c2:=h6.cell;refine wpIn_wide.2 ?_;go_wp2_with fail;refine ⟨by simp,.inl ⟨_,_,rfl,run_takeDeferred hK,?_⟩⟩;have hc5:=cell_kept c2 (grownBy_putObj' _ D (.deferred none)) (fun r e=>by cases e;exact ⟨_,hK,rfl⟩);refine ⟨.bool true,?_,rfl,hB.trans (belowK_b (w:=w) (Nat.le_refl _) Y D _ _ (by have:=HBW0.out.size;omega) hK rfl rfl)⟩
  simp [results,Tryz.f34,go_sem,hc5]
end Go.Proofs.YthkmihedkddnmaaGreat
