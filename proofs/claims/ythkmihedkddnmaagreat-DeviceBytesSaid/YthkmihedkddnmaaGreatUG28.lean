import Derived.Test.YthkmihedkddnmaaGreatUG2
import Derived.Test.YthkmihedkddnmaaGreatUG6
import Derived.Test.YthkmihedkddnmaaGreatUG26
import Derived.Test.YthkmihedkddnmaaGreatUG17
import Derived.Test.YthkmihedkddnmaaGreatUG11
import Derived.Test.YthkmihedkddnmaaGreatUG27
import Derived.Test.YthkmihedkddnmaaGreatUG12
set_option linter.unusedVariables false
set_option linter.unusedSimpArgs false
set_option maxHeartbeats 6400000
set_option maxRecDepth 100000
namespace Go.Proofs.YthkmihedkddnmaaGreat
open Lib (hid)
open Go.RowKit Go.Maps Wire Cmd
theorem unB_no {w:World} {v:Value} {m:Nat} {bs:List UInt8} (hrd:Rd w 1 v m (bV bs)) (hm:m<260) :
  Calls Tryz.prog 86 #[.string ⟨#[52,35]⟩,v] w fun e w'=>e = .returned (.tuple #[.slice none 0 0,.int .i64 0,.int .i64 4])∧Below w.heap.size w w':=by
 have hl:bs.length=m:=by obtain ⟨_,_,_,hl,_⟩:=hrd;simpa [bV_len] using hl
 refine (unpack_any ⟨#[52,35]⟩ hrd (by omega) (by decide)).mono fun e w' hP => ?_;have hy:may (chs ⟨#[52,35]⟩)=true:=by decide
 have ho:unpack (chs ⟨#[52,35]⟩) bs=none:=by
  show unpack [52,35] bs=none
  have hw:wid 52=4:=by decide
  have hw2:wid 35=256:=by decide
  by_cases h4:bs.length<4
  ·simp [unpack,lift,hw,h4]
  ·have h5:(bs.drop 4).length<256:=by rw [List.length_drop];omega
   simp [unpack,lift,hw,hw2,h4]
   omega
 rw [hy,ho] at hP;exact ⟨hP.2,hP.1⟩
theorem unB_yes {w:World} {v:Value} {bs:List UInt8} (hrd:Rd w 1 v 260 (bV bs)) :
  Calls Tryz.prog 86 #[.string ⟨#[52,35]⟩,v] w fun e w'=>∃ g cap,e = .returned (.tuple #[.slice (some ⟨g,0,none⟩) 2 cap,.int .i64 260,.int .i64 0])∧w'.cell? ⟨g,0,none⟩=some (.iface 38 (.int .u64 (sum (bs.take 4):Int)))∧w'.cell? ⟨g,1,none⟩=some (.iface 50 (bA ((bs.drop 4).take 256))) ∧
   (∃ cur,w'.heap[g]? = some (.cells cur 20 (0,0)))∧2≤cap∧Below w.heap.size w w':=by
 have hl:bs.length=260:=by obtain ⟨_,_,_,hl,_⟩:=hrd;simpa [bV_len] using hl
 refine (unpack_any ⟨#[52,35]⟩ hrd (by omega) (by decide)).mono fun e w' hP => ?_;have hy:may (chs ⟨#[52,35]⟩)=true:=by decide
 have ho:unpack (chs ⟨#[52,35]⟩) bs=some ([num (sum (bs.take 4)),blk ((bs.drop 4).take 256)],260):=by
  show unpack [52,35] bs=_
  have hw:wid 52=4:=by decide
  have hw2:wid 35=256:=by decide
  have h4 : ¬ bs.length<4:=by omega
  have h5 : ¬ bs.length - 4<256:=by omega
  simp [unpack,lift,hw,hw2,h4,h5]
 rw [hy,ho] at hP;obtain ⟨h1,v',he,xs,hrow,hx⟩:=hP;obtain ⟨u,hu,ha⟩:=hx 0 _ rfl;obtain ⟨u2,hu2,ha2⟩:=hx 1 _ rfl;obtain ⟨g,cap,cur,rfl,_,hg,hc,hcap,_⟩:=row_cell hrow hu;obtain ⟨g2,cap2,cur2,e2,_,hg2,hc2,_,_⟩:=row_cell hrow hu2;obtain ⟨e3,_,_⟩:=Value.slice.inj e2;obtain ⟨rfl,_,_⟩:=Addr.mk.inj (Option.some.inj e3);rw [hg] at hg2;obtain ⟨rfl,_,_⟩:=Obj.cells.inj (Option.some.inj hg2);refine ⟨g,cap,he,?_,?_,⟨_,hg⟩,hcap,h1⟩
 ·rcases ha with ⟨_,e,_⟩ | ⟨h,_⟩ | ⟨h,_⟩ | ⟨h,_⟩
  ·subst e;exact cellOf hg 0 hc
  ·have h2:(num 0).letter=63:=h
   exact absurd h2 (by decide)
  ·have h2:(num 0).letter=42:=h
   exact absurd h2 (by decide)
  ·have h2:(num 0).letter=35:=h
   exact absurd h2 (by decide)
 ·rcases ha2 with ⟨h,_⟩ | ⟨h,_⟩ | ⟨h,_⟩ | ⟨_,e,_⟩
  ·have h2:(blk []).letter=56:=h
   exact absurd h2 (by decide)
  ·have h2:(blk []).letter=63:=h
   exact absurd h2 (by decide)
  ·have h2:(blk []).letter=42:=h
   exact absurd h2 (by decide)
  ·subst e;exact cellOf hg 1 hc2
theorem resVol {fn:Func} {a p b c:Tmp} (h:fn.results=#[.tmp a,.cell p 84,.tmp b,.tmp c]) (tmps:Array Value) (y:World) (g:Nat) (x z va vb vc:Value) (ha:tmps.getD a undef=va) (hp:tmps.getD p undef = .pointer (some ⟨g,0,none⟩)) (hb:tmps.getD b undef=vb) (hc:tmps.getD c undef=vc)
  (hg:y.heap[g]? = some (.cells #[x,z] 84 (0,0))):(results fn tmps).run Tryz.prog y = .ok (.tuple #[va,.agg #[x,z],vb,vc]) y:=by
 have hp':(tmps[p]?).getD undef = .pointer (some ⟨g,0,none⟩):=by rw [← hp];simp
 have ha':(tmps[a]?).getD undef=va:=by rw [← ha];simp
 have hb':(tmps[b]?).getD undef=vb:=by rw [← hb];simp
 have hc':(tmps[c]?).getD undef=vc:=by rw [← hc];simp
 have h0:=cellOf hg 0 (v:=x) rfl;have h1:=cellOf hg 1 (v:=z) rfl;unfold results;rw [h]
 simp [go_sem,ha',hp',hb',hc',h0,h1,asAddr,Result.andThen]
def VolP (u w:World) (bs:List UInt8) (e:Ending) (w':World):Prop :=
 Below w.heap.size w w'∧((ofVol bs=none∧∃ a b,e = .returned (.tuple #[.int .u64 0,.agg #[.int .i64 a,.map b],.slice none 0 0,.bool false])) ∨
  ∃ r blk vr,ofVol bs=some r∧e = .returned (.tuple #[.int .u64 (r.1.1:Int),.agg #[.int .i64 (r.1.2.size:Int),.map (some blk)],vr,.bool true])∧MapL w' Tryz.prog 3 RBlk .i64 blkD blk r.1.2.m∧w.heap.size≤blk∧Rd u 1 vr r.2.length (bV r.2))
structure VInv (n1 n2 j:Nat) (b0:List UInt8) (ml:List (Nat × List UInt8)) (last:Int) (r:List UInt8):Prop where
 ris:Ris ml
 le:∀ q∈ml,(q.1:Int)≤last
 lt:∀ q∈ml,q.1<n1
 bd : -1≤last∧last<4294967296
 eq:ofBlks n2 n1 (-1) b0=(ofBlks (n2 - j) n1 last r).map fun s=>(ml ++ s.1,s.2)
theorem VInv.start (n1 n2:Nat) (b0:List UInt8):VInv n1 n2 0 b0 [] (-1) b0 :=
 ⟨List.Pairwise.nil,fun q hq=>(by cases hq),fun q hq=>(by cases hq),by omega,by simp⟩
theorem VInv.no {n1 n2 j:Nat} {b0 r:List UInt8} {ml:List (Nat × List UInt8)} {last:Int} (h:VInv n1 n2 j b0 ml last r) (hj:j<n2) (hf:r.length<260∨(sum (r.take 4):Int)≤last∨n1≤sum (r.take 4)):ofBlks n2 n1 (-1) b0=none:=by
 rw [h.eq,show n2 - j=(n2 - j - 1)+1 by omega,ofBlks,if_pos hf]
 rfl
theorem VInv.fin {n1 n2:Nat} {b0 r:List UInt8} {ml:List (Nat × List UInt8)} {last:Int} (h:VInv n1 n2 n2 b0 ml last r):ofBlks n2 n1 (-1) b0=some (ml,r):=by
 rw [h.eq,Nat.sub_self,ofBlks]
 simp
theorem VInv.next {n1 n2 j:Nat} {b0 r:List UInt8} {ml:List (Nat × List UInt8)} {last:Int} (h:VInv n1 n2 j b0 ml last r) (hj:j<n2) (hf : ¬ (r.length<260∨(sum (r.take 4):Int)≤last∨n1≤sum (r.take 4))) :
  VInv n1 n2 (j+1) b0 (ml ++ [(sum (r.take 4),(r.drop 4).take 256)]) (sum (r.take 4)) (r.drop 260):=by
 have h4:=sum4_lt r;refine ⟨List.pairwise_append.2 ⟨h.ris,List.pairwise_singleton _ _,fun a ha b hb => ?_⟩,fun q hq => ?_,fun q hq => ?_,by omega,?_⟩
 ·rw [List.mem_singleton.1 hb]
  have:=h.le a ha
  show a.1<sum (r.take 4)
  omega
 ·rcases List.mem_append.1 hq with hq | hq
  ·have:=h.le q hq
   omega
  ·rw [List.mem_singleton.1 hq]
   exact Int.le_refl _
 ·rcases List.mem_append.1 hq with hq | hq
  ·exact h.lt q hq
  ·rw [List.mem_singleton.1 hq]
   show sum (r.take 4)<n1
   omega
 ·rw [h.eq,show n2 - j=(n2 - (j+1))+1 by omega,ofBlks,if_neg hf,Option.map_map]
  congr 1
  funext s
  simp
theorem putA_end {α:Type} {k:Nat} {a:α} {l:List (Nat × α)} (h:∀ q∈l,q.1<k):putA k a l=l ++ [(k,a)]:=by
 have hd:delA k l=l:=by
  unfold delA;rw [List.filter_eq_self];intro q hq;have:=h q hq
  simp
  omega
 unfold putA;rw [hd];clear hd
 induction l with
 | nil=>rfl
 | cons y r ih =>
  have hy:=h y (List.mem_cons_self ..);unfold insA;rw [if_neg (by omega),ih (fun q hq=>h q (List.mem_cons_of_mem _ hq))]
  rfl
theorem ofVol_eq {bs:List UInt8} {n1 n2:Nat} (hl:12≤bs.length) (h1:sum ((bs.drop 4).take 4)=n1) (h2:sum ((bs.drop 8).take 4)=n2) (h:n1≤256):ofVol bs=(ofBlks n2 n1 (-1) (bs.drop 12)).map fun r=>((sum (bs.take 4),⟨n1,r.1⟩),r.2):=by
 unfold ofVol;rw [h1,h2,if_neg (by omega)]
theorem set2 {w:World} {g:Nat} {a b x y:Value} {t:TypeId} (h:w.heap[g]? = some (.cells #[a,b] t (0,0))) :
  ((w.setCell ⟨g,0,none⟩ x).setCell ⟨g,1,none⟩ y).heap[g]? = some (.cells #[x,y] t (0,0))∧Mods [g] w ((w.setCell ⟨g,0,none⟩ x).setCell ⟨g,1,none⟩ y) :=
 ⟨by simpa using setOf (setOf h 0 x) 1 y,((Mods.refl [g] w).setCell (p:=⟨g,0,none⟩) (by simp) _).setCell (p:=⟨g,1,none⟩) (by simp) _⟩
theorem dvolOf_any (u w:World) (hu:Below u.heap.size u w) (v:Value) (m:Nat) (bs:List UInt8) (hrd:Rd u 1 v m (bV bs)) (hm:m≤100000000) :
  Calls Tryz.prog 64 #[v] w fun e w'=>VolP u w bs e w':=by
 have HRD:=hid hrd;have HU:=hid hu;have HLB:Hid (bs.length=m):=hid (by obtain ⟨_,_,_,hl,_⟩:=hrd;simpa [bV_len] using hl);obtain ⟨w1,hw1⟩:∃ y,w.alloc (.cells #[.int .i64 0,.map none] 84)=y:=⟨_,rfl⟩
 have hb1:Below w.heap.size w w1:=by rw [← hw1];exact balloc (Below.refl _ _) _
 have HQ1:Hid (w1.heap[w.heap.size]? = some (.cells #[.int .i64 0,.map none] 84 (0,0))):=hid (by rw [← hw1];exact heap_alloc_new _ _);have HB1:=hid hb1;have CN:=dnum_any 3 (by omega) u w1 (bthen hu hb1) v m bs hrd hm;obtain ⟨av,cv,rfl,hcv1,hcv2⟩:=rd_slice' hrd;unfold maxLen at hcv2;clear hrd hu hb1;change Calls _ _ #[_,.int .i64 3] _ _ at CN
 go_enter Tryz.func64,Tryz.ntmps64
 go_wp2_with fail
 (try rw [hw1])
 clear hw1;refine CN.mono ?_;rintro e w2 ⟨hb2,hcase⟩;have HB2:=hid (bthen HB1.out hb2);have HQ2:=hid ((hb2.block _ (hLT HQ1.out)).trans HQ1.out);clear CN hb2
 rcases hcase with ⟨hm3,rfl⟩ | ⟨hm3,vl,vr,rfl,hrow,hvr⟩
 ·have HNO:Hid (ofVol bs=none):=hid (by unfold ofVol;rw [if_pos (.inl (by rw [HLB.out];omega))])
  dsimp only;clear hm3;go_wp2_with fail;obtain ⟨qa,hqa⟩:∃ qa:Int,qa=0:=⟨_,rfl⟩
  obtain ⟨qb,hqb⟩:∃ qb:Option Nat,qb=none:=⟨_,rfl⟩
  have HQ3:Hid (w2.heap[w.heap.size]? = some (.cells #[.int .i64 qa,.map qb] 84 (0,0))):=hid (by rw [hqa,hqb];exact HQ2.out);clear hqa hqb;have HSS:Hid (∀ X,Mods [w.heap.size] w2 X→(True)∧Mods [w.heap.size] w2 X):=hid (fun X hb=>⟨trivial,hb⟩);refine wp_region_held_drew (S:=fun X=>(True)∧Mods [w.heap.size] w2 X) (by kernel_rfl) (HSS.out _ (Mods.of_below (Below.refl _ _).drew)) (fun hHeld => ?_);have hbe:Below w2.heap.size w2 w2.drew:=(Below.refl _ _).drew;obtain ⟨wd,hwd⟩:∃ y,w2.drew=y:=⟨_,rfl⟩
  rw [hwd] at hHeld hbe ⊢;have HBE:=hid hbe;have HS0:Hid (w2.heap.size≤wd.heap.size):=hid HBE.out.size;clear hwd hbe;refine tkP 1 rfl ?_;refine rd1 0 rfl fun K hK => ?_;have hrd:=(And.intro (cellOf ((HBE.out.block _ (hLT HQ3.out)).trans HQ3.out) 0 (v:=.int .i64 qa) rfl) (cellOf ((HBE.out.block _ (hLT HQ3.out)).trans HQ3.out) 1 (v:=.map qb) rfl))
  simp only [gE1,gE2,gE3];go_simp;clear hrd;refine hK.out _ _ ?_ (fun hHeld => ?_)
  ·exact (by first | exact HSS.out _ (Mods.of_below HBE.out) | exact HSS.out _ HMD.out)
  clear hK K;try simp only [Act.put,pE1,pE2,pE3]
  refine rd1 2 rfl fun K hK => ?_;have HQD:=hid ((HBE.out.block _ (hLT HQ3.out)).trans HQ3.out);have HBD:Hid (Below w.heap.size w wd):=hid (bthen HB2.out HBE.out);have hc0:=cellOf HQD.out 0 (v:=.int .i64 qa) rfl;have hf0:=frozenOf HQD.out 0;have hc1:=cellOf HQD.out 1 (v:=.map qb) rfl;have hf1:=frozenOf HQD.out 1;simp only [gE1,gE2,gE3];go_simp;refine hK.out _ _ ?_ (fun hHeld => ?_)
  ·exact HSS.out _ ((Mods.of_below HBE.out).trans (set2 HQD.out).2 (fun i hi=>.inl hi))
  clear hK K;try simp only [Act.put,pE1,pE2,pE3]
  clear hc0 hf0 hc1 hf1;refine tkP 3 rfl ?_;refine tkP 4 rfl ?_;refine wpAnyH_done (by kernel_rfl) ?_ _;have HEND:=hid hHeld.2;have HSE:=hid hHeld.1;clear hHeld;clear HSE HSS HEND;go_wp2_with fail;obtain ⟨hx4,hm4⟩:=set2 (x:=.int .i64 qa) (y:=.map qb) HQD.out;refine bodyPost_ret (v:=.tuple #[.int .u64 0,.agg #[.int .i64 qa,.map qb],.slice none 0 0,.bool false]) (resVol rfl _ _ _ _ _ _ _ _ rfl rfl rfl rfl hx4) rfl ?_;exact ⟨HBD.out.trans (hm4.below (fun k hk=>by rw [List.mem_singleton.1 hk];exact Nat.le_refl _) HBD.out.size),.inl ⟨HNO.out,_,_,rfl⟩⟩
 ·dsimp only
  obtain ⟨n0,hn0⟩:∃ x,sum (bs.take 4)=x:=⟨_,rfl⟩
  obtain ⟨n1,hn1⟩:∃ x,sum ((bs.drop 4).take 4)=x:=⟨_,rfl⟩
  obtain ⟨n2,hn2⟩:∃ x,sum ((bs.drop 8).take 4)=x:=⟨_,rfl⟩
  have hnv:numV bs 3=[.int .i64 (n0:Int),.int .i64 (n1:Int),.int .i64 (n2:Int)]:=by rw [← hn0,← hn1,← hn2];rfl
  have hb0:n0<4294967296:=by rw [← hn0];exact sum4_lt _
  have hb1:n1<4294967296:=by rw [← hn1];exact sum4_lt _
  have hb2:n2<4294967296:=by rw [← hn2];exact sum4_lt _
  have HN0:=hid hn0;have HN1:=hid hn1;have HN2:=hid hn2;rw [hnv] at hrow;obtain ⟨gl,cl,curl,rfl,_,hglh,g0,hcl,_⟩:=row_cell hrow (i:=0) (x:=.int .i64 (n0:Int)) rfl;obtain ⟨_,_,curl2,e2,_,hglh2,g1,_,_⟩:=row_cell hrow (i:=1) (x:=.int .i64 (n1:Int)) rfl;obtain ⟨e5,_,rfl⟩:=Value.slice.inj e2;obtain ⟨rfl,_,_⟩:=Addr.mk.inj (Option.some.inj e5);rw [hglh] at hglh2;obtain ⟨rfl,_,_⟩:=Obj.cells.inj (Option.some.inj hglh2);obtain ⟨_,_,curl3,e3,_,hglh3,g2,_,_⟩:=row_cell hrow (i:=2) (x:=.int .i64 (n2:Int)) rfl
  obtain ⟨e4,_,rfl⟩:=Value.slice.inj e3;obtain ⟨rfl,_,_⟩:=Addr.mk.inj (Option.some.inj e4);rw [hglh] at hglh3;obtain ⟨rfl,_,_⟩:=Obj.cells.inj (Option.some.inj hglh3);have HGL:=hid hglh;have HGC:=hid (And.intro g0 (And.intro g1 g2));have HVR:=hid hvr;have HM12:Hid (12≤m):=hid (by omega);clear hn0 hn1 hn2 hnv hrow hglh hglh2 hglh3 e2 e3 e4 e5 g0 g1 g2 hvr hm3;have c1:=cellOf HGL.out 1 HGC.out.2.1
  by_cases h256:256<n1
  ·have q1:decide ((256:Int)<(n1:Int))=true:=decide_eq_true (by omega)
   have HNO:Hid (ofVol bs=none):=hid (by unfold ofVol;rw [if_pos (.inr (by rw [HN1.out];exact h256))]);clear h256;go_wp2_with fail;clear c1 q1;obtain ⟨qa,hqa⟩:∃ qa:Int,qa=0:=⟨_,rfl⟩
   obtain ⟨qb,hqb⟩:∃ qb:Option Nat,qb=none:=⟨_,rfl⟩
   have HQ3:Hid (w2.heap[w.heap.size]? = some (.cells #[.int .i64 qa,.map qb] 84 (0,0))):=hid (by rw [hqa,hqb];exact HQ2.out);clear hqa hqb;have HSS:Hid (∀ X,Mods [w.heap.size] w2 X→(True)∧Mods [w.heap.size] w2 X):=hid (fun X hb=>⟨trivial,hb⟩);refine wp_region_held_drew (S:=fun X=>(True)∧Mods [w.heap.size] w2 X) (by kernel_rfl) (HSS.out _ (Mods.of_below (Below.refl _ _).drew)) (fun hHeld => ?_);have hbe:Below w2.heap.size w2 w2.drew:=(Below.refl _ _).drew;obtain ⟨wd,hwd⟩:∃ y,w2.drew=y:=⟨_,rfl⟩
   rw [hwd] at hHeld hbe ⊢;have HBE:=hid hbe;have HS0:Hid (w2.heap.size≤wd.heap.size):=hid HBE.out.size;clear hwd hbe;refine tkP 1 rfl ?_;refine rd1 0 rfl fun K hK => ?_;have hrd:=(And.intro (cellOf ((HBE.out.block _ (hLT HQ3.out)).trans HQ3.out) 0 (v:=.int .i64 qa) rfl) (cellOf ((HBE.out.block _ (hLT HQ3.out)).trans HQ3.out) 1 (v:=.map qb) rfl))
   simp only [gE1,gE2,gE3];go_simp;clear hrd;refine hK.out _ _ ?_ (fun hHeld => ?_)
   ·exact (by first | exact HSS.out _ (Mods.of_below HBE.out) | exact HSS.out _ HMD.out)
   clear hK K;try simp only [Act.put,pE1,pE2,pE3]
   refine rd1 2 rfl fun K hK => ?_;have HQD:=hid ((HBE.out.block _ (hLT HQ3.out)).trans HQ3.out);have HBD:Hid (Below w.heap.size w wd):=hid (bthen HB2.out HBE.out);have hc0:=cellOf HQD.out 0 (v:=.int .i64 qa) rfl;have hf0:=frozenOf HQD.out 0;have hc1:=cellOf HQD.out 1 (v:=.map qb) rfl;have hf1:=frozenOf HQD.out 1;simp only [gE1,gE2,gE3];go_simp;refine hK.out _ _ ?_ (fun hHeld => ?_)
   ·exact HSS.out _ ((Mods.of_below HBE.out).trans (set2 HQD.out).2 (fun i hi=>.inl hi))
   clear hK K;try simp only [Act.put,pE1,pE2,pE3]
   clear hc0 hf0 hc1 hf1;refine tkP 3 rfl ?_;refine tkP 4 rfl ?_;refine wpAnyH_done (by kernel_rfl) ?_ _;have HEND:=hid hHeld.2;have HSE:=hid hHeld.1;clear hHeld;clear HSE HSS HEND;go_wp2_with fail;obtain ⟨hx4,hm4⟩:=set2 (x:=.int .i64 qa) (y:=.map qb) HQD.out;refine bodyPost_ret (v:=.tuple #[.int .u64 0,.agg #[.int .i64 qa,.map qb],.slice none 0 0,.bool false]) (resVol rfl _ _ _ _ _ _ _ _ rfl rfl rfl rfl hx4) rfl ?_;exact ⟨HBD.out.trans (hm4.below (fun k hk=>by rw [List.mem_singleton.1 hk];exact Nat.le_refl _) HBD.out.size),.inl ⟨HNO.out,_,_,rfl⟩⟩
  ·have q1:decide ((256:Int)<(n1:Int))=false:=decide_eq_false (by omega)
   have hmm := @run_makeMap Tryz.prog;have c0:=cellOf HGL.out 0 HGC.out.1;have c2:=cellOf HGL.out 2 HGC.out.2.2;have d0:=cellOf HQ2.out 0 (v:=.int .i64 0) rfl;have d1:=cellOf HQ2.out 1 (v:=.map none) rfl;have f0:=frozenOf HQ2.out 0;have f1:=frozenOf HQ2.out 1;have HQL:Hid (w.heap.size<w2.heap.size∧gl<w2.heap.size):=hid ⟨(hLT HQ2.out),(hLT HGL.out)⟩;have hql:=HQL.out;have h256b:n1≤256:=by omega
   clear h256;go_wp2_with fail;clear c0 c1 c2 d0 d1 f0 f1 hmm q1 hql;obtain ⟨B,hB⟩:∃ B,w2.heap.size=B:=⟨_,rfl⟩
   obtain ⟨hq3,hm3⟩:=set2 (x:=.int .i64 (n1:Int)) (y:=.map (some B)) HQ2.out;have hml:=mapL_new ((w2.setCell ⟨w.heap.size,0,none⟩ (.int .i64 (n1:Int))).setCell ⟨w.heap.size,1,none⟩ (.map (some B))) Tryz.prog 3 RBlk .i64 blkD;have hbal:=balloc (Below.refl _ ((w2.setCell ⟨w.heap.size,0,none⟩ (.int .i64 (n1:Int))).setCell ⟨w.heap.size,1,none⟩ (.map (some B)))) (.map #[] 0);have hsz:((w2.setCell ⟨w.heap.size,0,none⟩ (.int .i64 (n1:Int))).setCell ⟨w.heap.size,1,none⟩ (.map (some B))).heap.size=B:=by simp [hB]
   rw [hB];obtain ⟨w3,hw3⟩:∃ y,((w2.setCell ⟨w.heap.size,0,none⟩ (.int .i64 (n1:Int))).setCell ⟨w.heap.size,1,none⟩ (.map (some B))).alloc (.map #[] 0)=y:=⟨_,rfl⟩
   rw [hw3] at hml hbal ⊢;rw [hsz] at hml;have HQ3:Hid (w3.heap[w.heap.size]? = some (.cells #[.int .i64 (n1:Int),.map (some B)] 84 (0,0))):=hid ((hbal.block _ (hLT hq3)).trans hq3);have HM3:Hid (Mods [w.heap.size] w2 w3):=hid (hm3.thenBelow hbal);have HML3:=hid hml;have HBB:Hid (w2.heap.size=B):=hid hB;clear hq3 hm3 hml hbal hsz hw3 hB;have HINV:=hid (VInv.start n1 n2 (bs.drop 12));have HLR:Hid ((bs.drop 12).length=m - 4 * 3):=hid (by rw [List.length_drop,HLB.out])
   go_loopw [0,7,35] (fun v0 v7 i wr=>∃ (j:Nat) (ml:List (Nat × List UInt8)) (last:Int) (r:List UInt8),j≤n2∧i = .int .i64 (j:Int)∧v7 = .int .i64 last∧Rd u 1 v0 r.length (bV r)∧r.length≤m∧MapL wr Tryz.prog 3 RBlk .i64 blkD B ml∧wr.heap[w.heap.size]? = some (.cells #[.int .i64 (n1:Int),.map (some B)] 84 (0,0))∧Mods [w.heap.size] w2 wr∧VInv n1 n2 j (bs.drop 12) ml last r) (fun _ _ i _=>n2 - (Go.Proofs.intOf i).toNat)
   case atStart=>exact ⟨0,[],-1,bs.drop 12,Nat.zero_le _,rfl,rfl,by rw [HLR.out];exact HVR.out,by rw [HLR.out];omega,HML3.out,HQ3.out,HM3.out,HINV.out⟩
   case round =>
    obtain ⟨j,ml,last,r,hj,rfl,rfl,hrd0,hrl,hml,hq,hmo,hinv⟩:=hrel;have HRD0:=hid hrd0;have HML:=hid hml;have HQ:=hid hq;have HMO:=hid hmo;have HINV:=hid hinv;obtain ⟨ao,cap,rfl,hc1,hc2⟩:=rd_slice' hrd0;unfold maxLen at hc2;have hlast:=hinv.bd;clear hrd0 hml hq hmo hinv
    by_cases hlt:j<n2
    ·have q0:decide (j<n2)=true:=decide_eq_true hlt
     have HBWr:Hid (Below w.heap.size w wr):=hid (HB2.out.trans (HMO.out.below (fun k hk=>by rw [List.mem_singleton.1 hk];exact Nat.le_refl _) HB2.out.size));have HHD:Hid (∀ k,k≤r.length→Rd wr 1 (.slice (cutA ao cap 0 1) k cap) k (bV (r.take k))):=hid (fun k hk=>(HRD0.out.below (bthen HU.out HBWr.out)).head hk)
     by_cases h260:r.length<260
     ·have m1:min (r.length:Int) 260=(r.length:Int):=by omega
      have HSL:Hid (∀ X,(Instr.slice 33 (.slice ao r.length cap) none (some (.int .i64 (r.length:Int))) none).run Tryz.prog X = .ok (.slice (cutA ao cap 0 1) r.length cap) X):=hid (fun X=>by
       have h1:=run_cutH (P:=Tryz.prog) X 33 ao r.length cap 1 undBytes szBytes (r.length:Int) (by omega) (by omega);rw [Int.toNat_natCast] at h1;exact h1)
      have hsl:=HSL.out wr;have CU:=unB_no (HHD.out r.length (Nat.le_refl _)) h260;have HNO:Hid (ofVol bs=none):=hid (by rw [ofVol_eq (by rw [HLB.out];exact HM12.out) HN1.out HN2.out h256b,HINV.out.no hlt (.inl h260)];rfl);clear h260;go_wp2_with fail;clear hsl m1 q0;refine CU.mono ?_;rintro e w4 ⟨rfl,hb4⟩;dsimp only;have HB4:=hid (bthen HBWr.out hb4);obtain ⟨qa,hqa⟩:∃ qa:Int,qa=(n1:Int):=⟨_,rfl⟩
      obtain ⟨qb,hqb⟩:∃ qb:Option Nat,qb=some B:=⟨_,rfl⟩
      have HQ4:Hid (w4.heap[w.heap.size]? = some (.cells #[.int .i64 qa,.map qb] 84 (0,0))):=hid (by rw [hqa,hqb];exact (hb4.block _ (hLT HQ.out)).trans HQ.out);clear CU hb4 hqa hqb;go_wp2_with fail;have HSS:Hid (∀ X,Mods [w.heap.size] w4 X→(True)∧Mods [w.heap.size] w4 X):=hid (fun X hb=>⟨trivial,hb⟩);refine wp_region_held_drew (S:=fun X=>(True)∧Mods [w.heap.size] w4 X) (by kernel_rfl) (HSS.out _ (Mods.of_below (Below.refl _ _).drew)) (fun hHeld => ?_);have hbe:Below w4.heap.size w4 w4.drew:=(Below.refl _ _).drew;obtain ⟨wd,hwd⟩:∃ y,w4.drew=y:=⟨_,rfl⟩
      rw [hwd] at hHeld hbe ⊢;have HBE:=hid hbe;have HS0:Hid (w4.heap.size≤wd.heap.size):=hid HBE.out.size;clear hwd hbe;refine tkP 1 rfl ?_;refine rd1 0 rfl fun K hK => ?_;have hrd:=(And.intro (cellOf ((HBE.out.block _ (hLT HQ4.out)).trans HQ4.out) 0 (v:=.int .i64 qa) rfl) (cellOf ((HBE.out.block _ (hLT HQ4.out)).trans HQ4.out) 1 (v:=.map qb) rfl))
      simp only [gE1,gE2,gE3];go_simp;clear hrd;refine hK.out _ _ ?_ (fun hHeld => ?_)
      ·exact (by first | exact HSS.out _ (Mods.of_below HBE.out) | exact HSS.out _ HMD.out)
      clear hK K;try simp only [Act.put,pE1,pE2,pE3]
      refine rd1 2 rfl fun K hK => ?_;have HQD:=hid ((HBE.out.block _ (hLT HQ4.out)).trans HQ4.out);have HBD:Hid (Below w.heap.size w wd):=hid (bthen HB4.out HBE.out);have hc0:=cellOf HQD.out 0 (v:=.int .i64 qa) rfl;have hf0:=frozenOf HQD.out 0;have hc1:=cellOf HQD.out 1 (v:=.map qb) rfl;have hf1:=frozenOf HQD.out 1;simp only [gE1,gE2,gE3];go_simp;refine hK.out _ _ ?_ (fun hHeld => ?_)
      ·exact HSS.out _ ((Mods.of_below HBE.out).trans (set2 HQD.out).2 (fun i hi=>.inl hi))
      clear hK K;try simp only [Act.put,pE1,pE2,pE3]
      clear hc0 hf0 hc1 hf1;refine tkP 3 rfl ?_;refine tkP 4 rfl ?_;refine wpAnyH_done (by kernel_rfl) ?_ _;have HEND:=hid hHeld.2;have HSE:=hid hHeld.1;clear hHeld;clear HSE HSS HEND;go_wp2_with fail;obtain ⟨hx4,hm4⟩:=set2 (x:=.int .i64 qa) (y:=.map qb) HQD.out;refine bodyPost_ret (v:=.tuple #[.int .u64 0,.agg #[.int .i64 qa,.map qb],.slice none 0 0,.bool false]) (resVol rfl _ _ _ _ _ _ _ _ rfl rfl rfl rfl hx4) rfl ?_;exact ⟨HBD.out.trans (hm4.below (fun k hk=>by rw [List.mem_singleton.1 hk];exact Nat.le_refl _) HBD.out.size),.inl ⟨HNO.out,_,_,rfl⟩⟩
     ·have m1:min (r.length:Int) 260=260:=by omega
      have HSL:Hid (∀ X,(Instr.slice 33 (.slice ao r.length cap) none (some (.int .i64 260)) none).run Tryz.prog X = .ok (.slice (cutA ao cap 0 1) 260 cap) X):=hid (fun X=>run_cutH (P:=Tryz.prog) X 33 ao r.length cap 1 undBytes szBytes 260 (by omega) (by omega));have hsl:=HSL.out wr;have CU:=unB_yes (HHD.out 260 (by omega));rw [List.take_take,List.drop_take,List.take_take] at CU;simp only [show min 4 260=4 from rfl,show min 256 (260 - 4)=256 from rfl] at CU;obtain ⟨an,han⟩:∃ x,sum (r.take 4)=x:=⟨_,rfl⟩
      obtain ⟨bc,hbc⟩:∃ x,(r.drop 4).take 256=x:=⟨_,rfl⟩
      have HBC:Hid (bc.length=256):=hid (by rw [← hbc,List.length_take,List.length_drop];omega);have hanb:an<4294967296:=by rw [← han];exact sum4_lt _
      rw [han,hbc] at CU;have HAN:=hid han;have HBCE:=hid hbc;have H260:=hid h260;clear h260 han hbc;go_wp2_with fail;clear hsl m1 q0;refine CU.mono ?_;rintro e w4 ⟨g,cg,rfl,hc0,hc1g,⟨gcs,hgh⟩,hcg,hb4⟩;dsimp only;have HB4:=hid (bthen HBWr.out hb4);have HQ4':=hid ((hb4.block _ (hLT HQ.out)).trans HQ.out);have HML4:=hid (HML.out.below hb4);have HMO4:=hid (HMO.out.thenBelow hb4);have HGH:=hid hgh;have HC1G:=hid hc1g;have hta:=run_assert_one (P:=Tryz.prog) (t:=38) (xT:=20) Tryz.underlying38 rfl (.int .u64 (an:Int)) w4
      have hw64:IntKind.i64.wrap (an:Int)=(an:Int):=IntWalk.i64_in _ (by omega);have d0:=cellOf HQ4'.out 0 (v:=.int .i64 (n1:Int)) rfl;clear CU hb4 hgh hc1g
      by_cases ha1:(an:Int)≤last
      ·have q1:decide ((an:Int)≤last)=true:=decide_eq_true ha1
       have HNO:Hid (ofVol bs=none):=hid (by rw [ofVol_eq (by rw [HLB.out];exact HM12.out) HN1.out HN2.out h256b,HINV.out.no hlt (.inr (.inl (by rw [HAN.out];exact ha1)))];rfl);clear ha1;go_wp2_with fail;clear hta hw64 d0 q1 hc0;obtain ⟨qa,hqa⟩:∃ qa:Int,qa=(n1:Int):=⟨_,rfl⟩
       obtain ⟨qb,hqb⟩:∃ qb:Option Nat,qb=some B:=⟨_,rfl⟩
       have HQ4:Hid (w4.heap[w.heap.size]? = some (.cells #[.int .i64 qa,.map qb] 84 (0,0))):=hid (by rw [hqa,hqb];exact HQ4'.out);clear hqa hqb;have HSS:Hid (∀ X,Mods [w.heap.size] w4 X→(True)∧Mods [w.heap.size] w4 X):=hid (fun X hb=>⟨trivial,hb⟩);refine wp_region_held_drew (S:=fun X=>(True)∧Mods [w.heap.size] w4 X) (by kernel_rfl) (HSS.out _ (Mods.of_below (Below.refl _ _).drew)) (fun hHeld => ?_);have hbe:Below w4.heap.size w4 w4.drew:=(Below.refl _ _).drew;obtain ⟨wd,hwd⟩:∃ y,w4.drew=y:=⟨_,rfl⟩
       rw [hwd] at hHeld hbe ⊢;have HBE:=hid hbe;have HS0:Hid (w4.heap.size≤wd.heap.size):=hid HBE.out.size;clear hwd hbe;refine tkP 1 rfl ?_;refine rd1 0 rfl fun K hK => ?_;have hrd:=(And.intro (cellOf ((HBE.out.block _ (hLT HQ4.out)).trans HQ4.out) 0 (v:=.int .i64 qa) rfl) (cellOf ((HBE.out.block _ (hLT HQ4.out)).trans HQ4.out) 1 (v:=.map qb) rfl))
       simp only [gE1,gE2,gE3];go_simp;clear hrd;refine hK.out _ _ ?_ (fun hHeld => ?_)
       ·exact (by first | exact HSS.out _ (Mods.of_below HBE.out) | exact HSS.out _ HMD.out)
       clear hK K;try simp only [Act.put,pE1,pE2,pE3]
       refine rd1 2 rfl fun K hK => ?_;have HQD:=hid ((HBE.out.block _ (hLT HQ4.out)).trans HQ4.out);have HBD:Hid (Below w.heap.size w wd):=hid (bthen HB4.out HBE.out);have hc0:=cellOf HQD.out 0 (v:=.int .i64 qa) rfl;have hf0:=frozenOf HQD.out 0;have hc1:=cellOf HQD.out 1 (v:=.map qb) rfl;have hf1:=frozenOf HQD.out 1;simp only [gE1,gE2,gE3];go_simp;refine hK.out _ _ ?_ (fun hHeld => ?_)
       ·exact HSS.out _ ((Mods.of_below HBE.out).trans (set2 HQD.out).2 (fun i hi=>.inl hi))
       clear hK K;try simp only [Act.put,pE1,pE2,pE3]
       clear hc0 hf0 hc1 hf1;refine tkP 3 rfl ?_;refine tkP 4 rfl ?_;refine wpAnyH_done (by kernel_rfl) ?_ _;have HEND:=hid hHeld.2;have HSE:=hid hHeld.1;clear hHeld;clear HSE HSS HEND;go_wp2_with fail;obtain ⟨hx4,hm4⟩:=set2 (x:=.int .i64 qa) (y:=.map qb) HQD.out;refine bodyPost_ret (v:=.tuple #[.int .u64 0,.agg #[.int .i64 qa,.map qb],.slice none 0 0,.bool false]) (resVol rfl _ _ _ _ _ _ _ _ rfl rfl rfl rfl hx4) rfl ?_;exact ⟨HBD.out.trans (hm4.below (fun k hk=>by rw [List.mem_singleton.1 hk];exact Nat.le_refl _) HBD.out.size),.inl ⟨HNO.out,_,_,rfl⟩⟩
      ·have q1:decide ((an:Int)≤last)=false:=decide_eq_false ha1
       by_cases ha2:n1≤an
       ·have q2:decide (n1≤an)=true:=decide_eq_true ha2
        have HNO:Hid (ofVol bs=none):=hid (by rw [ofVol_eq (by rw [HLB.out];exact HM12.out) HN1.out HN2.out h256b,HINV.out.no hlt (.inr (.inr (by rw [HAN.out];exact ha2)))];rfl);clear ha1 ha2;go_wp2_with fail;clear hta hw64 d0 q1 q2 hc0;obtain ⟨qa,hqa⟩:∃ qa:Int,qa=(n1:Int):=⟨_,rfl⟩
        obtain ⟨qb,hqb⟩:∃ qb:Option Nat,qb=some B:=⟨_,rfl⟩
        have HQ4:Hid (w4.heap[w.heap.size]? = some (.cells #[.int .i64 qa,.map qb] 84 (0,0))):=hid (by rw [hqa,hqb];exact HQ4'.out);clear hqa hqb;have HSS:Hid (∀ X,Mods [w.heap.size] w4 X→(True)∧Mods [w.heap.size] w4 X):=hid (fun X hb=>⟨trivial,hb⟩);refine wp_region_held_drew (S:=fun X=>(True)∧Mods [w.heap.size] w4 X) (by kernel_rfl) (HSS.out _ (Mods.of_below (Below.refl _ _).drew)) (fun hHeld => ?_);have hbe:Below w4.heap.size w4 w4.drew:=(Below.refl _ _).drew;obtain ⟨wd,hwd⟩:∃ y,w4.drew=y:=⟨_,rfl⟩
        rw [hwd] at hHeld hbe ⊢;have HBE:=hid hbe;have HS0:Hid (w4.heap.size≤wd.heap.size):=hid HBE.out.size;clear hwd hbe;refine tkP 1 rfl ?_;refine rd1 0 rfl fun K hK => ?_;have hrd:=(And.intro (cellOf ((HBE.out.block _ (hLT HQ4.out)).trans HQ4.out) 0 (v:=.int .i64 qa) rfl) (cellOf ((HBE.out.block _ (hLT HQ4.out)).trans HQ4.out) 1 (v:=.map qb) rfl))
        simp only [gE1,gE2,gE3];go_simp;clear hrd;refine hK.out _ _ ?_ (fun hHeld => ?_)
        ·exact (by first | exact HSS.out _ (Mods.of_below HBE.out) | exact HSS.out _ HMD.out)
        clear hK K;try simp only [Act.put,pE1,pE2,pE3]
        refine rd1 2 rfl fun K hK => ?_;have HQD:=hid ((HBE.out.block _ (hLT HQ4.out)).trans HQ4.out);have HBD:Hid (Below w.heap.size w wd):=hid (bthen HB4.out HBE.out);have hc0:=cellOf HQD.out 0 (v:=.int .i64 qa) rfl;have hf0:=frozenOf HQD.out 0;have hc1:=cellOf HQD.out 1 (v:=.map qb) rfl;have hf1:=frozenOf HQD.out 1;simp only [gE1,gE2,gE3];go_simp;refine hK.out _ _ ?_ (fun hHeld => ?_)
        ·exact HSS.out _ ((Mods.of_below HBE.out).trans (set2 HQD.out).2 (fun i hi=>.inl hi))
        clear hK K;try simp only [Act.put,pE1,pE2,pE3]
        clear hc0 hf0 hc1 hf1;refine tkP 3 rfl ?_;refine tkP 4 rfl ?_;refine wpAnyH_done (by kernel_rfl) ?_ _;have HEND:=hid hHeld.2;have HSE:=hid hHeld.1;clear hHeld;clear HSE HSS HEND;go_wp2_with fail;obtain ⟨hx4,hm4⟩:=set2 (x:=.int .i64 qa) (y:=.map qb) HQD.out;refine bodyPost_ret (v:=.tuple #[.int .u64 0,.agg #[.int .i64 qa,.map qb],.slice none 0 0,.bool false]) (resVol rfl _ _ _ _ _ _ _ _ rfl rfl rfl rfl hx4) rfl ?_;exact ⟨HBD.out.trans (hm4.below (fun k hk=>by rw [List.mem_singleton.1 hk];exact Nat.le_refl _) HBD.out.size),.inl ⟨HNO.out,_,_,rfl⟩⟩
       ·have q2:decide (n1≤an)=false:=decide_eq_false ha2
        have hnx:=HINV.out.next hlt (by rw [HAN.out];have:=H260.out;omega);rw [HAN.out,HBCE.out] at hnx;have HNX:=hid hnx;have HPE:Hid (putA an bc ml=ml ++ [(an,bc)]):=hid (putA_end (fun q hq=>by have:=HINV.out.le q hq;omega));have HLE:Hid (ml.length<maxLen):=hid (by
         have h1:=ris_len_le (s:=n1) 0 HINV.out.ris (fun q hq=>⟨Nat.zero_le _,HINV.out.lt q hq⟩);unfold maxLen;omega)
        have HRT:Hid (Rd u 1 (.slice (cutA ao cap 260 1) (r.length - 260) (cap - 260)) (r.drop 260).length (bV (r.drop 260))):=hid (by
         have h1:=HRD0.out.mid (l:=260) (k:=r.length) (by have:=H260.out;omega) (Nat.le_refl _);rw [List.take_of_length_le (by rw [List.length_drop];exact Nat.le_refl _)] at h1;rw [List.length_drop];exact h1)
        have HRL:Hid ((r.drop 260).length≤m):=hid (by rw [List.length_drop];omega);have HH2:Hid (260≤r.length∧r.length≤cap):=hid ⟨by have:=H260.out;omega,hc1⟩;have HSLC:Hid (∀ X,(Instr.slice 33 (.slice ao r.length cap) (some (.int .i64 260)) none none).run Tryz.prog X = .ok (.slice (cutA ao cap 260 1) (r.length - 260) (cap - 260)) X):=hid (fun X=>run_cutL X _ ao _ cap 1 undBytes szBytes 260 (by omega) (by have:=HH2.out.1;omega));have HQ4:Hid (w4.heap[w.heap.size]? = some (.cells #[.int .i64 (n1:Int),.map (some B)] 84 (0,0))):=HQ4'
        have HQB:Hid (w.heap.size∉[B]):=hid (fun hh=>by
         rw [List.mem_singleton] at hh;have h1:=HQL.out.1;rw [HBB.out,hh] at h1
         omega)
        have HGB:Hid (g∉[B]):=hid (fun hh=>by
         rw [List.mem_singleton] at hh;obtain ⟨es,cl,h1⟩:=HML4.out.isMap;rw [← hh,HGH.out] at h1
         cases h1)
        clear ha1 ha2 hnx HQ4';go_wp2_with fail;clear hta hw64 d0 q1 q2 hc0;have HSS:Hid (∀ X,Mods [B] w4 X→(X.cell? ⟨w.heap.size,1,none⟩=some (.map (some B))∧X.cell? ⟨g,1,none⟩=some (.iface 50 (bA bc)))∧Mods [B] w4 X):=hid (fun X hb=>⟨⟨(World.cell?_of_block (hb.block _ ((hLT HQ4.out)) (HQB.out))).trans (cellOf HQ4.out 1 rfl),(World.cell?_of_block (hb.block _ ((hLT HGH.out)) (HGB.out))).trans (HC1G.out)⟩,hb⟩)
        refine wp_region_held_drew (S:=fun X=>(X.cell? ⟨w.heap.size,1,none⟩=some (.map (some B))∧X.cell? ⟨g,1,none⟩=some (.iface 50 (bA bc)))∧Mods [B] w4 X) (by kernel_rfl) (HSS.out _ (Mods.of_below (Below.refl _ _).drew)) (fun hHeld => ?_);have hbe:Below w4.heap.size w4 w4.drew:=(Below.refl _ _).drew;obtain ⟨wd,hwd⟩:∃ y,w4.drew=y:=⟨_,rfl⟩
        rw [hwd] at hHeld hbe ⊢;have HBE:=hid hbe;have HS0:Hid (w4.heap.size≤wd.heap.size):=hid HBE.out.size;clear hwd hbe;refine tkP 0 rfl ?_;refine tkP 2 rfl ?_;refine tkP 3 rfl ?_;refine tkP 7 rfl ?_;refine tkP 8 rfl ?_;refine tkP 9 rfl ?_;refine tkP 1 rfl ?_;refine tkP 4 rfl ?_;refine tkQ 10 (.slice (cutA ao cap 260 1) (r.length - 260) (cap - 260)) rfl ?_ ?_
        ·(intro w hSw;simp only [gE1,gE2,gE3];(have h10:=HSLC.out w;go_simp;first | done | with_reducible rfl))
        refine tkP 5 rfl ?_;refine tkQ 6 (bA bc) rfl ?_ ?_
        ·(intro w hSw;simp only [gE1,gE2,gE3];(have h6:=run_assert_one (P:=Tryz.prog) (t:=50) (xT:=20) Tryz.underlying50 rfl (bA bc) w;go_simp;first | done | with_reducible rfl))
        refine rd1 11 rfl fun K hK => ?_;obtain ⟨v0,st,w11,o1,hme,hmo1,ho1,hnext⟩:=(HML4.out.below HBE.out).entry undInt undBlks zeroBlk HLE.out (n:=an) (wfI64 (by omega));simp only [gE1,gE2,gE3];go_simp;refine hK.out _ _ ?_ (fun hHeld => ?_)
        ·exact HSS.out _ ((Mods.of_below HBE.out).trans hmo1 (fun i hi=>.inl hi))
        clear hK K;try simp only [Act.put,pE1,pE2,pE3]
        have HM11:=hid ((Mods.of_below (F:=[B]) HBE.out).trans hmo1 (fun i hi=>.inl hi));obtain ⟨w13,hes,hml13,hmo13⟩:=hnext w11 (bA bc) bc _ ho1 (RBlk_mk (b:=bc) HBC.out);have HES:=hid hes;have HML13:Hid (MapL w13 Tryz.prog 3 RBlk .i64 blkD B (ml ++ [(an,bc)])):=hid (by rw [← HPE.out];exact hml13);have HM13:Hid (Mods [B] w4 w13):=hid (HM11.out.trans hmo13 (fun i hi=>.inl hi));clear hme hmo1 ho1 hnext hes hml13 hmo13;refine tkP 12 rfl ?_;refine rd1 13 rfl fun K hK => ?_;have hes:=HES.out;simp only [gE1,gE2,gE3];go_simp
        refine hK.out _ _ ?_ (fun hHeld => ?_)
        ·exact HSS.out _ HM13.out
        clear hK K;try simp only [Act.put,pE1,pE2,pE3]
        clear hes;refine tkP 14 rfl ?_;refine tkP 15 rfl ?_;refine wpAnyH_done (by kernel_rfl) ?_ _;have HEND:=hid hHeld.2;have HSE:=hid hHeld.1;clear hHeld;clear HSE HSS HEND;have HFIN:Hid (MapL w13 Tryz.prog 3 RBlk .i64 blkD B (ml ++ [(an,bc)])∧w13.heap[w.heap.size]? = some (.cells #[.int .i64 (n1:Int),.map (some B)] 84 (0,0))∧Mods [w.heap.size] w2 w13):=hid ⟨HML13.out,(HM13.out.block _ (hLT HQ4.out) HQB.out).trans HQ4.out,HMO4.out.trans HM13.out (fun k hk=>by rw [List.mem_singleton.1 hk];exact .inr (by rw [HBB.out];exact Nat.le_refl _))⟩;go_wp2_with fail
        go_roundw
        case rel=>exact ⟨j+1,ml ++ [(an,bc)],(an:Int),r.drop 260,by omega,by go_num,rfl,HRT.out,HRL.out,HFIN.out.1,HFIN.out.2.1,HFIN.out.2.2,HNX.out⟩
        case measure=>simp [Go.Proofs.intOf];omega
    ·obtain rfl:j=n2:=by omega
     have q0:decide (j<j)=false:=decide_eq_false (by omega);have HGQ:Hid (gl∉[w.heap.size]):=hid (fun hh=>by
      rw [List.mem_singleton] at hh;have h1:=HGL.out;rw [hh,HQ2.out] at h1;obtain ⟨_,h2,_⟩:=Obj.cells.inj (Option.some.inj h1);exact absurd h2 (by decide))
     have HGLr:=hid ((HMO.out.block gl HQL.out.2 HGQ.out).trans HGL.out);have HQL3:Hid (B∉[w.heap.size]):=hid (fun hh=>by
      rw [List.mem_singleton] at hh;have h1:=HQL.out.1;rw [HBB.out,hh] at h1
      omega)
     have HOK:Hid (ofVol bs=some ((n0,⟨n1,ml⟩),r)):=hid (by rw [ofVol_eq (by rw [HLB.out];exact HM12.out) HN1.out HN2.out h256b,HINV.out.fin,HN0.out];rfl);have HBWr:Hid (Below w.heap.size w wr):=hid (HB2.out.trans (HMO.out.below (fun k hk=>by rw [List.mem_singleton.1 hk];exact Nat.le_refl _) HB2.out.size));go_wp2_with fail;clear q0
     have HSS:Hid (∀ X,Mods [w.heap.size] wr X→(X.cell? ⟨gl,0,none⟩=some (.int .i64 (n0:Int)))∧Mods [w.heap.size] wr X):=hid (fun X hb=>⟨(World.cell?_of_block (hb.block _ ((hLT HGLr.out)) (HGQ.out))).trans (cellOf HGLr.out 0 HGC.out.1),hb⟩);refine wp_region_held_drew (S:=fun X=>(X.cell? ⟨gl,0,none⟩=some (.int .i64 (n0:Int)))∧Mods [w.heap.size] wr X) (by kernel_rfl) (HSS.out _ (Mods.of_below (Below.refl _ _).drew)) (fun hHeld => ?_);have hbe:Below wr.heap.size wr wr.drew:=(Below.refl _ _).drew;obtain ⟨wd,hwd⟩:∃ y,wr.drew=y:=⟨_,rfl⟩
     rw [hwd] at hHeld hbe ⊢;have HBE:=hid hbe;have HS0:Hid (wr.heap.size≤wd.heap.size):=hid HBE.out.size;clear hwd hbe;refine tkP 0 rfl ?_;refine tkP 5 rfl ?_;refine tkP 1 rfl ?_;refine tkP 2 rfl ?_;refine tkQ 3 (.int .u64 (n0:Int)) rfl ?_ ?_
     ·(intro w hSw;simp only [gE1,gE2,gE3];(have hw64:IntKind.u64.wrap (n0:Int)=(n0:Int):=(by rw [IntKind.wrap_u64];omega);go_simp;first | done | with_reducible rfl))
     refine tkP 6 rfl ?_;refine rd1 4 rfl fun K hK => ?_;have hrd:=(And.intro (cellOf ((HBE.out.block _ (hLT HQ.out)).trans HQ.out) 0 (v:=.int .i64 (n1:Int)) rfl) (cellOf ((HBE.out.block _ (hLT HQ.out)).trans HQ.out) 1 (v:=.map (some B)) rfl))
     simp only [gE1,gE2,gE3];go_simp;clear hrd;refine hK.out _ _ ?_ (fun hHeld => ?_)
     ·exact (by first | exact HSS.out _ (Mods.of_below HBE.out) | exact HSS.out _ HMD.out)
     clear hK K;try simp only [Act.put,pE1,pE2,pE3]
     refine rd1 7 rfl fun K hK => ?_;have HQD:=hid ((HBE.out.block _ (hLT HQ.out)).trans HQ.out);have HBD:Hid (Below w.heap.size w wd):=hid (bthen HBWr.out HBE.out);have HMLD:=hid (HML.out.below HBE.out);have hc0:=cellOf HQD.out 0 (v:=.int .i64 (n1:Int)) rfl;have hf0:=frozenOf HQD.out 0;have hc1:=cellOf HQD.out 1 (v:=.map (some B)) rfl;have hf1:=frozenOf HQD.out 1;simp only [gE1,gE2,gE3];go_simp;refine hK.out _ _ ?_ (fun hHeld => ?_)
     ·exact HSS.out _ ((Mods.of_below HBE.out).trans (set2 HQD.out).2 (fun i hi=>.inl hi))
     clear hK K;try simp only [Act.put,pE1,pE2,pE3]
     clear hc0 hf0 hc1 hf1;refine tkP 8 rfl ?_;refine tkP 9 rfl ?_;refine wpAnyH_done (by kernel_rfl) ?_ _;have HEND:=hid hHeld.2;have HSE:=hid hHeld.1;clear hHeld;clear HSE HSS HEND;go_wp2_with fail;obtain ⟨hx4,hm4⟩:=set2 (x:=.int .i64 (n1:Int)) (y:=.map (some B)) HQD.out;refine bodyPost_ret (v:=.tuple #[.int .u64 (n0:Int),.agg #[.int .i64 (n1:Int),.map (some B)],.slice ao r.length cap,.bool true]) (resVol rfl _ _ _ _ _ _ _ _ rfl rfl rfl rfl hx4) rfl ?_
     exact ⟨HBD.out.trans (hm4.below (fun k hk=>by rw [List.mem_singleton.1 hk];exact Nat.le_refl _) HBD.out.size),.inr ⟨_,B,_,HOK.out,rfl,HMLD.out.mods hm4 HQL3.out,by rw [← HBB.out];exact HB2.out.size,HRD0.out⟩⟩
end Go.Proofs.YthkmihedkddnmaaGreat
