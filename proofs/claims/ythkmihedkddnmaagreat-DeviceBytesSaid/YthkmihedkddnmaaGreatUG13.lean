import Derived.Test.YthkmihedkddnmaaGreatUG2
import Derived.Test.YthkmihedkddnmaaGreatUG12
import Derived.Test.YthkmihedkddnmaaGreatUG1
import Derived.Deep.RegionHeld3
import Derived.Test.YthkmihedkddnmaaGreatUG10
import Derived.Test.YthkmihedkddnmaaGreatUG4
set_option linter.unusedVariables false
set_option linter.unusedSimpArgs false
set_option maxHeartbeats 3200000
set_option maxRecDepth 100000
namespace Go.Proofs.YthkmihedkddnmaaGreat
open Go.RowKit Go.Maps
section
variable {α β:Type}
def mapA (g:α→β) (l:List (Nat × α)):List (Nat × β):=l.map fun p=>(p.1,g p.2)
theorem getA_map (g:α→β) (k:Nat):∀ l:List (Nat × α),getA k (mapA g l)=(getA k l).map g
 | []=>rfl
 | y :: r=>by
  have ih:=getA_map g k r;unfold mapA getA at ih ⊢;rw [List.map_cons,List.find?_cons,List.find?_cons];dsimp only
  cases (y.1 == k)
  ·exact ih
  ·rfl
theorem delA_map (g:α→β) (k:Nat) (l:List (Nat × α)):delA k (mapA g l)=mapA g (delA k l):=by
 unfold delA mapA;rw [List.filter_map]
 rfl
theorem insA_map (g:α→β) (k:Nat) (a:α):∀ l:List (Nat × α),insA (k,g a) (mapA g l)=mapA g (insA (k,a) l)
 | []=>rfl
 | y :: r=>by
  have ih:=insA_map g k a r;unfold mapA at ih ⊢
  by_cases h:k<y.1
  ·simp [insA,h]
  ·simp only [List.map_cons,insA,h,if_false]
   rw [ih]
theorem putA_map (g:α→β) (k:Nat) (a:α) (l:List (Nat × α)):putA k (g a) (mapA g l)=mapA g (putA k a l):=by
 unfold putA;rw [delA_map,insA_map]
theorem mapA_len (g:α→β) (l:List (Nat × α)):(mapA g l).length=l.length:=by simp [mapA]
end
def strip (l:List (Nat × (Vl × Nat))):List (Nat × Vl):=mapA (·.1) l
def volF (x:Vl × Nat):DataW Unit:=volD ((x.1.size:Int),some x.2)
structure DevAt (n0:Nat) (w:World) (B Ba:Nat) (l:List (Nat × (Vl × Nat))):Prop where
 box:w.heap[B]? = some (.cells #[.map (some Ba)] 63 (0,0))
 all:MapL w Tryz.prog 38 RVol .u64 volF Ba l
 vol:∀ p∈l,MapL w Tryz.prog 3 RBlk .i64 blkD p.2.2 p.2.1.m
 ok:DevOk (strip l)
 ge:n0≤B∧n0≤Ba∧∀ p∈l,n0≤p.2.2
 ne:∀ p∈l,p.2.2≠Ba
 apart:∀ p∈l,∀ q∈l,p.2.2=q.2.2→p.1=q.1
theorem DevAt.lt {n0:Nat} {w:World} {B Ba:Nat} {l:List (Nat × (Vl × Nat))} (h:DevAt n0 w B Ba l):B<w.heap.size:=(hLT h.box)
theorem DevAt.cell {n0:Nat} {w:World} {B Ba:Nat} {l:List (Nat × (Vl × Nat))} (h:DevAt n0 w B Ba l):w.cell? ⟨B,0,none⟩=some (.map (some Ba)):=cellOf h.box 0 rfl
theorem DevAt.below {n0:Nat} {w w':World} {B Ba:Nat} {l:List (Nat × (Vl × Nat))} (h:DevAt n0 w B Ba l) (hb:Below w.heap.size w w'):DevAt n0 w' B Ba l :=
 ⟨(hb.block _ h.lt).trans h.box,h.all.below hb,fun p hp=>(h.vol p hp).below hb,h.ok,h.ge,h.ne,h.apart⟩
def dF (Ba:Nat) (l:List (Nat × (Vl × Nat))):List Nat:=Ba :: l.map (·.2.2)
theorem DevAt.kept {n0:Nat} {w w':World} {B Ba:Nat} {l:List (Nat × (Vl × Nat))} {F:List Nat} (h:DevAt n0 w B Ba l) (hm:Mods F w w') (h1:B∉F) (h2:∀ k∈dF Ba l,k∉F):DevAt n0 w' B Ba l :=
 ⟨(hm.block _ h.lt h1).trans h.box,h.all.mods hm (h2 _ (List.mem_cons_self ..)),fun p hp=>(h.vol p hp).mods hm (h2 _ (List.mem_cons_of_mem _ (List.mem_map.2 ⟨p,hp,rfl⟩))),h.ok,h.ge,h.ne,h.apart⟩
def DevV (w:World) (v:Value) (y:Bool):Prop :=
 (v = .pointer none∧y=false)∨(∃ B,v = .pointer (some ⟨B,0,none⟩)∧w.heap[B]? = some (.cells #[.map none] 63 (0,0))∧y=false) ∨
 ∃ B Ba,v = .pointer (some ⟨B,0,none⟩)∧w.heap[B]? = some (.cells #[.map (some Ba)] 63 (0,0))∧y=true
theorem DevAt.dv {n0:Nat} {w:World} {B Ba:Nat} {l:List (Nat × (Vl × Nat))} (h:DevAt n0 w B Ba l):DevV w (.pointer (some ⟨B,0,none⟩)) true:=.inr (.inr ⟨B,Ba,rfl,h.box,rfl⟩)
theorem DevV.below {w w':World} {v:Value} {y:Bool} (h:DevV w v y) (hb:Below w.heap.size w w'):DevV w' v y:=by
 rcases h with ⟨rfl,rfl⟩ | ⟨B,rfl,h,rfl⟩ | ⟨B,Ba,rfl,h,rfl⟩
 ·exact .inl ⟨rfl,rfl⟩
 ·exact .inr (.inl ⟨B,rfl,(hb.block _ (hLT h)).trans h,rfl⟩)
 ·exact .inr (.inr ⟨B,Ba,rfl,(hb.block _ (hLT h)).trans h,rfl⟩)
theorem dnew_any (n0:Nat) (w:World) (hn:n0≤w.heap.size):Calls Tryz.prog 10 #[] w fun e w'=>∃ B Ba,e = .returned (.pointer (some ⟨B,0,none⟩))∧DevAt n0 w' B Ba []∧Below w.heap.size w w'∧w.heap.size≤B∧w.heap.size≤Ba:=by
 have hmm := @run_makeMap Tryz.prog
 go_enter Tryz.func10,Tryz.ntmps10
 go_wp2_with fail;go_ret;refine ⟨_,_,rfl,⟨by have:=heap_alloc_new (w.alloc (.map #[] 0)) (.cells #[.map (some w.heap.size)] 63);simpa using this,?_,fun p hp=>(by cases hp),⟨List.Pairwise.nil,fun p hp=>(by cases hp),fun p hp=>(by cases hp)⟩,⟨Nat.le_trans hn (Nat.le_succ _),hn,fun p hp=>(by cases hp)⟩,fun p hp=>(by cases hp),fun p hp=>(by cases hp)⟩,?_,Nat.le_succ _,Nat.le_refl _⟩
 ·exact (mapL_new w _ _ _ _ _).below (balloc (Below.refl _ _) _)
 ·exact balloc (balloc (Below.refl _ _) _) _
theorem neqMapNil (w:World) (p:Option Nat):(binOp .neq 61 (.map p) (.map none)).run Tryz.prog w = .ok (.bool p.isSome) w:=by
 cases p <;> kernel_rfl
theorem dthere_any (w:World) (v:Value) (y:Bool) (h:DevV w v y):Calls Tryz.prog 37 #[v] w fun e w'=>e = .returned (.bool y)∧w=w':=by
 have hnm:=neqMapNil
 rcases h with ⟨rfl,rfl⟩ | ⟨B,rfl,h,rfl⟩ | ⟨B,Ba,rfl,h,rfl⟩
 ·go_enter Tryz.func37,Tryz.ntmps37
  go_wp2_with fail;go_ret;exact ⟨rfl,rfl⟩
 ·have c0:w.cell? ⟨B,0,none⟩=some (.map none):=cellOf h 0 rfl
  clear h
  go_enter Tryz.func37,Tryz.ntmps37
  go_wp2_with fail;go_ret;exact ⟨rfl,rfl⟩
 ·have c0:w.cell? ⟨B,0,none⟩=some (.map (some Ba)):=cellOf h 0 rfl
  clear h
  go_enter Tryz.func37,Tryz.ntmps37
  go_wp2_with fail;go_ret;exact ⟨rfl,rfl⟩
end Go.Proofs.YthkmihedkddnmaaGreat
namespace Go.Proofs.YthkmihedkddnmaaGreat
open Go.RowKit Go.Maps
theorem undU64:Tryz.prog.underlying 38=some (.int .u64):=Tryz.underlying38
theorem undAll:Tryz.prog.underlying 61=some (.map 38 84):=by kernel_rfl
theorem undBlks:Tryz.prog.underlying 82=some (.map 3 50):=by kernel_rfl
theorem zeroVol (w:World):(zeroValue 84).run Tryz.prog w = .ok (.agg #[.int .i64 0,.map none]) w:=by kernel_rfl
theorem wfU {n:Nat} (h:n<18446744073709551616):(Lit.int .u64 (n:Int)).wf=true:=by
 have e1:IntKind.u64.min=0:=rfl;have e2:IntKind.u64.max=18446744073709551615:=rfl
 simp [Lit.wf,e1,e2]
 omega
theorem DevAt.look {n0:Nat} {w:World} {B Ba:Nat} {l:List (Nat × (Vl × Nat))} (h:DevAt n0 w B Ba l) {n:Nat} (hn:n<18446744073709551616) {x:Vl × Nat} (hg:getA n l=some x) :
  (Instr.lookup 61 (.map (some Ba)) (.int .u64 (n:Int)) true).run Tryz.prog w = .ok (.tuple #[.agg #[.int .i64 (x.1.size:Int),.map (some x.2)],.bool true]) w ∧
  (Instr.lookup 61 (.map (some Ba)) (.int .u64 (n:Int)) false).run Tryz.prog w = .ok (.agg #[.int .i64 (x.1.size:Int),.map (some x.2)]) w:=by
 obtain ⟨v,ps,h1,h2⟩:=h.all.lookOk undU64 undAll (zeroVol w) (RVol_mk 0 none) (wfU hn);obtain ⟨v',ps',h3,h4⟩:=h.all.look undU64 undAll (zeroVol w) (RVol_mk 0 none) (wfU hn);rw [hg] at h1 h2 h4;obtain ⟨rfl,_⟩:=RVol_inv h2;obtain ⟨rfl,_⟩:=RVol_inv h4;exact ⟨h1,h3⟩
theorem DevAt.lookNo {n0:Nat} {w:World} {B Ba:Nat} {l:List (Nat × (Vl × Nat))} (h:DevAt n0 w B Ba l) {n:Nat} (hn:n<18446744073709551616) (hg:getA n l=none) :
  (Instr.lookup 61 (.map (some Ba)) (.int .u64 (n:Int)) true).run Tryz.prog w = .ok (.tuple #[.agg #[.int .i64 0,.map none],.bool false]) w ∧
  (Instr.lookup 61 (.map (some Ba)) (.int .u64 (n:Int)) false).run Tryz.prog w = .ok (.agg #[.int .i64 0,.map none]) w:=by
 obtain ⟨v,ps,h1,h2⟩:=h.all.lookOk undU64 undAll (zeroVol w) (RVol_mk 0 none) (wfU hn);obtain ⟨v',ps',h3,h4⟩:=h.all.look undU64 undAll (zeroVol w) (RVol_mk 0 none) (wfU hn);rw [hg] at h1 h2 h4;obtain ⟨rfl,_⟩:=RVol_inv h2;obtain ⟨rfl,_⟩:=RVol_inv h4;exact ⟨h1,h3⟩
theorem dsize_in (n0:Nat) (w:World) (B Ba:Nat) (l:List (Nat × (Vl × Nat))) (h:DevAt n0 w B Ba l) (n:Nat) (hn:n<18446744073709551616) (x:Vl × Nat) (hg:getA n l=some x) :
  Calls Tryz.prog 15 #[.pointer (some ⟨B,0,none⟩),.int .u64 (n:Int)] w fun e w'=>e = .returned (.tuple #[.int .i64 (x.1.size:Int),.bool true])∧Below w.heap.size w w':=by
 have CT:=dthere_any w _ true h.dv;have c0:=h.cell;obtain ⟨hl,_⟩:=h.look hn hg;clear h hg
 go_enter Tryz.func15,Tryz.ntmps15
 go_wp2_with fail;refine CT.mono ?_;rintro e w1 ⟨rfl,rfl⟩;go_wp2_with fail
 go_ret2
 exact ⟨rfl,balloc (Below.refl _ _) _⟩
end Go.Proofs.YthkmihedkddnmaaGreat
namespace Go.Proofs.YthkmihedkddnmaaGreat
open Lib (hid)
open Go.RowKit Go.Maps Wire Cmd
def ansE (c d:Int):Value:=.agg #[.int .i64 c,.int .i64 d,.slice none 0 0]
theorem map_ne_cells {w:World} {a b:Nat} {es:Array MapEntry} {clock:Nat} {cs:Array Value} {t:TypeId} {f:Nat × Nat} (h1:w.heap[a]? = some (.map es clock)) (h2:w.heap[b]? = some (.cells cs t f)):a≠b:=by
 rintro rfl;rw [h1] at h2
 cases h2
theorem DevAt.delAt {n0:Nat} {w w':World} {B Ba:Nat} {l:List (Nat × (Vl × Nat))} (h:DevAt n0 w B Ba l) {n:Nat} (hm:MapL w' Tryz.prog 38 RVol .u64 volF Ba (delA n l)) (hd:Mods [Ba] w w'):DevAt n0 w' B Ba (delA n l):=by
 obtain ⟨es,clock,hes⟩:=h.all.isMap;have hsub:∀ p∈delA n l,p∈l:=fun p hp=>(List.mem_filter.1 hp).1;refine ⟨(hd.block _ h.lt (fun hh=>map_ne_cells hes h.box (Eq.symm (by simpa using hh)))).trans h.box,hm,fun p hp=>(h.vol p (hsub p hp)).mods hd (fun hh=>h.ne p (hsub p hp) (by simpa using hh)),?_,⟨h.ge.1,h.ge.2.1,fun p hp=>h.ge.2.2 p (hsub p hp)⟩,fun p hp=>h.ne p (hsub p hp),fun p hp q hq=>h.apart p (hsub p hp) q (hsub q hq)⟩;have:strip (delA n l)=delA n (strip l):=(delA_map _ _ _).symm;rw [this];exact delA_dev h.ok n
theorem resAns {fn:Func} {p:Tmp} (h:fn.results=#[.cell p 35]) (tmps:Array Value) (y:World) (g:Nat) (a b c:Value) (hp:tmps.getD p undef = .pointer (some ⟨g,0,none⟩)) (hb:y.heap[g]? = some (.cells #[a,b,c] 35 (0,0))) :
  (results fn tmps).run Tryz.prog y = .ok (.agg #[a,b,c]) y:=by
 have hi:(Tryz.prog.info? 35).map (·.size)=some 3:=by kernel_rfl
 exact results_cell_mid h tmps y g 0 [a,b,c] _ hp (fun j v hv=>by
  rw [Nat.zero_add];exact cellOf hb j (by simpa using hv)) Tryz.underlying35 rfl hi
theorem set3 {w:World} {g:Nat} {a b c x y z:Value} {t:TypeId} (h:w.heap[g]? = some (.cells #[a,b,c] t (0,0))) :
  (((w.setCell ⟨g,0,none⟩ x).setCell ⟨g,1,none⟩ y).setCell ⟨g,2,none⟩ z).heap[g]? = some (.cells #[x,y,z] t (0,0))∧Mods [g] w (((w.setCell ⟨g,0,none⟩ x).setCell ⟨g,1,none⟩ y).setCell ⟨g,2,none⟩ z) :=
 ⟨setOf (setOf (setOf h 0 x) 1 y) 2 z,(((Mods.refl _ w).setCell (p:=⟨g,0,none⟩) (by simp) _).setCell (p:=⟨g,1,none⟩) (by simp) _).setCell (p:=⟨g,2,none⟩) (by simp) _⟩
theorem ddrop_at (n0:Nat) (w:World) (B Ba:Nat) (l:List (Nat × (Vl × Nat))) (h:DevAt n0 w B Ba l) (o:Op0) (ao:Option Addr) (n cap:Nat) (b:Int) (hv:o.vol<18446744073709551616) :
  Calls Tryz.prog 42 #[.pointer (some ⟨B,0,none⟩),.agg (oC o (.slice ao n cap)),.int .i64 b] w fun e w'=>e = .returned (ansE 0 0)∧DevAt n0 w' B Ba (delA o.vol l)∧Mods [Ba] w w':=by
 have HH:=hid h;clear h;unfold oC;obtain ⟨w1,hw1⟩:∃ W,w.alloc (.cells #[.int .i64 o.k,.int .u64 (o.vol:Int),.int .u64 (o.to:Int),.int .i64 o.size,.int .i64 o.pl,.int .i64 o.count,.slice ao n cap] 40)=W:=⟨_,rfl⟩
 go_enter Tryz.func42,Tryz.ntmps42
 go_wp2_with fail;obtain ⟨w2,hw2⟩:∃ W,w1.alloc (.cells #[.int .i64 0,.int .i64 0,.slice none 0 0] 35)=W:=⟨_,rfl⟩
 have hb1:Below w.heap.size w w1:=by rw [← hw1];exact balloc (Below.refl _ _) _
 have hb2:Below w1.heap.size w1 w2:=by rw [← hw2];exact balloc (Below.refl _ _) _
 have hs1:w1.heap.size=w.heap.size+1:=by rw [← hw1];simp
 have hbx1:w1.heap[w.heap.size]? = some (.cells #[.int .i64 o.k,.int .u64 (o.vol:Int),.int .u64 (o.to:Int),.int .i64 o.size,.int .i64 o.pl,.int .i64 o.count,.slice ao n cap] 40 (0,0)):=by rw [← hw1];exact heap_alloc_new w _
 have hbx2:=(hb2.block w.heap.size (by omega)).trans hbx1;have hbxa:w2.heap[w1.heap.size]? = some (.cells #[.int .i64 0,.int .i64 0,.slice none 0 0] 35 (0,0)):=by rw [← hw2];exact heap_alloc_new w1 _
 have HD2:=hid (HH.out.below (bthen hb1 hb2));have HB2:=hid (bthen hb1 hb2);have c1:w2.cell? ⟨w.heap.size,1,none⟩=some (.int .u64 (o.vol:Int)):=cellOf hbx2 1 rfl;have HXA:=hid hbxa;have c0:=HD2.out.cell;rw [hw2];obtain ⟨w3,hdel,hml,hmod⟩:=(HD2.out.below (Below.refl _ _).drew).all.del undU64 undAll (wfU hv) 0;clear hw1 hw2 hb1 hb2 hbx1 hbx2 hbxa
 refine wp_region_held_drew (S:=fun X=>X.cell? ⟨B,0,none⟩=some (.map (some Ba))∧X.cell? ⟨w.heap.size,1,none⟩=some (.int .u64 (o.vol:Int))∧Mods [Ba] w2 X) (by kernel_rfl) ⟨c0,c1,(Mods.refl _ _).drew⟩ (fun hHeld => ?_);refine tkA 0 rfl ?_;refine tkA 1 rfl ?_;refine tkA 2 rfl ?_;refine tkA 3 rfl ?_;refine tkA 4 rfl ?_;refine tkA 5 rfl ?_;have hm3:Mods [Ba] w2 w3:=((Mods.refl _ w2).drew).trans hmod (fun i hi=>.inl hi);have hne:B≠Ba:=by
  obtain ⟨es,clock,hes⟩:=HD2.out.all.isMap;exact fun e=>map_ne_cells hes HD2.out.box e.symm
 have hnx:w.heap.size≠Ba:=by
  have:=HH.out.all.lt;omega
 have d0:w3.cell? ⟨B,0,none⟩=some (.map (some Ba)):=(World.cell?_of_block (hm3.block B HD2.out.lt (by simpa using hne))).trans c0;have d1:w3.cell? ⟨w.heap.size,1,none⟩=some (.int .u64 (o.vol:Int)):=(World.cell?_of_block (hm3.block w.heap.size (by have:=HB2.out.size;have:=(hLT HXA.out);omega) (by simpa using hnx))).trans c1;have HM3:=hid hm3;have HML:=hid hml;have HMD:=hid hmod;clear hm3 hml hmod;refine rd1 6 rfl fun K hK => ?_;simp only [gE1,gE2,gE3];go_simp;refine hK.out _ _ ?_ (fun hHeld => ?_)
 ·exact ⟨d0,d1,HM3.out⟩
 clear hK K;try simp only [Act.put,pE1,pE2,pE3]
 refine wpAnyH_done (by kernel_rfl) ?_ _;have hxa:=HXA.out;rw [hs1] at hxa;have hna:w.heap.size+1≠Ba:=by
  have:=HH.out.all.lt;omega
 have hx3:w3.heap[w.heap.size+1]? = some (.cells #[.int .i64 0,.int .i64 0,.slice none 0 0] 35 (0,0)):=(HM3.out.block (w.heap.size+1) (hLT hxa) (by simpa using hna)).trans hxa;have HX3:=hid hx3;have e0:=cellOf hx3 0 (v:=.int .i64 0) rfl;have e1:=cellOf hx3 1 (v:=.int .i64 0) rfl;have e2:=cellOf hx3 2 (v:=.slice none 0 0) rfl;have f0:=frozenOf hx3 0;have f1:=frozenOf hx3 1;have f2:=frozenOf hx3 2;clear hxa hx3 hHeld d0 d1 c0 c1 hdel;go_wp2_with fail;obtain ⟨hx4,hm4⟩:=set3 (x:=.int .i64 0) (y:=.int .i64 0) (z:=.slice none 0 0) HX3.out
 have HD3:=hid ((HD2.out.below (Below.refl _ _).drew).delAt HML.out HMD.out);obtain ⟨es3,ck3,hes3⟩:=HD3.out.all.isMap;refine bodyPost_ret (v:=ansE 0 0) (resAns rfl _ _ _ _ _ _ rfl hx4) rfl ⟨rfl,HD3.out.kept hm4 (fun hh => ?_) (fun k hk hh => ?_),?_⟩
 ·have:B=w.heap.size+1:=by simpa using hh
  have:=HH.out.lt;omega
 ·have e:k=w.heap.size+1:=by simpa using hh
  subst e
  rcases List.mem_cons.1 hk with e2 | hk2
  ·exact hna e2
  ·obtain ⟨p,hp,he⟩:=List.mem_map.1 hk2
   have:=(HH.out.vol p (List.mem_filter.1 hp).1).lt;omega
 ·exact ((Mods.of_below HB2.out).trans HM3.out (fun i hi=>.inl hi)).trans hm4 (fun i hi=>.inr (by
   have:i=w.heap.size+1:=by simpa using hi
   omega))
end Go.Proofs.YthkmihedkddnmaaGreat
namespace Go.Proofs.YthkmihedkddnmaaGreat
open Go.RowKit Go.Maps Wire Cmd
theorem putA_same {α β:Type} (f:α→β) {n:Nat} {x y:α} (hf:f x=f y):∀ {l:List (Nat × α)},Ris l→getA n l=some y→mapA f (putA n x l)=mapA f l
 | [],_,hg=>by simp [getA] at hg
 | z :: r,h,hg=>by
  obtain ⟨h1,h2⟩:=List.pairwise_cons.1 h
  by_cases he:z.1=n
  ·have e2:delA n (z :: r)=r:=by
    unfold delA;rw [List.filter_cons];simp only [he,beq_self_eq_true,Bool.not_true,Bool.false_eq_true,if_false];exact del_ris_lt (fun q hq=>by have:=h1 q hq;omega)
   have hz:z.2=y:=by
    unfold getA at hg;rw [List.find?_cons] at hg;simp only [he,beq_self_eq_true,Option.map_some,Option.some.injEq] at hg;exact hg
   unfold putA;rw [e2,insA_first n x (fun q hq=>by have:=h1 q hq;omega)];unfold mapA;rw [List.map_cons,List.map_cons];dsimp only;rw [hz,he,hf]
  ·have e:(z.1 == n)=false:=by rw [beq_eq_false_iff_ne];exact he
   have hg2:getA n r=some y:=by
    unfold getA at hg ⊢;rw [List.find?_cons,e] at hg;exact hg
   have hlt:z.1<n:=h1 _ (getA_some hg2);have ih:=putA_same f hf h2 hg2;have e2:delA n (z :: r)=z :: delA n r:=by
    unfold delA;rw [List.filter_cons,e]
    rfl
   unfold putA at ih ⊢;rw [e2,show insA (n,x) (z :: delA n r)=z :: insA (n,x) (delA n r) from if_neg (by show ¬ n<z.1;omega)];unfold mapA at ih ⊢;rw [List.map_cons,List.map_cons,ih]
theorem encM_map {α:Type} {H:Type} (q:IntKind) (f:α→DataW H) (l:List (Nat × α)):encM q f l=encM q id (mapA f l):=by
 unfold encM encA mapA;rw [List.map_map]
 rfl
theorem ris_map {α β:Type} (f:α→β) {l:List (Nat × α)}:Ris (mapA f l) ↔ Ris l:=by
 unfold Ris mapA;rw [List.pairwise_map]
theorem mapL_at_new {α:Type} {P:Program} {k:TypeId} {R:Value→Option (DataW Unit × List MemPlace)} {q:IntKind} {f:α→DataW Unit} {X w':World} {b:Nat} {F:List Nat} (h:X.heap[b]? = some (.map #[] 0)) (hm:Mods F X w') (hb:b∉F):MapL w' P k R q f b ([]:List (Nat × α)):=by
 obtain ⟨es,clock,h1,h2⟩:=mapL_new X P k R q f;have e:=heap_alloc_new X (.map #[] 0);have e2:some (Obj.map es clock)=some (.map #[] 0):=h1.symm.trans e;obtain ⟨rfl,rfl⟩:=Obj.map.inj (Option.some.inj e2);exact ⟨#[],0,(hm.block _ (hLT h) hb).trans h,h2⟩
theorem DevAt.putAt {n0:Nat} {w w':World} {B Ba:Nat} {l:List (Nat × (Vl × Nat))} (h:DevAt n0 w B Ba l) {n:Nat} {v:Vl} {b:Nat} (hm:MapL w' Tryz.prog 38 RVol .u64 volF Ba (putA n (v,b) l)) (hb:MapL w' Tryz.prog 3 RBlk .i64 blkD b v.m)
  (hd:Mods [Ba] w w') (hn:1≤n∧n<4294967296) (hv:v.Ok) (hge:n0≤b) (hne:b≠Ba) (hap:∀ p∈l,p.2.2=b→p.1=n):DevAt n0 w' B Ba (putA n (v,b) l):=by
 obtain ⟨es,clock,hes⟩:=h.all.isMap;refine ⟨(hd.block _ h.lt (fun hh=>map_ne_cells hes h.box (Eq.symm (by simpa using hh)))).trans h.box,hm,fun p hp => ?_,?_,⟨h.ge.1,h.ge.2.1,fun p hp => ?_⟩,fun p hp => ?_,fun p hp q hq e => ?_⟩
 ·rcases mem_putA hp with rfl | hp
  ·exact hb
  ·exact (h.vol p hp).mods hd (fun hh=>h.ne p hp (by simpa using hh))
 ·have:strip (putA n (v,b) l)=putA n v (strip l):=(putA_map (fun x:Vl × Nat=>x.1) n (v,b) l).symm
  rw [this];exact putA_dev h.ok hn hv
 ·rcases mem_putA hp with rfl | hp
  ·exact hge
  ·exact h.ge.2.2 p hp
 ·rcases mem_putA hp with rfl | hp
  ·exact hne
  ·exact h.ne p hp
 ·rcases mem_putA hp with rfl | hp <;> rcases mem_putA hq with rfl | hq
  ·rfl
  ·exact (hap q hq e.symm).symm
  ·exact hap p hp e
  ·exact h.apart p hp q hq e
theorem DevAt.volAt {n0:Nat} {w w':World} {B Ba:Nat} {l:List (Nat × (Vl × Nat))} (h:DevAt n0 w B Ba l) {n:Nat} {v:Vl} {b:Nat} {m:List (Nat × List UInt8)} (hg:getA n l=some (v,b)) (hb:MapL w' Tryz.prog 3 RBlk .i64 blkD b m)
  (hd:Mods [b] w w') (hv:Vl.Ok ⟨v.size,m⟩):DevAt n0 w' B Ba (putA n (⟨v.size,m⟩,b) l):=by
 have hin:=getA_some hg;have hris:Ris l:=(ris_map (fun x:Vl × Nat=>x.1)).1 h.ok.ris;obtain ⟨es,clock,hes⟩:=(h.vol _ hin).isMap;have hall:MapL w' Tryz.prog 38 RVol .u64 volF Ba (putA n (⟨v.size,m⟩,b) l):=by
  have h1:=h.all.mods hd (fun hh=>h.ne _ hin (by (have e:Ba=b:=by simpa using hh);exact e.symm));unfold MapL at h1;rw [encM_map,← putA_same volF (x:=(⟨v.size,m⟩,b)) (y:=(v,b)) rfl hris hg,← encM_map] at h1;exact mapL_of h1
 have hn:=h.ok.nat (n,v) (by
  unfold strip mapA;exact List.mem_map.2 ⟨_,hin,rfl⟩)
 refine ⟨(hd.block _ h.lt (fun hh=>map_ne_cells hes h.box (Eq.symm (by simpa using hh)))).trans h.box,hall,fun p hp => ?_,?_,⟨h.ge.1,h.ge.2.1,fun p hp => ?_⟩,fun p hp => ?_,fun p hp q hq e => ?_⟩
 ·rcases mem_insA.1 hp with rfl | hp
  ·exact hb
  ·have hpl:=(List.mem_filter.1 hp).1
   exact (h.vol p hpl).mods hd (fun hh=>delA_ne p hp (h.apart p hpl _ hin (by simpa using hh)))
 ·have:strip (putA n (⟨v.size,m⟩,b) l)=putA n ⟨v.size,m⟩ (strip l):=(putA_map (fun x:Vl × Nat=>x.1) n (⟨v.size,m⟩,b) l).symm
  rw [this];exact putA_dev h.ok hn hv
 ·rcases mem_putA hp with rfl | hp
  ·exact h.ge.2.2 (n,(v,b)) hin
  ·exact h.ge.2.2 p hp
 ·rcases mem_putA hp with rfl | hp
  ·exact h.ne (n,(v,b)) hin
  ·exact h.ne p hp
 ·rcases mem_putA hp with rfl | hp <;> rcases mem_putA hq with rfl | hq
  ·rfl
  ·exact h.apart (n,(v,b)) hin q hq e
  ·exact h.apart p hp (n,(v,b)) hin e
  ·exact h.apart p hp q hq e
end Go.Proofs.YthkmihedkddnmaaGreat
namespace Go.Proofs.YthkmihedkddnmaaGreat
open Lib (hid)
open Go.RowKit Go.Maps Wire Cmd
theorem op7 {X:World} {b:Nat} {o:Op0} {sl:Value} (h:X.heap[b]? = some (.cells (oC o sl) 40 (0,0))) :
  X.cell? ⟨b,0,none⟩=some (.int .i64 o.k)∧X.cell? ⟨b,1,none⟩=some (.int .u64 (o.vol:Int))∧X.cell? ⟨b,2,none⟩=some (.int .u64 (o.to:Int))∧X.cell? ⟨b,3,none⟩=some (.int .i64 o.size) ∧
  X.cell? ⟨b,4,none⟩=some (.int .i64 o.pl)∧X.cell? ⟨b,5,none⟩=some (.int .i64 o.count)∧X.cell? ⟨b,6,none⟩=some sl :=
 ⟨cellOf h 0 rfl,cellOf h 1 rfl,cellOf h 2 rfl,cellOf h 3 rfl,cellOf h 4 rfl,cellOf h 5 rfl,cellOf h 6 rfl⟩
theorem DevAt.looked {n0:Nat} {w:World} {B Ba:Nat} {l:List (Nat × (Vl × Nat))} (h:DevAt n0 w B Ba l) {n:Nat} (hn:n<18446744073709551616) :
  ∃ (s:Nat) (p:Option Nat) (b:Bool),(∀ X,Below w.heap.size w X→(Instr.lookup 61 (.map (some Ba)) (.int .u64 (n:Int)) true).run Tryz.prog X = .ok (.tuple #[.agg #[.int .i64 (s:Int),.map p],.bool b]) X) ∧
   ((∃ x,getA n l=some x∧s=x.1.size∧p=some x.2∧b=true)∨(getA n l=none∧s=0∧p=none∧b=false)):=by
 cases hg:getA n l with
 | some x=>exact ⟨x.1.size,some x.2,true,fun X hX=>((h.below hX).look hn hg).1,.inl ⟨x,rfl,rfl,rfl,rfl⟩⟩
 | none=>exact ⟨0,none,false,fun X hX=>((h.below hX).lookNo hn hg).1,.inr ⟨rfl,rfl,rfl,rfl⟩⟩
theorem getA_strip (n:Nat) (l:List (Nat × (Vl × Nat))):getA n (strip l)=(getA n l).map (·.1):=getA_map _ _ _
theorem may_in {o:Op0} (h:mayO o=true) {c:UInt8} (hc:c∈nm o.k):wIn (c.toNat:Int) o=true:=by
 unfold mayO at h;simp only [Bool.and_eq_true] at h;exact List.all_eq_true.1 h.1.1 c hc
theorem may_kind {o:Op0} (h:mayO o=true):1≤o.k∧o.k≤9:=by
 unfold mayO at h;simp only [Bool.and_eq_true,decide_eq_true_eq] at h;exact h.1.2
theorem may_pl {o:Op0} (h:mayO o=true) (hk:o.k=5∨o.k=6∨o.k=7∨o.k=9):0≤o.pl∧o.pl≤1048576:=by
 have:=may_in h (c:=97) (by rcases hk with hk | hk | hk | hk <;> rw [hk] <;> decide)
 simpa [wIn] using this
theorem may_count {o:Op0} (h:mayO o=true) (hk:o.k=6∨o.k=7∨o.k=9):1≤o.count∧o.count≤1024:=by
 have:=may_in h (c:=99) (by rcases hk with hk | hk | hk <;> rw [hk] <;> decide)
 simpa [wIn] using this
theorem may_data {o:Op0} (h:mayO o=true) (hk:o.k=5):64≤o.data.length∧o.data.length % 64=0∧o.data.length≤2048:=by
 have:=may_in h (c:=100) (by rw [hk];decide);simp only [wIn] at this
 simpa [and_assoc] using this
theorem may_rowC {o:Op0} (h:mayO o=true) (hk:o.k=5∨o.k=6∨o.k=9):1≤rowC o∧rowC o≤1024:=by
 unfold rowC
 split
 ·rename_i h5
  have:=may_data h h5;omega
 ·rename_i h5
  exact may_count h (by omega)
theorem drefused_at (n0:Nat) (w:World) (B Ba:Nat) (l:List (Nat × (Vl × Nat))) (h:DevAt n0 w B Ba l) (o:Op0) (ok:o.Ok) (ao:Option Addr) (cap:Nat) (hd:Rd w 1 (.slice ao o.data.length cap) o.data.length (bV o.data)) :
  Calls Tryz.prog 40 #[.pointer (some ⟨B,0,none⟩),.agg (oC o (.slice ao o.data.length cap))] w fun e w'=>e = .returned (.int .i64 (refD (strip l) o))∧Below w.heap.size w w':=by
 have HNL:Hid (o.data.length≤9223372036854775807):=hid (by obtain ⟨_,_,_,_,hm,_⟩:=hd;unfold maxLen at hm;omega);obtain ⟨sl,hsl⟩:∃ s,Value.slice ao o.data.length cap=s:=⟨_,rfl⟩
 have CP:Hid (∀ X,Calls Tryz.prog 71 #[.agg (oC o sl)] X fun e w'=>e = .returned (partV o)∧Below X.heap.size X w'):=hid (fun X=>by rw [← hsl];exact part13_any o ao cap X HNL.out);rw [hsl] at hd ⊢;have HSL:=hid hsl;clear hsl;obtain ⟨w1,hw1⟩:∃ W,w.alloc (.cells (oC o sl) 40)=W:=⟨_,rfl⟩
 have hb1:Below w.heap.size w w1:=by rw [← hw1];exact balloc (Below.refl _ _) _
 have hx1:w1.heap[w.heap.size]? = some (.cells (oC o sl) 40 (0,0)):=by rw [← hw1];exact heap_alloc_new w _
 have CT:=dthere_any w1 _ true (h.below hb1).dv;have CM:=mayO_any o ok sl w1 (hd.below hb1);have HD1:=hid (h.below hb1);have HB1:=hid hb1;have HX1:=hid hx1;obtain ⟨c0,c1,c2,c3,c4,c5,c6⟩:=op7 hx1;clear h hb1 hx1;unfold oC at hw1;rw [show (oC o sl)=#[.int .i64 o.k,.int .u64 (o.vol:Int),.int .u64 (o.to:Int),.int .i64 o.size,.int .i64 o.pl,.int .i64 o.count,sl] from rfl]
 go_enter Tryz.func40,Tryz.ntmps40
 go_wp2_with fail;refine CT.mono ?_;rintro e w2 ⟨rfl,rfl⟩;go_wp2_with fail;refine CM.mono ?_;rintro e w2 ⟨rfl,hb2⟩;have HB2:=hid (bthen HB1.out hb2);have HX2:=hid ((hb2.block w.heap.size (hLT HX1.out)).trans HX1.out);have HD2:=hid (HD1.out.below hb2);clear c0 c1 c2 c3 c4 c5 c6 hw1 hb2 CT CM;obtain ⟨q,hq⟩:∃ q,mayO o=q:=⟨_,rfl⟩
 have HQ:=hid hq;rw [hq];clear hq
 cases q with
 | false =>
  have HR:Hid (refD (strip l) o=2):=hid (by unfold refD;rw [if_pos HQ.out]);go_wp2_with fail;go_ret;exact ⟨by rw [HR.out];rfl,HB2.out⟩
 | true =>
  obtain ⟨s,p,b,hlk,hcase⟩:=HD2.out.looked ok.vol;have HLK:=hid hlk;have HCASE:=hid hcase;clear hlk hcase;go_wp2_with fail;have HSS:Hid (∀ X,Below w2.heap.size w2 X→(X.cell? ⟨B,0,none⟩=some (.map (some Ba))∧X.cell? ⟨w.heap.size,1,none⟩=some (.int .u64 (o.vol:Int)))∧Below w2.heap.size w2 X):=hid (fun X hb=>⟨⟨(World.cell?_of_block (hb.block _ (HD2.out.lt))).trans (HD2.out.cell),(World.cell?_of_block (hb.block _ ((hLT HX2.out)))).trans (cellOf HX2.out 1 rfl)⟩,hb⟩)
  refine wp_region_held_drew (S:=fun X=>(X.cell? ⟨B,0,none⟩=some (.map (some Ba))∧X.cell? ⟨w.heap.size,1,none⟩=some (.int .u64 (o.vol:Int)))∧Below w2.heap.size w2 X) (by kernel_rfl) (HSS.out _ (Below.refl _ _).drew) (fun hHeld => ?_);have hbe:Below w2.heap.size w2 w2.drew:=(Below.refl _ _).drew;obtain ⟨wd,hwd⟩:∃ y,w2.drew=y:=⟨_,rfl⟩
  rw [hwd] at hHeld hbe ⊢;have HBE:=hid hbe;have HS0:Hid (w2.heap.size≤wd.heap.size):=hid HBE.out.size;clear hwd hbe;refine tkA 0 rfl ?_;refine tkA 4 rfl ?_;refine tkA 1 rfl ?_;refine tkA 5 rfl ?_;refine tkA 2 rfl ?_;refine tkA 3 rfl ?_;refine tkB 6 (.tuple #[.agg #[.int .i64 (s:Int),.map p],.bool b]) rfl ?_ ?_
  ·(intro w hSw;simp only [gE1,gE2,gE3];(have h6:=HLK.out w hSw.2;go_simp;first | done | with_reducible rfl))
  refine tkA 7 rfl ?_;refine tkA 8 rfl ?_;refine tkA 9 rfl ?_;refine rd1 10 rfl fun K hK => ?_;simp only [gE1,gE2,gE3];go_simp;obtain ⟨b10,y10,hw10,hy10,hx10,HN10⟩:=al wd (.cells #[.int .i64 0,.map none] 84);rw [hy10,hw10];have HG10:Hid (w2.heap.size≤b10):=hid (by have:=HBE.out.size;omega);clear hy10 hw10;have HBE:=hid (bthen HBE.out hx10);clear hHeld;refine hK.out _ _ (HSS.out _ HBE.out) fun hHeld => ?_;clear hK K;try simp only [Act.put,pE1,pE2,pE3]
  clear hx10;refine rd1 11 rfl fun K hK => ?_;obtain ⟨hc11_0,hf11_0,hc11_1,hf11_1⟩:=bx2 HN10.out;simp only [gE1,gE2,gE3];go_simp;obtain ⟨y11,hy11,hm11,hv11⟩:=st2 HN10.out (.int .i64 (s:Int)) (.map p);rw [hy11];clear hy11 hc11_0 hf11_0 hc11_1 hf11_1;have HBE:=hid (bM HBE.out hm11 HG10.out);clear hHeld;refine hK.out _ _ (HSS.out _ HBE.out) fun hHeld => ?_;clear hK K;try simp only [Act.put,pE1,pE2,pE3]
  have HN10:=hid hv11;clear hv11 hm11;refine tkA 12 rfl ?_;refine wpAnyH_done (by kernel_rfl) ?_ _;have HEND:=hid hHeld.2;have HSE:=hid hHeld.1;clear hHeld;clear HSE HSS;have HB5:=hid (bthen HB2.out HEND.out);have HX5:=hid ((HEND.out.block w.heap.size (hLT HX2.out)).trans HX2.out);have HD5:=hid (HD2.out.below HEND.out);have hp0:=cellOf HN10.out 0 (v:=.int .i64 (s:Int)) rfl;obtain ⟨c0,c1,c2,c3,c4,c5,c6⟩:=op7 HX5.out;clear HEND HX2 HD2 HB2 HN10
  by_cases h8:o.k=8
  ·have g8:(o.k == 8)=true:=by simp [h8]
   have HK:=hid h8;clear h8;have HR:Hid (refD (strip l) o=0):=hid (by unfold refD;rw [if_neg (by rw [HQ.out];simp),if_pos HK.out]);go_wp2_with fail;go_ret;exact ⟨by rw [HR.out];rfl,HB5.out⟩
  have g8:=bneI h8
  rcases HCASE.out with ⟨x,hg,rfl,rfl,rfl⟩ | ⟨hg,rfl,rfl,rfl⟩
  ·by_cases h1:o.k=1
   ·have g1:(o.k == 1)=true:=by simp [h1]
    have HK:=hid h1;have HR:Hid (refD (strip l) o=7):=hid (by unfold refD;rw [if_neg (by rw [HQ.out];simp),if_neg (by rw [HK.out];omega),if_pos HK.out,getA_strip,hg];rfl);clear h8 h1;go_wp2_with fail;go_ret;exact ⟨by rw [HR.out];rfl,HB5.out⟩
   have g1:=bneI h1;have HG:=hid hg;clear hg;have HR0:Hid (refD (strip l) o=if o.k=4 then (if (getA o.to (strip l)).isSome then 7 else 0)
  else if o.k=5∨o.k=6∨o.k=9 then (if 4 * (x.1.size:Int)<o.pl+rowC o then 5 else 0)
  else if o.k=7 then (if (x.1.size:Int)<o.pl+o.count then 5 else 0) else 0):=hid (by
    unfold refD;rw [if_neg (by rw [HQ.out];simp),if_neg h8,if_neg h1,getA_strip,HG.out]
    rfl)
   by_cases h4:o.k=4
   ·have HPV:Hid (partV o = .iface 134 (.agg #[.int .u64 (o.vol:Int),.int .u64 (o.to:Int)])):=hid (by unfold partV;rw [if_neg (by omega),if_pos h4])
    have HR1:Hid (refD (strip l) o=if (getA o.to (strip l)).isSome then 7 else 0):=hid (by rw [HR0.out,if_pos h4]);clear h4 h1 h8;go_wp2_with fail;refine (CP.out _).mono ?_;rintro e w6 ⟨rfl,hb6⟩;rw [HPV.out];have HB6:=hid (bthen HB5.out hb6);have HX6:=hid ((hb6.block w.heap.size (hLT HX5.out)).trans HX5.out);have HD6:=hid (HD5.out.below hb6);have hq0:w6.cell? ⟨b10,0,none⟩=_:=(World.cell?_of_block (hb6.block b10 (World.block_lt_of_cell? y11 _ hp0))).trans hp0;have hbl:b10<w6.heap.size:=World.block_lt_of_cell? w6 _ hq0
    obtain ⟨d0,d1,d2,d3,d4,d5,d6⟩:=op7 HX6.out;clear c0 c1 c2 c3 c4 c5 c6 hp0 hb6;have t1:=as_fork;obtain ⟨w7,hw7⟩:∃ W,w6.alloc (.cells #[.int .u64 (o.vol:Int),.int .u64 (o.to:Int)] 134)=W:=⟨_,rfl⟩
    have HB67:Hid (Below w6.heap.size w6 w7):=hid (by rw [← hw7];exact balloc (Below.refl _ _) _);have HX7:Hid (w7.heap[w6.heap.size]? = some (.cells #[.int .u64 (o.vol:Int),.int .u64 (o.to:Int)] 134 (0,0))):=hid (by rw [← hw7];exact heap_alloc_new w6 _);have HD7:=hid (HD6.out.below HB67.out);obtain ⟨s2,p2,b2,hlk,hcase⟩:=HD7.out.looked ok.to;have HLK2:=hid hlk;have HCASE2:=hid hcase;clear hlk hcase;go_wp2_with fail
    (try rw [hw7])
    clear hw7 hq0 d0 d1 d2 d3 d4 d5 d6 t1;have HSS:Hid (∀ X,Below w7.heap.size w7 X→(X.cell? ⟨B,0,none⟩=some (.map (some Ba))∧X.cell? ⟨w6.heap.size,1,none⟩=some (.int .u64 (o.to:Int)))∧Below w7.heap.size w7 X):=hid (fun X hb=>⟨⟨(World.cell?_of_block (hb.block _ (HD7.out.lt))).trans (HD7.out.cell),(World.cell?_of_block (hb.block _ ((hLT HX7.out)))).trans (cellOf HX7.out 1 rfl)⟩,hb⟩)
    refine wp_region_held_drew (S:=fun X=>(X.cell? ⟨B,0,none⟩=some (.map (some Ba))∧X.cell? ⟨w6.heap.size,1,none⟩=some (.int .u64 (o.to:Int)))∧Below w7.heap.size w7 X) (by kernel_rfl) (HSS.out _ (Below.refl _ _).drew) (fun hHeld => ?_);have hbe:Below w7.heap.size w7 w7.drew:=(Below.refl _ _).drew;obtain ⟨wd,hwd⟩:∃ y,w7.drew=y:=⟨_,rfl⟩
    rw [hwd] at hHeld hbe ⊢;have HBE:=hid hbe;have HS0:Hid (w7.heap.size≤wd.heap.size):=hid HBE.out.size;clear hwd hbe;refine tkA 0 rfl ?_;refine tkA 4 rfl ?_;refine tkA 1 rfl ?_;refine tkA 5 rfl ?_;refine tkA 2 rfl ?_;refine tkA 3 rfl ?_;refine tkB 6 (.tuple #[.agg #[.int .i64 (s2:Int),.map p2],.bool b2]) rfl ?_ ?_
    ·(intro w hSw;simp only [gE1,gE2,gE3];(have h6:=HLK2.out w hSw.2;go_simp;first | done | with_reducible rfl))
    refine tkA 7 rfl ?_;refine tkA 8 rfl ?_;refine tkA 9 rfl ?_;refine rd1 10 rfl fun K hK => ?_;simp only [gE1,gE2,gE3];go_simp;obtain ⟨b10,y10,hw10,hy10,hx10,HN10⟩:=al wd (.cells #[.int .i64 0,.map none] 84);rw [hy10,hw10];have HG10:Hid (w7.heap.size≤b10):=hid (by have:=HBE.out.size;omega);clear hy10 hw10;have HBE:=hid (bthen HBE.out hx10);clear hHeld;refine hK.out _ _ (HSS.out _ HBE.out) fun hHeld => ?_;clear hK K;try simp only [Act.put,pE1,pE2,pE3]
    clear hx10;refine rd1 11 rfl fun K hK => ?_;obtain ⟨hc11_0,hf11_0,hc11_1,hf11_1⟩:=bx2 HN10.out;simp only [gE1,gE2,gE3];go_simp;obtain ⟨y11,hy11,hm11,hv11⟩:=st2 HN10.out (.int .i64 (s2:Int)) (.map p2);rw [hy11];clear hy11 hc11_0 hf11_0 hc11_1 hf11_1;have HBE:=hid (bM HBE.out hm11 HG10.out);clear hHeld;refine hK.out _ _ (HSS.out _ HBE.out) fun hHeld => ?_;clear hK K;try simp only [Act.put,pE1,pE2,pE3]
    have HN10:=hid hv11;clear hv11 hm11;refine tkA 12 rfl ?_;refine wpAnyH_done (by kernel_rfl) ?_ _;have HEND:=hid hHeld.2;have HSE:=hid hHeld.1;clear hHeld;have HB8:=hid (bthen HB6.out (bthen HB67.out HEND.out));clear HEND HSE HSS
    rcases HCASE2.out with ⟨x2,hg2,rfl,rfl,rfl⟩ | ⟨hg2,rfl,rfl,rfl⟩
    ·have HR:Hid (refD (strip l) o=7):=hid (by rw [HR1.out,getA_strip,hg2];rfl)
     go_wp2_with fail;go_ret;exact ⟨by rw [HR.out];rfl,HB8.out⟩
    ·have HR:Hid (refD (strip l) o=0):=hid (by rw [HR1.out,getA_strip,hg2];rfl)
     go_wp2_with fail;go_ret;exact ⟨by rw [HR.out];rfl,HB8.out⟩
   by_cases h7:o.k=7
   ·have HPV:Hid (partV o = .iface 137 (.agg #[.int .i64 o.pl,.int .i64 o.count])):=hid (by unfold partV;rw [if_neg (by omega),if_neg h4,if_neg (by omega),if_neg (by omega),if_pos h7])
    have HR1:Hid (refD (strip l) o=if (x.1.size:Int)<o.pl+o.count then 5 else 0):=hid (by rw [HR0.out,if_neg h4,if_neg (by omega),if_pos h7]);have hpl:=may_pl HQ.out (by omega);have hct:=may_count HQ.out (by omega);have hsz:x.1.size≤256:=(HD5.out.ok.vol (o.vol,x.1) (by unfold strip mapA;exact List.mem_map.2 ⟨_,getA_some HG.out,rfl⟩)).size;clear h4 h1 h8 h7;go_wp2_with fail;refine (CP.out _).mono ?_;rintro e w6 ⟨rfl,hb6⟩;rw [HPV.out];have HB6:=hid (bthen HB5.out hb6);have HX6:=hid ((hb6.block w.heap.size (hLT HX5.out)).trans HX5.out)
    have HD6:=hid (HD5.out.below hb6);have hq0:w6.cell? ⟨b10,0,none⟩=_:=(World.cell?_of_block (hb6.block b10 (World.block_lt_of_cell? y11 _ hp0))).trans hp0;have hbl:b10<w6.heap.size:=World.block_lt_of_cell? w6 _ hq0;obtain ⟨d0,d1,d2,d3,d4,d5,d6⟩:=op7 HX6.out;clear c0 c1 c2 c3 c4 c5 c6 hp0 hb6;have t1:=fun (z:Value) (T:TypeId) (w:World)=>no_fork (t:=137) (by decide) z T w;have t2:=fun (z:Value) (T:TypeId) (w:World)=>no_row (t:=137) (by decide) z T w;have t3:=as_space
    generalize o.pl=pl at *
    generalize o.count=ct at *
    generalize x.1.size=sz at *
    by_cases hgt:(sz:Int)<pl+ct
    ·have HR:Hid (refD (strip l) o=5):=hid (by rw [HR1.out,if_pos hgt])
     go_wp2_with fail;go_ret;exact ⟨by rw [HR.out];rfl,balloc HB6.out _⟩
    ·have HR:Hid (refD (strip l) o=0):=hid (by rw [HR1.out,if_neg hgt])
     go_wp2_with fail;go_ret;exact ⟨by rw [HR.out];rfl,balloc HB6.out _⟩
   by_cases h5:o.k=5∨o.k=6∨o.k=9
   ·have HPV:Hid (partV o = .iface 136 (.agg #[.int .i64 o.pl,.int .i64 (rowC o)])):=hid (by
     unfold partV rowC;rw [if_neg (by omega),if_neg h4]
     by_cases h55:o.k=5
     ·rw [if_pos h55,if_pos h55]
     ·rw [if_neg h55,if_pos (by omega),if_neg h55])
    have HR1:Hid (refD (strip l) o=if 4 * (x.1.size:Int)<o.pl+rowC o then 5 else 0):=hid (by rw [HR0.out,if_neg h4,if_pos h5]);have hpl:=may_pl HQ.out (by omega);have hct:=may_rowC HQ.out (by omega);have hsz:x.1.size≤256:=(HD5.out.ok.vol (o.vol,x.1) (by unfold strip mapA;exact List.mem_map.2 ⟨_,getA_some HG.out,rfl⟩)).size;clear h4 h1 h8 h7 h5;go_wp2_with fail;refine (CP.out _).mono ?_;rintro e w6 ⟨rfl,hb6⟩;rw [HPV.out];have HB6:=hid (bthen HB5.out hb6);have HX6:=hid ((hb6.block w.heap.size (hLT HX5.out)).trans HX5.out)
    have HD6:=hid (HD5.out.below hb6);have hq0:w6.cell? ⟨b10,0,none⟩=_:=(World.cell?_of_block (hb6.block b10 (World.block_lt_of_cell? y11 _ hp0))).trans hp0;have hbl:b10<w6.heap.size:=World.block_lt_of_cell? w6 _ hq0;obtain ⟨d0,d1,d2,d3,d4,d5,d6⟩:=op7 HX6.out;clear c0 c1 c2 c3 c4 c5 c6 hp0 hb6;have t1:=fun (z:Value) (T:TypeId) (w:World)=>no_fork (t:=136) (by decide) z T w;have t2:=as_row
    generalize o.pl=pl at *
    generalize rowC o=ct at *
    generalize x.1.size=sz at *
    by_cases hgt:4 * (sz:Int)<pl+ct
    ·have HR:Hid (refD (strip l) o=5):=hid (by rw [HR1.out,if_pos hgt])
     go_wp2_with fail;go_ret;exact ⟨by rw [HR.out];rfl,balloc HB6.out _⟩
    ·have HR:Hid (refD (strip l) o=0):=hid (by rw [HR1.out,if_neg hgt])
     go_wp2_with fail;go_ret;exact ⟨by rw [HR.out];rfl,balloc HB6.out _⟩
   have HR:Hid (refD (strip l) o=0):=hid (by rw [HR0.out,if_neg h4,if_neg h5,if_neg h7])
   by_cases h3:o.k=3
   ·have HPV:Hid (partV o = .iface 3 (.int .i64 o.size)):=hid (by unfold partV;rw [if_pos (.inr h3)])
    clear h3 h4 h5 h7 h1 h8;go_wp2_with fail;refine (CP.out _).mono ?_;rintro e w6 ⟨rfl,hb6⟩;rw [HPV.out];have HB6:=hid (bthen HB5.out hb6);have HX6:=hid ((hb6.block w.heap.size (hLT HX5.out)).trans HX5.out);have HD6:=hid (HD5.out.below hb6);have hq0:w6.cell? ⟨b10,0,none⟩=_:=(World.cell?_of_block (hb6.block b10 (World.block_lt_of_cell? y11 _ hp0))).trans hp0;have hbl:b10<w6.heap.size:=World.block_lt_of_cell? w6 _ hq0;obtain ⟨d0,d1,d2,d3,d4,d5,d6⟩:=op7 HX6.out;clear c0 c1 c2 c3 c4 c5 c6 hp0 hb6
    have t1:=fun (z:Value) (T:TypeId) (w:World)=>no_fork (t:=3) (by decide) z T w;have t2:=fun (z:Value) (T:TypeId) (w:World)=>no_row (t:=3) (by decide) z T w;have t3:=fun (z:Value) (T:TypeId) (w:World)=>no_space (t:=3) (by decide) z T w;go_wp2_with fail;go_ret;exact ⟨by rw [HR.out];rfl,HB6.out⟩
   ·have HPV:Hid (partV o = .nilIface):=hid (by unfold partV;rw [if_neg (by omega),if_neg h4,if_neg (by omega),if_neg (by omega),if_neg h7])
    clear h3 h4 h5 h7 h1 h8;go_wp2_with fail;refine (CP.out _).mono ?_;rintro e w6 ⟨rfl,hb6⟩;rw [HPV.out];have HB6:=hid (bthen HB5.out hb6);have HX6:=hid ((hb6.block w.heap.size (hLT HX5.out)).trans HX5.out);have HD6:=hid (HD5.out.below hb6);have hq0:w6.cell? ⟨b10,0,none⟩=_:=(World.cell?_of_block (hb6.block b10 (World.block_lt_of_cell? y11 _ hp0))).trans hp0;have hbl:b10<w6.heap.size:=World.block_lt_of_cell? w6 _ hq0;obtain ⟨d0,d1,d2,d3,d4,d5,d6⟩:=op7 HX6.out;clear c0 c1 c2 c3 c4 c5 c6 hp0 hb6;have t1:=nil_fork;have t2:=nil_row;have t3:=nil_space
    go_wp2_with fail;go_ret;exact ⟨by rw [HR.out];rfl,HB6.out⟩
  ·have HG:=hid hg
   clear hg;have HR0:Hid (refD (strip l) o=if o.k=1 then 0 else 6):=hid (by
    unfold refD;rw [if_neg (by rw [HQ.out];simp),if_neg h8,getA_strip,HG.out]
    rfl)
   by_cases h1:o.k=1
   ·have g1:(o.k == 1)=true:=by simp [h1]
    have HR:Hid (refD (strip l) o=0):=hid (by rw [HR0.out,if_pos h1]);have HPV:Hid (partV o = .iface 3 (.int .i64 o.size)):=hid (by unfold partV;rw [if_pos (.inl h1)]);clear h1 h8;go_wp2_with fail;refine (CP.out _).mono ?_;rintro e w6 ⟨rfl,hb6⟩;rw [HPV.out];have HB6:=hid (bthen HB5.out hb6);have HX6:=hid ((hb6.block w.heap.size (hLT HX5.out)).trans HX5.out);have HD6:=hid (HD5.out.below hb6);have hq0:w6.cell? ⟨b10,0,none⟩=_:=(World.cell?_of_block (hb6.block b10 (World.block_lt_of_cell? y11 _ hp0))).trans hp0
    have hbl:b10<w6.heap.size:=World.block_lt_of_cell? w6 _ hq0;obtain ⟨d0,d1,d2,d3,d4,d5,d6⟩:=op7 HX6.out;clear c0 c1 c2 c3 c4 c5 c6 hp0 hb6;have t1:=fun (z:Value) (T:TypeId) (w:World)=>no_fork (t:=3) (by decide) z T w;have t2:=fun (z:Value) (T:TypeId) (w:World)=>no_row (t:=3) (by decide) z T w;have t3:=fun (z:Value) (T:TypeId) (w:World)=>no_space (t:=3) (by decide) z T w;go_wp2_with fail;go_ret;exact ⟨by rw [HR.out];rfl,HB6.out⟩
   ·have g1:=bneI h1
    have HR:Hid (refD (strip l) o=6):=hid (by rw [HR0.out,if_neg h1]);clear h1 h8;go_wp2_with fail;go_ret;exact ⟨by rw [HR.out];rfl,HB5.out⟩
end Go.Proofs.YthkmihedkddnmaaGreat
