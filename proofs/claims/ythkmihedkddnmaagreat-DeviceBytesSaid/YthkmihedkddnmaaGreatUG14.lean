import Derived.Test.YthkmihedkddnmaaGreatUG2
import Derived.Test.YthkmihedkddnmaaGreatUG13
set_option linter.unusedVariables false
set_option linter.unusedSimpArgs false
set_option maxHeartbeats 3200000
set_option maxRecDepth 100000
namespace Go.Proofs.YthkmihedkddnmaaGreat
open Lib (hid)
open Go.RowKit Go.Maps Wire Cmd
theorem DevAt.short {n0:Nat} {w:World} {B Ba:Nat} {l:List (Nat × (Vl × Nat))} (h:DevAt n0 w B Ba l):l.length<maxLen:=by
 have:=ris_len_le 0 h.ok.ris (fun p hp=>⟨Nat.zero_le _,(h.ok.nat p hp).2⟩);have hlen:(strip l).length=l.length:=mapA_len _ _;unfold maxLen;omega
theorem DevAt.lt_all {n0:Nat} {w:World} {B Ba:Nat} {l:List (Nat × (Vl × Nat))} (h:DevAt n0 w B Ba l):∀ k∈dF Ba l,k<w.heap.size:=by
 intro k hk
 rcases List.mem_cons.1 hk with rfl | hk
 ·exact h.all.lt
 ·obtain ⟨p,hp,rfl⟩:=List.mem_map.1 hk
  exact (h.vol p hp).lt
theorem DevAt.B_ne {n0:Nat} {w:World} {B Ba:Nat} {l:List (Nat × (Vl × Nat))} (h:DevAt n0 w B Ba l):B≠Ba:=by
 obtain ⟨es,clock,hes⟩:=h.all.isMap;exact fun e=>map_ne_cells hes h.box e.symm
structure Boxes (w w2:World) (C:Array Value):Prop where
 bel:Below w.heap.size w w2
 sz:w2.heap.size=w.heap.size+2
 op:w2.heap[w.heap.size]? = some (.cells C 40 (0,0))
 ans:w2.heap[w.heap.size+1]? = some (.cells #[.int .i64 0,.int .i64 0,.slice none 0 0] 35 (0,0))
theorem boxes (w:World) (C:Array Value):Boxes w ((w.alloc (.cells C 40)).alloc (.cells #[.int .i64 0,.int .i64 0,.slice none 0 0] 35)) C:=by
 have h1:=heap_alloc_new w (.cells C 40);have h2:=heap_alloc_new (w.alloc (.cells C 40)) (.cells #[.int .i64 0,.int .i64 0,.slice none 0 0] 35);have hb:=balloc (Below.refl _ (w.alloc (.cells C 40))) (.cells #[.int .i64 0,.int .i64 0,.slice none 0 0] 35);refine ⟨bthen (balloc (Below.refl _ _) _) hb,by simp,(hb.block _ (by simp)).trans h1,?_⟩
 simpa using h2
theorem dcreate_at (n0:Nat) (w:World) (B Ba:Nat) (l:List (Nat × (Vl × Nat))) (h:DevAt n0 w B Ba l) (o:Op0) (ao:Option Addr) (cap:Nat) (b:Int) (hn:o.data.length≤9223372036854775807) (hmay:mayO o=true) (hk:o.k=1) :
  Calls Tryz.prog 41 #[.pointer (some ⟨B,0,none⟩),.agg (oC o (.slice ao o.data.length cap)),.int .i64 b] w fun e w'=>e = .returned (ansE 0 0)∧∃ b',DevAt n0 w' B Ba (putA o.vol (⟨o.size.toNat,[]⟩,b') l)∧Mods [Ba] w w'∧w.heap.size≤b':=by
 have HH:=hid h;have hbx:=boxes w (oC o (.slice ao o.data.length cap));have hsize:=may_size hmay (.inl hk);have HVOL:=hid (may_vol hmay (by omega));have HS:Hid (((o.size.toNat:Nat):Int)=o.size∧o.size.toNat≤256):=hid ⟨by omega,by omega⟩;have HPV:Hid (partV o = .iface 3 (.int .i64 o.size)):=hid (by unfold partV;rw [if_pos (.inl hk)]);obtain ⟨sl,hsl⟩:∃ s,Value.slice ao o.data.length cap=s:=⟨_,rfl⟩
 have CP:Hid (∀ X,Calls Tryz.prog 71 #[.agg (oC o sl)] X fun e w'=>e = .returned (.iface 3 (.int .i64 o.size))∧Below X.heap.size X w'):=hid (fun X=>by rw [← hsl,← HPV.out];exact part13_any o ao cap X hn);rw [hsl] at hbx ⊢;clear hsl hsize h hk hmay hn;rw [show (oC o sl)=#[.int .i64 o.k,.int .u64 (o.vol:Int),.int .u64 (o.to:Int),.int .i64 o.size,.int .i64 o.pl,.int .i64 o.count,sl] from rfl] at hbx ⊢
 obtain ⟨w2,hw2⟩:∃ W,(w.alloc (.cells #[.int .i64 o.k,.int .u64 (o.vol:Int),.int .u64 (o.to:Int),.int .i64 o.size,.int .i64 o.pl,.int .i64 o.count,sl] 40)).alloc (.cells #[.int .i64 0,.int .i64 0,.slice none 0 0] 35)=W:=⟨_,rfl⟩
 rw [hw2] at hbx;have HBX:=hid hbx;clear hbx;have t1:=is_int
 go_enter Tryz.func41,Tryz.ntmps41
 go_wp2_with fail
 (try rw [hw2])
 clear hw2;have HD2:=hid (HH.out.below HBX.out.bel);have HX2:=hid HBX.out.op;have HLT:=hid (hLT HX2.out);have HNI:Hid (w.heap.size∉[Ba]):=hid (by have:=HH.out.all.lt;simp;omega);have HNB:Hid (B∉[Ba]):=hid (by simpa using HD2.out.B_ne)
 have HSS:Hid (∀ X,Mods [Ba] w2 X→(X.cell? ⟨B,0,none⟩=some (.map (some Ba))∧X.cell? ⟨w.heap.size,0,none⟩=some (.int .i64 o.k)∧X.cell? ⟨w.heap.size,1,none⟩=some (.int .u64 (o.vol:Int))∧X.cell? ⟨w.heap.size,2,none⟩=some (.int .u64 (o.to:Int))∧X.cell? ⟨w.heap.size,3,none⟩=some (.int .i64 o.size)∧X.cell? ⟨w.heap.size,4,none⟩=some (.int .i64 o.pl)∧X.cell? ⟨w.heap.size,5,none⟩=some (.int .i64 o.count)∧X.cell? ⟨w.heap.size,6,none⟩=some (sl))∧Mods [Ba] w2 X):=hid (fun X hb=>⟨⟨(World.cell?_of_block (hb.block _ (HD2.out.lt) (HNB.out))).trans (HD2.out.cell),(World.cell?_of_block (hb.block _ (HLT.out) (HNI.out))).trans (cellOf HX2.out 0 rfl),(World.cell?_of_block (hb.block _ (HLT.out) (HNI.out))).trans (cellOf HX2.out 1 rfl),(World.cell?_of_block (hb.block _ (HLT.out) (HNI.out))).trans (cellOf HX2.out 2 rfl),(World.cell?_of_block (hb.block _ (HLT.out) (HNI.out))).trans (cellOf HX2.out 3 rfl),(World.cell?_of_block (hb.block _ (HLT.out) (HNI.out))).trans (cellOf HX2.out 4 rfl),(World.cell?_of_block (hb.block _ (HLT.out) (HNI.out))).trans (cellOf HX2.out 5 rfl),(World.cell?_of_block (hb.block _ (HLT.out) (HNI.out))).trans (cellOf HX2.out 6 rfl)⟩,hb⟩)
 refine wp_region_held_drew (S:=fun X=>(X.cell? ⟨B,0,none⟩=some (.map (some Ba))∧X.cell? ⟨w.heap.size,0,none⟩=some (.int .i64 o.k)∧X.cell? ⟨w.heap.size,1,none⟩=some (.int .u64 (o.vol:Int))∧X.cell? ⟨w.heap.size,2,none⟩=some (.int .u64 (o.to:Int))∧X.cell? ⟨w.heap.size,3,none⟩=some (.int .i64 o.size)∧X.cell? ⟨w.heap.size,4,none⟩=some (.int .i64 o.pl)∧X.cell? ⟨w.heap.size,5,none⟩=some (.int .i64 o.count)∧X.cell? ⟨w.heap.size,6,none⟩=some (sl))∧Mods [Ba] w2 X) (by kernel_rfl) (HSS.out _ (Mods.of_below (Below.refl _ _).drew)) (fun hHeld => ?_)
 have hbe:Below w2.heap.size w2 w2.drew:=(Below.refl _ _).drew;obtain ⟨wd,hwd⟩:∃ y,w2.drew=y:=⟨_,rfl⟩
 rw [hwd] at hHeld hbe ⊢;have HBE:=hid hbe;have HS0:Hid (w2.heap.size≤wd.heap.size):=hid HBE.out.size;clear hwd hbe;refine tkA 0 rfl ?_;refine tkA 4 rfl ?_;refine tkA 6 rfl ?_;refine tkA 1 rfl ?_;refine tkA 5 rfl ?_;refine tkA 2 rfl ?_;refine tkA 3 rfl ?_;refine rd2 7 9 rfl rfl (fun K hK => ?_) fun K hK => ?_
 ·skip
  simp only [gE1,gE2,gE3];go_simp;refine (CP.out _).mono ?_;rintro e w3 ⟨rfl,hb3⟩;dsimp only;have HBE:=hid (bthen HBE.out hb3);clear hHeld;refine hK.out _ _ (HSS.out _ (Mods.of_below HBE.out)) fun hHeld => ?_;clear hK K;try simp only [Act.put,pE1,pE2,pE3]
  have HC7:=hid hb3;clear hb3;refine tkA 8 rfl ?_;refine rd1 9 rfl fun K hK => ?_;have hmm := @run_makeMap Tryz.prog;simp only [gE1,gE2,gE3];go_simp;clear hmm;obtain ⟨b9,y9,hw9,hy9,hx9,HN9⟩:=al w3 (.map #[] 0);rw [hy9,hw9];have HG9:Hid (w2.heap.size≤b9):=hid (by have:=HBE.out.size;omega);clear hy9 hw9;have HBE:=hid (bthen HBE.out hx9);clear hHeld;refine hK.out _ _ (HSS.out _ (Mods.of_below HBE.out)) fun hHeld => ?_;clear hK K;try simp only [Act.put,pE1,pE2,pE3]
  clear hx9;refine tkA 10 rfl ?_;refine rd1 11 rfl fun K hK => ?_;obtain ⟨w4,hup,hml,hmod⟩:=(HD2.out.below HBE.out).all.put undU64 undAll HH.out.short (wfU (Nat.lt_trans HVOL.out.2 (by decide))) (a:=((⟨o.size.toNat,[]⟩:Vl),b9)) (v:=.agg #[.int .i64 o.size,.map (some b9)]) (by rw [← HS.out.1];exact RVol_mk _ _);simp only [gE1,gE2,gE3];go_simp;refine hK.out _ _ ?_ (fun hHeld => ?_)
  ·exact HSS.out _ ((Mods.of_below HBE.out).trans hmod (fun i hi=>.inl hi))
  clear hK K;try simp only [Act.put,pE1,pE2,pE3]
  have HD4:Hid (DevAt n0 w4 B Ba (putA o.vol (⟨o.size.toNat,[]⟩,b9) l)):=hid ((HD2.out.below HBE.out).putAt hml (mapL_at_new HN9.out hmod (by have:=HG9.out;have:=HD2.out.all.lt;simp;omega)) hmod HVOL.out ⟨HS.out.2,List.Pairwise.nil,fun q hq=>(by cases hq),fun q hq=>(by cases hq)⟩ (by have:=HG9.out;have:=HD2.out.lt;have:=HD2.out.ge.1;omega) (by have:=HG9.out;have:=HD2.out.all.lt;omega) (fun p hp e=>absurd e (by have:=HG9.out;have:=(HD2.out.vol p hp).lt;omega)));clear hml hmod hup;refine wpAnyH_done (by kernel_rfl) ?_ _;have HEND:=hid hHeld.2
  have HSE:=hid hHeld.1;clear hHeld;have HM5:=hid HEND.out;have HN9':=hid HN9.out;clear HEND HSE HSS HBE;have hxa:=(HM5.out.block (w.heap.size+1) (by rw [HBX.out.sz];omega) (by have:=HH.out.all.lt;simp;omega)).trans HBX.out.ans;have HXA:=hid hxa;have e0:=cellOf hxa 0 (v:=.int .i64 0) rfl;have e1:=cellOf hxa 1 (v:=.int .i64 0) rfl;have e2:=cellOf hxa 2 (v:=.slice none 0 0) rfl;have f0:=frozenOf hxa 0;have f1:=frozenOf hxa 1;have f2:=frozenOf hxa 2;clear hxa;go_wp2_with fail
  obtain ⟨hx4,hm4⟩:=set3 (x:=.int .i64 0) (y:=.int .i64 0) (z:=.slice none 0 0) HXA.out;have hbn:b9≠w.heap.size+1:=by have:=HG9.out;have:=HBX.out.sz;omega
  refine bodyPost_ret (v:=ansE 0 0) (resAns rfl _ _ _ _ _ _ rfl hx4) rfl ⟨rfl,b9,HD4.out.kept hm4 (fun hh => ?_) (fun k hk hh => ?_),?_,by have:=HG9.out;have:=HBX.out.sz;omega⟩
  ·have:B=w.heap.size+1:=by simpa using hh
   have:=HH.out.lt;omega
  ·have e:k=w.heap.size+1:=by simpa using hh
   subst e
   rcases List.mem_cons.1 hk with e2 | hk2
   ·have:=HH.out.all.lt
    omega
   ·obtain ⟨p,hp,he⟩:=List.mem_map.1 hk2
    rcases mem_putA hp with rfl | hp
    ·exact hbn he
    ·have:=(HH.out.vol p hp).lt
     omega
  ·exact ((Mods.of_below HBX.out.bel).trans HM5.out (fun i hi=>.inl hi)).trans hm4 (fun i hi=>.inr (by
    have:i=w.heap.size+1:=by simpa using hi
    omega))
 ·skip
  have hmm := @run_makeMap Tryz.prog;simp only [gE1,gE2,gE3];go_simp;clear hmm;obtain ⟨b9,y9,hw9,hy9,hx9,HN9⟩:=al wd (.map #[] 0);rw [hy9,hw9];have HG9:Hid (w2.heap.size≤b9):=hid (by have:=HBE.out.size;omega);clear hy9 hw9;have HBE:=hid (bthen HBE.out hx9);clear hHeld;refine hK.out _ _ (HSS.out _ (Mods.of_below HBE.out)) fun hHeld => ?_;clear hK K;try simp only [Act.put,pE1,pE2,pE3]
  clear hx9;refine rd1 7 rfl fun K hK => ?_;simp only [gE1,gE2,gE3];go_simp;refine (CP.out _).mono ?_;rintro e w3 ⟨rfl,hb3⟩;dsimp only;have HBE:=hid (bthen HBE.out hb3);clear hHeld;refine hK.out _ _ (HSS.out _ (Mods.of_below HBE.out)) fun hHeld => ?_;clear hK K;try simp only [Act.put,pE1,pE2,pE3]
  have HN9:=hid (nX hb3 HN9.out);have HC7:=hid hb3;clear hb3;refine tkA 8 rfl ?_;refine tkA 10 rfl ?_;refine rd1 11 rfl fun K hK => ?_;obtain ⟨w4,hup,hml,hmod⟩:=(HD2.out.below HBE.out).all.put undU64 undAll HH.out.short (wfU (Nat.lt_trans HVOL.out.2 (by decide))) (a:=((⟨o.size.toNat,[]⟩:Vl),b9)) (v:=.agg #[.int .i64 o.size,.map (some b9)]) (by rw [← HS.out.1];exact RVol_mk _ _);simp only [gE1,gE2,gE3];go_simp;refine hK.out _ _ ?_ (fun hHeld => ?_)
  ·exact HSS.out _ ((Mods.of_below HBE.out).trans hmod (fun i hi=>.inl hi))
  clear hK K;try simp only [Act.put,pE1,pE2,pE3]
  have HD4:Hid (DevAt n0 w4 B Ba (putA o.vol (⟨o.size.toNat,[]⟩,b9) l)):=hid ((HD2.out.below HBE.out).putAt hml (mapL_at_new HN9.out hmod (by have:=HG9.out;have:=HD2.out.all.lt;simp;omega)) hmod HVOL.out ⟨HS.out.2,List.Pairwise.nil,fun q hq=>(by cases hq),fun q hq=>(by cases hq)⟩ (by have:=HG9.out;have:=HD2.out.lt;have:=HD2.out.ge.1;omega) (by have:=HG9.out;have:=HD2.out.all.lt;omega) (fun p hp e=>absurd e (by have:=HG9.out;have:=(HD2.out.vol p hp).lt;omega)));clear hml hmod hup;refine wpAnyH_done (by kernel_rfl) ?_ _;have HEND:=hid hHeld.2
  have HSE:=hid hHeld.1;clear hHeld;have HM5:=hid HEND.out;have HN9':=hid HN9.out;clear HEND HSE HSS HBE;have hxa:=(HM5.out.block (w.heap.size+1) (by rw [HBX.out.sz];omega) (by have:=HH.out.all.lt;simp;omega)).trans HBX.out.ans;have HXA:=hid hxa;have e0:=cellOf hxa 0 (v:=.int .i64 0) rfl;have e1:=cellOf hxa 1 (v:=.int .i64 0) rfl;have e2:=cellOf hxa 2 (v:=.slice none 0 0) rfl;have f0:=frozenOf hxa 0;have f1:=frozenOf hxa 1;have f2:=frozenOf hxa 2;clear hxa;go_wp2_with fail
  obtain ⟨hx4,hm4⟩:=set3 (x:=.int .i64 0) (y:=.int .i64 0) (z:=.slice none 0 0) HXA.out;have hbn:b9≠w.heap.size+1:=by have:=HG9.out;have:=HBX.out.sz;omega
  refine bodyPost_ret (v:=ansE 0 0) (resAns rfl _ _ _ _ _ _ rfl hx4) rfl ⟨rfl,b9,HD4.out.kept hm4 (fun hh => ?_) (fun k hk hh => ?_),?_,by have:=HG9.out;have:=HBX.out.sz;omega⟩
  ·have:B=w.heap.size+1:=by simpa using hh
   have:=HH.out.lt;omega
  ·have e:k=w.heap.size+1:=by simpa using hh
   subst e
   rcases List.mem_cons.1 hk with e2 | hk2
   ·have:=HH.out.all.lt
    omega
   ·obtain ⟨p,hp,he⟩:=List.mem_map.1 hk2
    rcases mem_putA hp with rfl | hp
    ·exact hbn he
    ·have:=(HH.out.vol p hp).lt
     omega
  ·exact ((Mods.of_below HBX.out.bel).trans HM5.out (fun i hi=>.inl hi)).trans hm4 (fun i hi=>.inr (by
    have:i=w.heap.size+1:=by simpa using hi
    omega))
end Go.Proofs.YthkmihedkddnmaaGreat
namespace Go.Proofs.YthkmihedkddnmaaGreat
open Lib (hid)
open Go.RowKit Go.Maps Wire Cmd
theorem dropA_none {α:Type} (f:Int) (m:List (Nat × α)):dropA f f m=m:=by
 unfold dropA;rw [List.filter_eq_self];intro p _;simp only [Bool.or_eq_true,decide_eq_true_eq];omega
theorem dropA_del {α:Type} (f:Int) (k:Nat) (hk:f≤(k:Int)) (m:List (Nat × α)):delA k (dropA f (k:Int) m)=dropA f ((k:Int)+1) m:=by
 unfold dropA delA;rw [List.filter_filter];refine List.filter_congr fun p _ => ?_;rw [Bool.eq_iff_iff];simp only [Bool.and_eq_true,Bool.not_eq_true',beq_eq_false_iff_ne,Bool.or_eq_true,decide_eq_true_eq];omega
theorem wfI64 {n:Nat} (h:n<9223372036854775808):(Lit.int .i64 (n:Int)).wf=true:=by
 have e1:IntKind.i64.min = -9223372036854775808:=rfl;have e2:IntKind.i64.max=9223372036854775807:=rfl
 simp [Lit.wf,e1,e2]
 omega
theorem undInt:Tryz.prog.underlying 3=some (.int .i64):=Tryz.underlying3
theorem ddiscard_at (n0:Nat) (w:World) (B Ba:Nat) (l:List (Nat × (Vl × Nat))) (h:DevAt n0 w B Ba l) (o:Op0) (ao:Option Addr) (cap:Nat) (b:Int) (hn:o.data.length≤9223372036854775807) (hmay:mayO o=true) (hk:o.k=7) (x:Vl × Nat) (hg:getA o.vol l=some x) :
  Calls Tryz.prog 46 #[.pointer (some ⟨B,0,none⟩),.agg (oC o (.slice ao o.data.length cap)),.int .i64 b] w fun e w'=>e = .returned (ansE 0 0)∧DevAt n0 w' B Ba (putA o.vol (⟨x.1.size,dropA o.pl (o.pl+o.count) x.1.m⟩,x.2) l)∧Mods [x.2] w w':=by
 have HH:=hid h;have HG:=hid hg;have HVOL:=hid (may_vol hmay (by omega));have hpl:=may_pl hmay (by omega);have hct:=may_count hmay (by omega);have HPL:=hid hpl;have HCT:=hid hct;have HPV:Hid (partV o = .iface 137 (.agg #[.int .i64 o.pl,.int .i64 o.count])):=hid (by unfold partV;rw [if_neg (by omega),if_neg (by omega),if_neg (by omega),if_neg (by omega),if_pos hk]);obtain ⟨sl,hsl⟩:∃ s,Value.slice ao o.data.length cap=s:=⟨_,rfl⟩
 have CP:Hid (∀ X,Calls Tryz.prog 71 #[.agg (oC o sl)] X fun e w'=>e = .returned (.iface 137 (.agg #[.int .i64 o.pl,.int .i64 o.count]))∧Below X.heap.size X w'):=hid (fun X=>by rw [← hsl,← HPV.out];exact part13_any o ao cap X hn);rw [hsl];clear hsl hpl hct h hk hmay hn hg;obtain ⟨w2,hw2⟩:∃ W,(w.alloc (.cells #[.int .i64 o.k,.int .u64 (o.vol:Int),.int .u64 (o.to:Int),.int .i64 o.size,.int .i64 o.pl,.int .i64 o.count,sl] 40)).alloc (.cells #[.int .i64 0,.int .i64 0,.slice none 0 0] 35)=W:=⟨_,rfl⟩
 have HBX:Hid (Boxes w w2 (oC o sl)):=hid (by rw [← hw2];exact boxes w (oC o sl));have HD2:=hid (HH.out.below HBX.out.bel);have HX2:=hid HBX.out.op;have HLT:=hid (hLT HX2.out);have HLK:Hid (∀ X,Below w2.heap.size w2 X→(Instr.lookup 61 (.map (some Ba)) (.int .u64 (o.vol:Int)) false).run Tryz.prog X = .ok (.agg #[.int .i64 (x.1.size:Int),.map (some x.2)]) X):=hid (fun X hX=>((HD2.out.below hX).look (Nat.lt_trans HVOL.out.2 (by decide)) HG.out).2)
 rw [show (oC o sl)=#[.int .i64 o.k,.int .u64 (o.vol:Int),.int .u64 (o.to:Int),.int .i64 o.size,.int .i64 o.pl,.int .i64 o.count,sl] from rfl];have t1:=is_space
 go_enter Tryz.func46,Tryz.ntmps46
 go_upto_region 1 with fail
 (try rw [hw2])
 clear hw2
 go_cut [7,8] (fun p q wx=>∃ W b7 b8,W=wx∧p = .pointer (some ⟨b7,0,none⟩)∧q = .pointer (some ⟨b8,0,none⟩)∧w2.heap.size≤b7∧w2.heap.size≤b8∧b7≠b8∧Below w2.heap.size w2 W∧W.heap[b7]? = some (.cells #[.int .i64 (x.1.size:Int),.map (some x.2)] 84 (0,0))∧W.heap[b8]? = some (.cells #[.int .i64 o.pl,.int .i64 o.count] 137 (0,0)))
 case first =>
  have HSS:Hid (∀ X,Below w2.heap.size w2 X→(X.cell? ⟨B,0,none⟩=some (.map (some Ba))∧X.cell? ⟨w.heap.size,0,none⟩=some (.int .i64 o.k)∧X.cell? ⟨w.heap.size,1,none⟩=some (.int .u64 (o.vol:Int))∧X.cell? ⟨w.heap.size,2,none⟩=some (.int .u64 (o.to:Int))∧X.cell? ⟨w.heap.size,3,none⟩=some (.int .i64 o.size)∧X.cell? ⟨w.heap.size,4,none⟩=some (.int .i64 o.pl)∧X.cell? ⟨w.heap.size,5,none⟩=some (.int .i64 o.count)∧X.cell? ⟨w.heap.size,6,none⟩=some (sl))∧Below w2.heap.size w2 X):=hid (fun X hb=>⟨⟨(World.cell?_of_block (hb.block _ (HD2.out.lt))).trans (HD2.out.cell),(World.cell?_of_block (hb.block _ (HLT.out))).trans (cellOf HX2.out 0 rfl),(World.cell?_of_block (hb.block _ (HLT.out))).trans (cellOf HX2.out 1 rfl),(World.cell?_of_block (hb.block _ (HLT.out))).trans (cellOf HX2.out 2 rfl),(World.cell?_of_block (hb.block _ (HLT.out))).trans (cellOf HX2.out 3 rfl),(World.cell?_of_block (hb.block _ (HLT.out))).trans (cellOf HX2.out 4 rfl),(World.cell?_of_block (hb.block _ (HLT.out))).trans (cellOf HX2.out 5 rfl),(World.cell?_of_block (hb.block _ (HLT.out))).trans (cellOf HX2.out 6 rfl)⟩,hb⟩)
  refine wp_region_held_drew (S:=fun X=>(X.cell? ⟨B,0,none⟩=some (.map (some Ba))∧X.cell? ⟨w.heap.size,0,none⟩=some (.int .i64 o.k)∧X.cell? ⟨w.heap.size,1,none⟩=some (.int .u64 (o.vol:Int))∧X.cell? ⟨w.heap.size,2,none⟩=some (.int .u64 (o.to:Int))∧X.cell? ⟨w.heap.size,3,none⟩=some (.int .i64 o.size)∧X.cell? ⟨w.heap.size,4,none⟩=some (.int .i64 o.pl)∧X.cell? ⟨w.heap.size,5,none⟩=some (.int .i64 o.count)∧X.cell? ⟨w.heap.size,6,none⟩=some (sl))∧Below w2.heap.size w2 X) (by kernel_rfl) (HSS.out _ (Below.refl _ _).drew) (fun hHeld => ?_)
  have hbe:Below w2.heap.size w2 w2.drew:=(Below.refl _ _).drew;obtain ⟨wd,hwd⟩:∃ y,w2.drew=y:=⟨_,rfl⟩
  rw [hwd] at hHeld hbe ⊢;have HBE:=hid hbe;have HS0:Hid (w2.heap.size≤wd.heap.size):=hid HBE.out.size;clear hwd hbe;refine tkA 0 rfl ?_;refine tkA 4 rfl ?_;refine tkA 7 rfl ?_;refine tkA 1 rfl ?_;refine tkA 5 rfl ?_;refine tkA 2 rfl ?_;refine tkA 3 rfl ?_;refine tkB 6 (.agg #[.int .i64 (x.1.size:Int),.map (some x.2)]) rfl ?_ ?_
  ·(intro w hSw;simp only [gE1,gE2,gE3];(have h6:=HLK.out w hSw.2;go_simp;first | done | with_reducible rfl))
  refine wpAnyH_ready (rs:=[8,10,11]) (by kernel_rfl) (by simp) ?_;refine AllReadyH.cons rfl (fun K hK => ?_) (AllReadyH.cons rfl (fun K hK => ?_) (AllReadyH.cons rfl (fun K hK => ?_) (AllReadyH.nil)))
  ·skip
   simp only [gE1,gE2,gE3];go_simp;refine (CP.out _).mono ?_;rintro e w3 ⟨rfl,hb3⟩;dsimp only;have HBE:=hid (bthen HBE.out hb3);clear hHeld;refine hK.out _ _ (HSS.out _ HBE.out) fun hHeld => ?_;clear hK K;try simp only [Act.put,pE1,pE2,pE3]
   have HC8:=hid hb3;clear hb3;refine tkA 9 rfl ?_;refine rd2 10 11 rfl rfl (fun K hK => ?_) fun K hK => ?_
   ·skip
    simp only [gE1,gE2,gE3];go_simp;obtain ⟨b10,y10,hw10,hy10,hx10,HN10⟩:=al w3 (.cells #[.int .i64 0,.map none] 84);rw [hy10,hw10];have HG10:Hid (w2.heap.size≤b10):=hid (by have:=HBE.out.size;omega);clear hy10 hw10;have HBE:=hid (bthen HBE.out hx10);clear hHeld;refine hK.out _ _ (HSS.out _ HBE.out) fun hHeld => ?_;clear hK K;try simp only [Act.put,pE1,pE2,pE3]
    clear hx10;refine rd1 11 rfl fun K hK => ?_;simp only [gE1,gE2,gE3];go_simp;obtain ⟨b11,y11,hw11,hy11,hx11,HN11⟩:=al y10 (.cells #[.int .i64 0,.int .i64 0] 137);rw [hy11,hw11];have HG11:Hid (w2.heap.size≤b11):=hid (by have:=HBE.out.size;omega);have HNE10_11:Hid (b10≠b11):=hid (by have:=(hLT HN10.out);omega);clear hy11 hw11;have HBE:=hid (bthen HBE.out hx11);clear hHeld;refine hK.out _ _ (HSS.out _ HBE.out) fun hHeld => ?_;clear hK K;try simp only [Act.put,pE1,pE2,pE3]
    have HN10:=hid (nX hx11 HN10.out);clear hx11;refine rd1 12 rfl fun K hK => ?_;obtain ⟨hc12_0,hf12_0,hc12_1,hf12_1⟩:=bx2 HN10.out;simp only [gE1,gE2,gE3];go_simp;obtain ⟨y12,hy12,hm12,hv12⟩:=st2 HN10.out (.int .i64 (x.1.size:Int)) (.map (some x.2));rw [hy12];clear hy12 hc12_0 hf12_0 hc12_1 hf12_1;have HBE:=hid (bM HBE.out hm12 HG10.out);clear hHeld;refine hK.out _ _ (HSS.out _ HBE.out) fun hHeld => ?_;clear hK K;try simp only [Act.put,pE1,pE2,pE3]
    have HN11:=hid (nMa hm12 HN11.out HNE10_11.out);have HN10:=hid hv12;clear hv12 hm12;refine rd1 13 rfl fun K hK => ?_;obtain ⟨hc13_0,hf13_0,hc13_1,hf13_1⟩:=bx2 HN11.out;simp only [gE1,gE2,gE3];go_simp;obtain ⟨y13,hy13,hm13,hv13⟩:=st2 HN11.out (.int .i64 o.pl) (.int .i64 o.count);rw [hy13];clear hy13 hc13_0 hf13_0 hc13_1 hf13_1;have HBE:=hid (bM HBE.out hm13 HG11.out);clear hHeld;refine hK.out _ _ (HSS.out _ HBE.out) fun hHeld => ?_;clear hK K;try simp only [Act.put,pE1,pE2,pE3]
    have HN10:=hid (nMb hm13 HN10.out HNE10_11.out);have HN11:=hid hv13;clear hv13 hm13;refine wpAnyH_done (by kernel_rfl) ?_ _;have HEND:=hid hHeld.2;have HSE:=hid hHeld.1;clear hHeld;clear HSE HSS;go_wp2_with fail;go_meet;exact ⟨_,_,_,rfl,rfl,rfl,HG10.out,HG11.out,HNE10_11.out,HEND.out,HN10.out,HN11.out⟩
   ·skip
    simp only [gE1,gE2,gE3];go_simp;obtain ⟨b11,y11,hw11,hy11,hx11,HN11⟩:=al w3 (.cells #[.int .i64 0,.int .i64 0] 137);rw [hy11,hw11];have HG11:Hid (w2.heap.size≤b11):=hid (by have:=HBE.out.size;omega);clear hy11 hw11;have HBE:=hid (bthen HBE.out hx11);clear hHeld;refine hK.out _ _ (HSS.out _ HBE.out) fun hHeld => ?_;clear hK K;try simp only [Act.put,pE1,pE2,pE3]
    clear hx11;refine rd1 10 rfl fun K hK => ?_;simp only [gE1,gE2,gE3];go_simp;obtain ⟨b10,y10,hw10,hy10,hx10,HN10⟩:=al y11 (.cells #[.int .i64 0,.map none] 84);rw [hy10,hw10];have HG10:Hid (w2.heap.size≤b10):=hid (by have:=HBE.out.size;omega);have HNE10_11:Hid (b10≠b11):=hid (by have:=(hLT HN11.out);omega);clear hy10 hw10;have HBE:=hid (bthen HBE.out hx10);clear hHeld;refine hK.out _ _ (HSS.out _ HBE.out) fun hHeld => ?_;clear hK K;try simp only [Act.put,pE1,pE2,pE3]
    have HN11:=hid (nX hx10 HN11.out);clear hx10;refine rd1 12 rfl fun K hK => ?_;obtain ⟨hc12_0,hf12_0,hc12_1,hf12_1⟩:=bx2 HN10.out;simp only [gE1,gE2,gE3];go_simp;obtain ⟨y12,hy12,hm12,hv12⟩:=st2 HN10.out (.int .i64 (x.1.size:Int)) (.map (some x.2));rw [hy12];clear hy12 hc12_0 hf12_0 hc12_1 hf12_1;have HBE:=hid (bM HBE.out hm12 HG10.out);clear hHeld;refine hK.out _ _ (HSS.out _ HBE.out) fun hHeld => ?_;clear hK K;try simp only [Act.put,pE1,pE2,pE3]
    have HN11:=hid (nMa hm12 HN11.out HNE10_11.out);have HN10:=hid hv12;clear hv12 hm12;refine rd1 13 rfl fun K hK => ?_;obtain ⟨hc13_0,hf13_0,hc13_1,hf13_1⟩:=bx2 HN11.out;simp only [gE1,gE2,gE3];go_simp;obtain ⟨y13,hy13,hm13,hv13⟩:=st2 HN11.out (.int .i64 o.pl) (.int .i64 o.count);rw [hy13];clear hy13 hc13_0 hf13_0 hc13_1 hf13_1;have HBE:=hid (bM HBE.out hm13 HG11.out);clear hHeld;refine hK.out _ _ (HSS.out _ HBE.out) fun hHeld => ?_;clear hK K;try simp only [Act.put,pE1,pE2,pE3]
    have HN10:=hid (nMb hm13 HN10.out HNE10_11.out);have HN11:=hid hv13;clear hv13 hm13;refine wpAnyH_done (by kernel_rfl) ?_ _;have HEND:=hid hHeld.2;have HSE:=hid hHeld.1;clear hHeld;clear HSE HSS;go_wp2_with fail;go_meet;exact ⟨_,_,_,rfl,rfl,rfl,HG10.out,HG11.out,HNE10_11.out,HEND.out,HN10.out,HN11.out⟩
  ·skip
   simp only [gE1,gE2,gE3];go_simp;obtain ⟨b10,y10,hw10,hy10,hx10,HN10⟩:=al wd (.cells #[.int .i64 0,.map none] 84);rw [hy10,hw10];have HG10:Hid (w2.heap.size≤b10):=hid (by have:=HBE.out.size;omega);clear hy10 hw10;have HBE:=hid (bthen HBE.out hx10);clear hHeld;refine hK.out _ _ (HSS.out _ HBE.out) fun hHeld => ?_;clear hK K;try simp only [Act.put,pE1,pE2,pE3]
   clear hx10;refine rd2 8 11 rfl rfl (fun K hK => ?_) fun K hK => ?_
   ·skip
    simp only [gE1,gE2,gE3];go_simp;refine (CP.out _).mono ?_;rintro e w3 ⟨rfl,hb3⟩;dsimp only;have HBE:=hid (bthen HBE.out hb3);clear hHeld;refine hK.out _ _ (HSS.out _ HBE.out) fun hHeld => ?_;clear hK K;try simp only [Act.put,pE1,pE2,pE3]
    have HN10:=hid (nX hb3 HN10.out);have HC8:=hid hb3;clear hb3;refine tkA 9 rfl ?_;refine rd1 11 rfl fun K hK => ?_;simp only [gE1,gE2,gE3];go_simp;obtain ⟨b11,y11,hw11,hy11,hx11,HN11⟩:=al w3 (.cells #[.int .i64 0,.int .i64 0] 137);rw [hy11,hw11];have HG11:Hid (w2.heap.size≤b11):=hid (by have:=HBE.out.size;omega);have HNE10_11:Hid (b10≠b11):=hid (by have:=(hLT HN10.out);omega);clear hy11 hw11;have HBE:=hid (bthen HBE.out hx11);clear hHeld;refine hK.out _ _ (HSS.out _ HBE.out) fun hHeld => ?_;clear hK K;try simp only [Act.put,pE1,pE2,pE3]
    have HN10:=hid (nX hx11 HN10.out);clear hx11;refine rd1 12 rfl fun K hK => ?_;obtain ⟨hc12_0,hf12_0,hc12_1,hf12_1⟩:=bx2 HN10.out;simp only [gE1,gE2,gE3];go_simp;obtain ⟨y12,hy12,hm12,hv12⟩:=st2 HN10.out (.int .i64 (x.1.size:Int)) (.map (some x.2));rw [hy12];clear hy12 hc12_0 hf12_0 hc12_1 hf12_1;have HBE:=hid (bM HBE.out hm12 HG10.out);clear hHeld;refine hK.out _ _ (HSS.out _ HBE.out) fun hHeld => ?_;clear hK K;try simp only [Act.put,pE1,pE2,pE3]
    have HN11:=hid (nMa hm12 HN11.out HNE10_11.out);have HN10:=hid hv12;clear hv12 hm12;refine rd1 13 rfl fun K hK => ?_;obtain ⟨hc13_0,hf13_0,hc13_1,hf13_1⟩:=bx2 HN11.out;simp only [gE1,gE2,gE3];go_simp;obtain ⟨y13,hy13,hm13,hv13⟩:=st2 HN11.out (.int .i64 o.pl) (.int .i64 o.count);rw [hy13];clear hy13 hc13_0 hf13_0 hc13_1 hf13_1;have HBE:=hid (bM HBE.out hm13 HG11.out);clear hHeld;refine hK.out _ _ (HSS.out _ HBE.out) fun hHeld => ?_;clear hK K;try simp only [Act.put,pE1,pE2,pE3]
    have HN10:=hid (nMb hm13 HN10.out HNE10_11.out);have HN11:=hid hv13;clear hv13 hm13;refine wpAnyH_done (by kernel_rfl) ?_ _;have HEND:=hid hHeld.2;have HSE:=hid hHeld.1;clear hHeld;clear HSE HSS;go_wp2_with fail;go_meet;exact ⟨_,_,_,rfl,rfl,rfl,HG10.out,HG11.out,HNE10_11.out,HEND.out,HN10.out,HN11.out⟩
   ·skip
    simp only [gE1,gE2,gE3];go_simp;obtain ⟨b11,y11,hw11,hy11,hx11,HN11⟩:=al y10 (.cells #[.int .i64 0,.int .i64 0] 137);rw [hy11,hw11];have HG11:Hid (w2.heap.size≤b11):=hid (by have:=HBE.out.size;omega);have HNE10_11:Hid (b10≠b11):=hid (by have:=(hLT HN10.out);omega);clear hy11 hw11;have HBE:=hid (bthen HBE.out hx11);clear hHeld;refine hK.out _ _ (HSS.out _ HBE.out) fun hHeld => ?_;clear hK K;try simp only [Act.put,pE1,pE2,pE3]
    have HN10:=hid (nX hx11 HN10.out);clear hx11;refine rd1 8 rfl fun K hK => ?_;simp only [gE1,gE2,gE3];go_simp;refine (CP.out _).mono ?_;rintro e w3 ⟨rfl,hb3⟩;dsimp only;have HBE:=hid (bthen HBE.out hb3);clear hHeld;refine hK.out _ _ (HSS.out _ HBE.out) fun hHeld => ?_;clear hK K;try simp only [Act.put,pE1,pE2,pE3]
    have HN10:=hid (nX hb3 HN10.out);have HN11:=hid (nX hb3 HN11.out);have HC8:=hid hb3;clear hb3;refine tkA 9 rfl ?_;refine rd1 12 rfl fun K hK => ?_;obtain ⟨hc12_0,hf12_0,hc12_1,hf12_1⟩:=bx2 HN10.out;simp only [gE1,gE2,gE3];go_simp;obtain ⟨y12,hy12,hm12,hv12⟩:=st2 HN10.out (.int .i64 (x.1.size:Int)) (.map (some x.2));rw [hy12];clear hy12 hc12_0 hf12_0 hc12_1 hf12_1;have HBE:=hid (bM HBE.out hm12 HG10.out);clear hHeld;refine hK.out _ _ (HSS.out _ HBE.out) fun hHeld => ?_;clear hK K;try simp only [Act.put,pE1,pE2,pE3]
    have HN11:=hid (nMa hm12 HN11.out HNE10_11.out);have HN10:=hid hv12;clear hv12 hm12;refine rd1 13 rfl fun K hK => ?_;obtain ⟨hc13_0,hf13_0,hc13_1,hf13_1⟩:=bx2 HN11.out;simp only [gE1,gE2,gE3];go_simp;obtain ⟨y13,hy13,hm13,hv13⟩:=st2 HN11.out (.int .i64 o.pl) (.int .i64 o.count);rw [hy13];clear hy13 hc13_0 hf13_0 hc13_1 hf13_1;have HBE:=hid (bM HBE.out hm13 HG11.out);clear hHeld;refine hK.out _ _ (HSS.out _ HBE.out) fun hHeld => ?_;clear hK K;try simp only [Act.put,pE1,pE2,pE3]
    have HN10:=hid (nMb hm13 HN10.out HNE10_11.out);have HN11:=hid hv13;clear hv13 hm13;refine wpAnyH_done (by kernel_rfl) ?_ _;have HEND:=hid hHeld.2;have HSE:=hid hHeld.1;clear hHeld;clear HSE HSS;go_wp2_with fail;go_meet;exact ⟨_,_,_,rfl,rfl,rfl,HG10.out,HG11.out,HNE10_11.out,HEND.out,HN10.out,HN11.out⟩
  ·skip
   simp only [gE1,gE2,gE3];go_simp;obtain ⟨b11,y11,hw11,hy11,hx11,HN11⟩:=al wd (.cells #[.int .i64 0,.int .i64 0] 137);rw [hy11,hw11];have HG11:Hid (w2.heap.size≤b11):=hid (by have:=HBE.out.size;omega);clear hy11 hw11;have HBE:=hid (bthen HBE.out hx11);clear hHeld;refine hK.out _ _ (HSS.out _ HBE.out) fun hHeld => ?_;clear hK K;try simp only [Act.put,pE1,pE2,pE3]
   clear hx11;refine rd2 8 10 rfl rfl (fun K hK => ?_) fun K hK => ?_
   ·skip
    simp only [gE1,gE2,gE3];go_simp;refine (CP.out _).mono ?_;rintro e w3 ⟨rfl,hb3⟩;dsimp only;have HBE:=hid (bthen HBE.out hb3);clear hHeld;refine hK.out _ _ (HSS.out _ HBE.out) fun hHeld => ?_;clear hK K;try simp only [Act.put,pE1,pE2,pE3]
    have HN11:=hid (nX hb3 HN11.out);have HC8:=hid hb3;clear hb3;refine tkA 9 rfl ?_;refine rd1 10 rfl fun K hK => ?_;simp only [gE1,gE2,gE3];go_simp;obtain ⟨b10,y10,hw10,hy10,hx10,HN10⟩:=al w3 (.cells #[.int .i64 0,.map none] 84);rw [hy10,hw10];have HG10:Hid (w2.heap.size≤b10):=hid (by have:=HBE.out.size;omega);have HNE10_11:Hid (b10≠b11):=hid (by have:=(hLT HN11.out);omega);clear hy10 hw10;have HBE:=hid (bthen HBE.out hx10);clear hHeld;refine hK.out _ _ (HSS.out _ HBE.out) fun hHeld => ?_;clear hK K;try simp only [Act.put,pE1,pE2,pE3]
    have HN11:=hid (nX hx10 HN11.out);clear hx10;refine rd1 12 rfl fun K hK => ?_;obtain ⟨hc12_0,hf12_0,hc12_1,hf12_1⟩:=bx2 HN10.out;simp only [gE1,gE2,gE3];go_simp;obtain ⟨y12,hy12,hm12,hv12⟩:=st2 HN10.out (.int .i64 (x.1.size:Int)) (.map (some x.2));rw [hy12];clear hy12 hc12_0 hf12_0 hc12_1 hf12_1;have HBE:=hid (bM HBE.out hm12 HG10.out);clear hHeld;refine hK.out _ _ (HSS.out _ HBE.out) fun hHeld => ?_;clear hK K;try simp only [Act.put,pE1,pE2,pE3]
    have HN11:=hid (nMa hm12 HN11.out HNE10_11.out);have HN10:=hid hv12;clear hv12 hm12;refine rd1 13 rfl fun K hK => ?_;obtain ⟨hc13_0,hf13_0,hc13_1,hf13_1⟩:=bx2 HN11.out;simp only [gE1,gE2,gE3];go_simp;obtain ⟨y13,hy13,hm13,hv13⟩:=st2 HN11.out (.int .i64 o.pl) (.int .i64 o.count);rw [hy13];clear hy13 hc13_0 hf13_0 hc13_1 hf13_1;have HBE:=hid (bM HBE.out hm13 HG11.out);clear hHeld;refine hK.out _ _ (HSS.out _ HBE.out) fun hHeld => ?_;clear hK K;try simp only [Act.put,pE1,pE2,pE3]
    have HN10:=hid (nMb hm13 HN10.out HNE10_11.out);have HN11:=hid hv13;clear hv13 hm13;refine wpAnyH_done (by kernel_rfl) ?_ _;have HEND:=hid hHeld.2;have HSE:=hid hHeld.1;clear hHeld;clear HSE HSS;go_wp2_with fail;go_meet;exact ⟨_,_,_,rfl,rfl,rfl,HG10.out,HG11.out,HNE10_11.out,HEND.out,HN10.out,HN11.out⟩
   ·skip
    simp only [gE1,gE2,gE3];go_simp;obtain ⟨b10,y10,hw10,hy10,hx10,HN10⟩:=al y11 (.cells #[.int .i64 0,.map none] 84);rw [hy10,hw10];have HG10:Hid (w2.heap.size≤b10):=hid (by have:=HBE.out.size;omega);have HNE10_11:Hid (b10≠b11):=hid (by have:=(hLT HN11.out);omega);clear hy10 hw10;have HBE:=hid (bthen HBE.out hx10);clear hHeld;refine hK.out _ _ (HSS.out _ HBE.out) fun hHeld => ?_;clear hK K;try simp only [Act.put,pE1,pE2,pE3]
    have HN11:=hid (nX hx10 HN11.out);clear hx10;refine rd1 8 rfl fun K hK => ?_;simp only [gE1,gE2,gE3];go_simp;refine (CP.out _).mono ?_;rintro e w3 ⟨rfl,hb3⟩;dsimp only;have HBE:=hid (bthen HBE.out hb3);clear hHeld;refine hK.out _ _ (HSS.out _ HBE.out) fun hHeld => ?_;clear hK K;try simp only [Act.put,pE1,pE2,pE3]
    have HN11:=hid (nX hb3 HN11.out);have HN10:=hid (nX hb3 HN10.out);have HC8:=hid hb3;clear hb3;refine tkA 9 rfl ?_;refine rd1 12 rfl fun K hK => ?_;obtain ⟨hc12_0,hf12_0,hc12_1,hf12_1⟩:=bx2 HN10.out;simp only [gE1,gE2,gE3];go_simp;obtain ⟨y12,hy12,hm12,hv12⟩:=st2 HN10.out (.int .i64 (x.1.size:Int)) (.map (some x.2));rw [hy12];clear hy12 hc12_0 hf12_0 hc12_1 hf12_1;have HBE:=hid (bM HBE.out hm12 HG10.out);clear hHeld;refine hK.out _ _ (HSS.out _ HBE.out) fun hHeld => ?_;clear hK K;try simp only [Act.put,pE1,pE2,pE3]
    have HN11:=hid (nMa hm12 HN11.out HNE10_11.out);have HN10:=hid hv12;clear hv12 hm12;refine rd1 13 rfl fun K hK => ?_;obtain ⟨hc13_0,hf13_0,hc13_1,hf13_1⟩:=bx2 HN11.out;simp only [gE1,gE2,gE3];go_simp;obtain ⟨y13,hy13,hm13,hv13⟩:=st2 HN11.out (.int .i64 o.pl) (.int .i64 o.count);rw [hy13];clear hy13 hc13_0 hf13_0 hc13_1 hf13_1;have HBE:=hid (bM HBE.out hm13 HG11.out);clear hHeld;refine hK.out _ _ (HSS.out _ HBE.out) fun hHeld => ?_;clear hK K;try simp only [Act.put,pE1,pE2,pE3]
    have HN10:=hid (nMb hm13 HN10.out HNE10_11.out);have HN11:=hid hv13;clear hv13 hm13;refine wpAnyH_done (by kernel_rfl) ?_ _;have HEND:=hid hHeld.2;have HSE:=hid hHeld.1;clear hHeld;clear HSE HSS;go_wp2_with fail;go_meet;exact ⟨_,_,_,rfl,rfl,rfl,HG10.out,HG11.out,HNE10_11.out,HEND.out,HN10.out,HN11.out⟩
 case rest =>
  obtain ⟨W,b7,b8,rfl,rfl,rfl,hg7,hg8,hne,hbw,hn7,hn8⟩:=hcut;obtain ⟨pn,hpn⟩:∃ pn:Nat,o.pl=(pn:Int):=⟨o.pl.toNat,by have:=HPL.out;omega⟩
  obtain ⟨cn,hcn⟩:∃ cn:Nat,o.count=(cn:Int):=⟨o.count.toNat,by have:=HCT.out;omega⟩
  have hp1:pn≤1048576:=by have:=HPL.out;omega
  have hc1:cn≤1024:=by have:=HCT.out;omega
  rw [hpn,hcn] at hn8;have HE:Hid (dropA o.pl (o.pl+o.count) x.1.m=dropA (pn:Int) (((pn+cn:Nat)):Int) x.1.m):=hid (by rw [hpn,hcn];rfl);clear hpn hcn HPL HCT HPV CP;have HBW:=hid hbw;have HN7:=hid hn7;have HN8:=hid hn8;have HDW:=hid (HD2.out.below hbw);have HG7:=hid hg7;have HG8:=hid hg8;have HML:=hid (HDW.out.vol _ (getA_some HG.out));have HXB:Hid (x.2<w.heap.size):=hid ((HH.out.vol _ (getA_some HG.out)).lt);have HA2:=hid ((hbw.block _ (hLT HBX.out.ans)).trans HBX.out.ans);have HSW:=hid HBX.out.sz
  have c80:=cellOf hn8 0 (v:=.int .i64 (pn:Int)) rfl;clear hbw hn7 hn8 hg7 hg8 hne HLK HX2 HLT;go_wp2_with fail;clear c80 t1
  go_loopw [9] (fun i wr=>∃ j:Nat,pn≤j∧j≤pn+cn∧i = .int .i64 (j:Int)∧MapL wr Tryz.prog 3 RBlk .i64 blkD x.2 (dropA (pn:Int) (j:Int) x.1.m)∧Mods [x.2] W wr) (fun i _=>pn+cn - (intOf i).toNat)
  case atStart=>exact ⟨pn,Nat.le_refl _,by omega,rfl,by rw [dropA_none];exact HML.out,Mods.refl _ _⟩
  case round =>
   obtain ⟨j,hj1,hj2,rfl,hml,hmod⟩:=hrel;have HM:=hid hml;have HMO:=hid hmod;have HR7:=hid ((hmod.block b7 (hLT HN7.out) (by have:=HXB.out;have:=HG7.out;have:=HSW.out;simp;omega)).trans HN7.out);have HR8:=hid ((hmod.block b8 (hLT HN8.out) (by have:=HXB.out;have:=HG8.out;have:=HSW.out;simp;omega)).trans HN8.out);have c80:=cellOf HR8.out 0 (v:=.int .i64 (pn:Int)) rfl;have c81:=cellOf HR8.out 1 (v:=.int .i64 (cn:Int)) rfl;have c71:=cellOf HR7.out 1 (v:=.map (some x.2)) rfl;clear hml hmod
   by_cases hlt:j<pn+cn
   ·obtain ⟨w5,hdel,hml5,hmod5⟩:=HM.out.del undInt undBlks (wfI64 (n:=j) (by omega)) 0
    have HM5:=hid hml5;have HO5:=hid hmod5;clear hml5 hmod5;go_wp2_with fail;go_round
    case rel=>exact ⟨j+1,by omega,by omega,by go_num,by rw [show (((j+1:Nat)):Int)=(j:Int)+1 from rfl,← dropA_del _ _ (by omega)];exact HM5.out,HMO.out.trans HO5.out (fun i hi=>.inl hi)⟩
    case measure=>simp [intOf];omega
   ·obtain rfl:j=pn+cn:=by omega
    have hne1:w.heap.size+1∉[x.2]:=by have:=HXB.out;simp;omega
    have hxa:=(HMO.out.block _ (hLT HA2.out) hne1).trans HA2.out;have HXA:=hid hxa;have e0:=cellOf hxa 0 (v:=.int .i64 0) rfl;have e1:=cellOf hxa 1 (v:=.int .i64 0) rfl;have e2:=cellOf hxa 2 (v:=.slice none 0 0) rfl;have f0:=frozenOf hxa 0;have f1:=frozenOf hxa 1;have f2:=frozenOf hxa 2;clear hxa hne1 hlt;go_wp2_with fail;obtain ⟨hx4,hm4⟩:=set3 (x:=.int .i64 0) (y:=.int .i64 0) (z:=.slice none 0 0) HXA.out
    have HD5:=HDW.out.volAt (n:=o.vol) (v:=x.1) (b:=x.2) (m:=dropA (pn:Int) ((pn+cn:Nat):Int) x.1.m) HG.out HM.out HMO.out (dropA_ok (HDW.out.ok.vol (o.vol,x.1) (by unfold strip mapA;exact List.mem_map.2 ⟨_,getA_some HG.out,rfl⟩)) _ _);rw [← HE.out] at HD5;refine bodyPost_ret (v:=ansE 0 0) (resAns rfl _ _ _ _ _ _ rfl hx4) rfl ⟨rfl,HD5.kept hm4 (fun hh => ?_) (fun k hk hh => ?_),?_⟩
    ·have:B=w.heap.size+1:=by simpa using hh
     have:=HH.out.lt;omega
    ·have e:k=w.heap.size+1:=by simpa using hh
     subst e
     rcases List.mem_cons.1 hk with e2 | hk2
     ·have:=HH.out.all.lt
      omega
     ·obtain ⟨p,hp,he⟩:=List.mem_map.1 hk2
      rcases mem_putA hp with rfl | hp
      ·have he2:x.2=w.heap.size+1:=he
       have:=HXB.out;omega
      ·have:=(HH.out.vol p hp).lt
       omega
    ·exact (((Mods.of_below (bthen HBX.out.bel HBW.out)).trans HMO.out (fun i hi=>.inl hi))).trans hm4 (fun i hi=>.inr (by
      have:i=w.heap.size+1:=by simpa using hi
      omega))
end Go.Proofs.YthkmihedkddnmaaGreat
