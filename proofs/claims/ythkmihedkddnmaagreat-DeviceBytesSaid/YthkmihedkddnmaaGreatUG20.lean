import Derived.Test.YthkmihedkddnmaaGreatUG16
import Derived.Test.YthkmihedkddnmaaGreatUG19
import Derived.Test.YthkmihedkddnmaaGreatUG2
set_option linter.unusedVariables false
set_option linter.unusedSimpArgs false
set_option maxHeartbeats 6400000
set_option maxRecDepth 100000
namespace Go.Proofs.YthkmihedkddnmaaGreat
open Go.RowKit Go.Maps Wire Cmd
def ansV (a:Ans0) (sv:Value):Value:=.agg #[.int .i64 a.code,.int .i64 a.done,sv]
def PartP (n0:Nat) (w:World) (B Ba:Nat) (l:List (Nat × (Vl × Nat))) (r:Ans0 × List (Nat × Vl)) (e:Ending) (w':World):Prop :=
 ∃ sv l',e = .returned (ansV r.1 sv)∧DevAt n0 w' B Ba l'∧strip l'=r.2∧w'.ownsRow w.heap.size 5 1 sv r.1.data.length (bV r.1.data)∧Chg (dF Ba l) w w' (dF Ba l')
theorem PartP.plain {n0:Nat} {w w':World} {B Ba:Nat} {l l':List (Nat × (Vl × Nat))} {c d:Int} {l2:List (Nat × Vl)} (hd:DevAt n0 w' B Ba l') (hs:strip l'=l2) (hc:Chg (dF Ba l) w w' (dF Ba l')):PartP n0 w B Ba l (⟨c,d,[]⟩,l2) (.returned (ansE c d)) w' :=
 ⟨.slice none 0 0,l',rfl,hd,hs,World.ownsRow_nil _ _ _ _,hc⟩
theorem dF_put {Ba:Nat} {l:List (Nat × (Vl × Nat))} {n:Nat} {v:Vl} {b:Nat}:∀ k∈dF Ba (putA n (v,b) l),k∈dF Ba l∨k=b:=by
 intro k hk
 rcases List.mem_cons.1 hk with rfl | hk
 ·exact .inl (List.mem_cons_self ..)
 ·obtain ⟨p,hp,rfl⟩:=List.mem_map.1 hk
  rcases mem_putA hp with rfl | hp
  ·exact .inr rfl
  ·exact .inl (List.mem_cons_of_mem _ (List.mem_map.2 ⟨p,hp,rfl⟩))
theorem dF_mem {Ba:Nat} {l:List (Nat × (Vl × Nat))} {n:Nat} {x:Vl × Nat} (hg:getA n l=some x):x.2∈dF Ba l:=List.mem_cons_of_mem _ (List.mem_map.2 ⟨_,getA_some hg,rfl⟩)
theorem strip_put (n:Nat) (v:Vl) (b:Nat) (l:List (Nat × (Vl × Nat))):strip (putA n (v,b) l)=putA n v (strip l):=(putA_map (fun x:Vl × Nat=>x.1) n (v,b) l).symm
theorem strip_del (n:Nat) (l:List (Nat × (Vl × Nat))):strip (delA n l)=delA n (strip l):=(delA_map _ _ _).symm
theorem ref0_may {l:List (Nat × Vl)} {o:Op0} (h:refD l o=0):mayO o=true:=by
 cases hm:mayO o with
 | true=>rfl
 | false=>unfold refD at h;rw [if_pos hm] at h;omega
theorem ref0_vol {l:List (Nat × Vl)} {o:Op0} (h:refD l o=0) (h8:o.k≠8) (h1:o.k≠1):∃ v,getA o.vol l=some v:=by
 cases hg:getA o.vol l with
 | some v=>exact ⟨v,rfl⟩
 | none =>
  unfold refD at h;rw [if_neg (by rw [ref0_may h];simp),if_neg h8,if_neg h1,hg] at h
  cases h
theorem ref0_row {l:List (Nat × Vl)} {o:Op0} (h:refD l o=0) (hk:o.k=5∨o.k=6∨o.k=9) {v:Vl} (hg:getA o.vol l=some v):o.pl+rowC o≤4 * (v.size:Int):=by
 unfold refD at h;rw [if_neg (by rw [ref0_may h];simp),if_neg (by omega),if_neg (by omega),hg] at h;dsimp only at h;rw [if_neg (by omega),if_pos hk] at h
 split at h <;> omega
def fnK (k:Int):Nat :=
 if k=1 then 41 else if k=2 then 42 else if k=3 then 43 else if k=4 then 44
 else if k=5∨k=6 then 45 else if k=7 then 46 else 47
theorem dop_at (n0:Nat) (w:World) (B Ba:Nat) (l:List (Nat × (Vl × Nat))) (h:DevAt n0 w B Ba l) (o:Op0) (ok:o.Ok) (ao:Option Addr) (cap:Nat) (b:Int) (hbb : -9223372036854775808≤b∧b≤9223372036854775807)
  (hd:Rd w 1 (.slice ao o.data.length cap) o.data.length (bV o.data)) (hr:refD (strip l) o=0) (h8:o.k≠8) :
  Calls Tryz.prog (fnK o.k) #[.pointer (some ⟨B,0,none⟩),.agg (oC o (.slice ao o.data.length cap)),.int .i64 b] w fun e w'=>PartP n0 w B Ba l (stepD (strip l) o b) e w':=by
 have hmay:=ref0_may hr;have hn:o.data.length≤9223372036854775807:=by obtain ⟨_,_,_,_,hm,_⟩:=hd;unfold maxLen at hm;omega
 have hkind:=may_kind hmay;unfold stepD fnK;rw [if_neg (show ¬ (refD (strip l) o≠0) from by omega)]
 by_cases h1:o.k=1
 ·rw [if_pos h1,if_pos h1]
  refine (dcreate_at n0 w B Ba l h o ao cap b hn hmay h1).mono fun e w' ⟨he,b',hd',hm,hb'⟩ => ?_;subst he;refine PartP.plain hd' (strip_put _ _ _ _) ⟨hm.mono (by intro k hk;rw [List.mem_singleton.1 hk];exact List.mem_cons_self ..),fun k hk => ?_⟩
  rcases dF_put k hk with h | rfl
  ·exact .inl h
  ·exact .inr hb'
 rw [if_neg h1,if_neg h1]
 by_cases h2:o.k=2
 ·rw [if_pos h2,if_pos h2]
  refine (ddrop_at n0 w B Ba l h o ao o.data.length cap b ok.vol).mono fun e w' ⟨he,hd',hm⟩ => ?_;subst he;refine PartP.plain hd' (strip_del _ _) ⟨hm.mono (by intro k hk;rw [List.mem_singleton.1 hk];exact List.mem_cons_self ..),fun k hk=>.inl ?_⟩
  rcases List.mem_cons.1 hk with rfl | hk
  ·exact List.mem_cons_self ..
  ·obtain ⟨p,hp,rfl⟩:=List.mem_map.1 hk
   exact List.mem_cons_of_mem _ (List.mem_map.2 ⟨p,(List.mem_filter.1 hp).1,rfl⟩)
 rw [if_neg h2,if_neg h2];obtain ⟨v,hv⟩:=ref0_vol hr h8 h1;obtain ⟨x,hg,rfl⟩:∃ x,getA o.vol l=some x∧x.1=v:=by
  rw [getA_strip] at hv;obtain ⟨x,hx,e⟩:=Option.map_eq_some_iff.1 hv;exact ⟨x,hx,e⟩
 rw [hv];dsimp only;have hput:∀ {w':World} {m:List (Nat × List UInt8)} {s:Nat} {F:List Nat},Mods F w w'→(∀ k∈F,k∈dF Ba l)→Chg (dF Ba l) w w' (dF Ba (putA o.vol (⟨s,m⟩,x.2) l)):=fun hm hF =>
  ⟨hm.mono hF,fun k hk=>by
   rcases dF_put k hk with h | rfl
   ·exact .inl h
   ·exact .inl (dF_mem hg)⟩
 have h1x:∀ k∈[x.2],k∈dF Ba l:=fun k hk=>by rw [List.mem_singleton.1 hk];exact dF_mem hg
 by_cases h3:o.k=3
 ·rw [if_pos h3,if_pos h3]
  refine (dresize_at n0 w B Ba l h o ao cap b hn hmay h3 x hg).mono fun e w' ⟨he,hd',hm⟩ => ?_;subst he;exact PartP.plain hd' (strip_put _ _ _ _) (hput hm (fun k hk=>by
   rcases List.mem_cons.1 hk with rfl | hk
   ·exact List.mem_cons_self ..
   ·exact h1x k hk))
 rw [if_neg h3,if_neg h3]
 by_cases h4:o.k=4
 ·rw [if_pos h4,if_pos h4]
  refine (dsnap_at n0 w B Ba l h o ao cap b hn hmay h4 x hg).mono fun e w' ⟨he,b',hd',hm,hb'⟩ => ?_;subst he;refine PartP.plain hd' (strip_put _ _ _ _) ⟨hm.mono (by intro k hk;rw [List.mem_singleton.1 hk];exact List.mem_cons_self ..),fun k hk => ?_⟩
  rcases dF_put k hk with h | rfl
  ·exact .inl h
  ·exact .inr hb'
 rw [if_neg h4,if_neg h4]
 by_cases h5:o.k=5∨o.k=6
 ·rw [if_pos h5,if_pos h5]
  refine (dput_at n0 w B Ba l h o ao cap b hd hmay h5 x hg (ref0_row hr (by omega) hv) hbb).mono fun e w' ⟨he,hd',hm⟩ => ?_;subst he;unfold putR
  split
  ·exact PartP.plain hd' (strip_put _ _ _ _) (hput hm h1x)
  ·exact PartP.plain hd' (strip_put _ _ _ _) (hput hm h1x)
 rw [if_neg h5,if_neg h5]
 by_cases h7:o.k=7
 ·rw [if_pos h7,if_pos h7]
  refine (ddiscard_at n0 w B Ba l h o ao cap b hn hmay h7 x hg).mono fun e w' ⟨he,hd',hm⟩ => ?_;subst he;exact PartP.plain hd' (strip_put _ _ _ _) (hput hm h1x)
 rw [if_neg h7,if_neg h7];have h9:o.k=9:=by omega
 rw [if_pos h9];have hrow:=ref0_row hr (by omega) hv;have hrc:rowC o=o.count:=by unfold rowC;rw [if_neg (by omega)]
 rw [hrc] at hrow;refine (dread_at n0 w B Ba l h o ao cap b hn hmay h9 x hg hrow).mono fun e w' ⟨sv,he,ho,hb⟩ => ?_;exact ⟨sv,l,he,h.below hb,rfl,ho,Chg.of_below hb⟩
end Go.Proofs.YthkmihedkddnmaaGreat
namespace Go.Proofs.YthkmihedkddnmaaGreat
open Lib (hid)
open Go.RowKit Go.Maps Wire Cmd
def fnD (n:Nat):DataW Unit:=.lit (.int .i64 (n:Int))
def RFn (v:Value):Option (DataW Unit × List MemPlace) :=
 match v with
 | .func (.func n) ⟨[]⟩ ⟨[]⟩=>some (fnD n,[])
 | .nilFunc=>some (.lit (.int .i64 (-1)),[])
 | _=>none
theorem RFn_mk (n:Nat):RFn (.func (.func n) #[] #[])=some (fnD n,[]):=rfl
theorem RFn_inv {v:Value} {n:Nat} {ps:List MemPlace} (h:RFn v=some (fnD n,ps)):v = .func (.func n) #[] #[]:=by
 unfold RFn at h
 split at h
 ·rename_i k
  have h1:=(Lit.int.inj (DataW.lit.inj (Prod.mk.inj (Option.some.inj h)).1)).2;have e:k=n:=Int.ofNat_inj.1 h1;rw [e]
 ·have h1:(-1:Int)=(n:Int):=(Lit.int.inj (DataW.lit.inj (Prod.mk.inj (Option.some.inj h)).1)).2
  omega
 ·cases h
theorem undKind:Tryz.prog.underlying 37=some (.int .i64):=Tryz.underlying37
theorem undFns:Tryz.prog.underlying 92=some (.map 37 91):=by kernel_rfl
theorem zeroFn (w:World):(zeroValue 91).run Tryz.prog w = .ok .nilFunc w:=by kernel_rfl
def tbl:List (Nat × Nat):=putA 9 47 (putA 7 46 (putA 6 45 (putA 5 45 (putA 4 44
 (putA 3 43 (putA 2 42 (putA 1 41 [])))))))
theorem tbl_get {k:Nat} (h1:1≤k) (h9:k≤9) (h8:k≠8):getA k tbl=some (fnK (k:Int)):=by
 obtain rfl | rfl | rfl | rfl | rfl | rfl | rfl | rfl:k=1∨k=2∨k=3∨k=4∨k=5∨k=6∨k=7∨k=9:=by omega
 all_goals rfl
theorem enters_fnK (k:Int):∀ args w,(callFunc (fnK k) args).run Tryz.prog w = .ok (.enter (fnK k) args) w:=by
 unfold fnK
 (repeat' split)
 ·exact enters_of Tryz.func41 (by kernel_rfl) rfl
 ·exact enters_of Tryz.func42 (by kernel_rfl) rfl
 ·exact enters_of Tryz.func43 (by kernel_rfl) rfl
 ·exact enters_of Tryz.func44 (by kernel_rfl) rfl
 ·exact enters_of Tryz.func45 (by kernel_rfl) rfl
 ·exact enters_of Tryz.func46 (by kernel_rfl) rfl
 ·exact enters_of Tryz.func47 (by kernel_rfl) rfl
structure Tbl (w v0 v1 v2 v3 v4 v5 v6 v7 v8:World) (bm:Nat):Prop where
 h0:w.alloc (.map #[] 0)=v0
 hb:w.heap.size=bm
 u1:(Instr.mapUpdate 92 (.map (some bm)) (.int .i64 1) (.func (.func 41) #[] #[])).run Tryz.prog v0 = .ok () v1
 u2:(Instr.mapUpdate 92 (.map (some bm)) (.int .i64 2) (.func (.func 42) #[] #[])).run Tryz.prog v1 = .ok () v2
 u3:(Instr.mapUpdate 92 (.map (some bm)) (.int .i64 3) (.func (.func 43) #[] #[])).run Tryz.prog v2 = .ok () v3
 u4:(Instr.mapUpdate 92 (.map (some bm)) (.int .i64 4) (.func (.func 44) #[] #[])).run Tryz.prog v3 = .ok () v4
 u5:(Instr.mapUpdate 92 (.map (some bm)) (.int .i64 5) (.func (.func 45) #[] #[])).run Tryz.prog v4 = .ok () v5
 u6:(Instr.mapUpdate 92 (.map (some bm)) (.int .i64 6) (.func (.func 45) #[] #[])).run Tryz.prog v5 = .ok () v6
 u7:(Instr.mapUpdate 92 (.map (some bm)) (.int .i64 7) (.func (.func 46) #[] #[])).run Tryz.prog v6 = .ok () v7
 u8:(Instr.mapUpdate 92 (.map (some bm)) (.int .i64 9) (.func (.func 47) #[] #[])).run Tryz.prog v7 = .ok () v8
 bel:Below w.heap.size w v8
 map:MapL v8 Tryz.prog 37 RFn .i64 fnD bm tbl
theorem tbl_at (w:World):∃ v0 v1 v2 v3 v4 v5 v6 v7 v8 bm,Tbl w v0 v1 v2 v3 v4 v5 v6 v7 v8 bm:=by
 have m0:=mapL_new w Tryz.prog 37 RFn .i64 fnD;have hb0:Below w.heap.size w (w.alloc (.map #[] 0)):=balloc (Below.refl _ _) _;have hs:∀ {X Y:World},Below w.heap.size w X→Mods [w.heap.size] X Y→Below w.heap.size w Y:=fun hX hm=>hX.trans (hm.below (fun k hk=>by rw [List.mem_singleton.1 hk];exact Nat.le_refl _) hX.size);obtain ⟨v1,u1,m1,f1⟩:=m0.put undKind undFns (by unfold maxLen;decide) (wfI64 (n:=1) (by decide)) (RFn_mk 41);obtain ⟨v2,u2,m2,f2⟩:=m1.put undKind undFns (by unfold maxLen;decide) (wfI64 (n:=2) (by decide)) (RFn_mk 42)
 obtain ⟨v3,u3,m3,f3⟩:=m2.put undKind undFns (by unfold maxLen;decide) (wfI64 (n:=3) (by decide)) (RFn_mk 43);obtain ⟨v4,u4,m4,f4⟩:=m3.put undKind undFns (by unfold maxLen;decide) (wfI64 (n:=4) (by decide)) (RFn_mk 44);obtain ⟨v5,u5,m5,f5⟩:=m4.put undKind undFns (by unfold maxLen;decide) (wfI64 (n:=5) (by decide)) (RFn_mk 45);obtain ⟨v6,u6,m6,f6⟩:=m5.put undKind undFns (by unfold maxLen;decide) (wfI64 (n:=6) (by decide)) (RFn_mk 45);obtain ⟨v7,u7,m7,f7⟩:=m6.put undKind undFns (by unfold maxLen;decide) (wfI64 (n:=7) (by decide)) (RFn_mk 46)
 obtain ⟨v8,u8,m8,f8⟩:=m7.put undKind undFns (by unfold maxLen;decide) (wfI64 (n:=9) (by decide)) (RFn_mk 47);exact ⟨_,v1,v2,v3,v4,v5,v6,v7,v8,_,rfl,rfl,u1,u2,u3,u4,u5,u6,u7,u8,hs (hs (hs (hs (hs (hs (hs (hs hb0 f1) f2) f3) f4) f5) f6) f7) f8,m8⟩
theorem stepD_8 {l:List (Nat × Vl)} {o:Op0} (h:refD l o=0) (hk:o.k=8) (b:Int):stepD l o b=(⟨0,0,[]⟩,l):=by
 unfold stepD;rw [if_neg (by omega),if_neg (by omega),if_neg (by omega)]
 cases getA o.vol l with
 | none=>rfl
 | some v =>
  dsimp only;rw [if_neg (by omega),if_neg (by omega),if_neg (by omega),if_neg (by omega),if_neg (by omega)]
theorem dpart_at (n0:Nat) (w:World) (B Ba:Nat) (l:List (Nat × (Vl × Nat))) (h:DevAt n0 w B Ba l) (o:Op0) (ok:o.Ok) (ao:Option Addr) (cap:Nat) (b:Int) (hbb : -9223372036854775808≤b∧b≤9223372036854775807)
  (hd:Rd w 1 (.slice ao o.data.length cap) o.data.length (bV o.data)) :
  Calls Tryz.prog 18 #[.pointer (some ⟨B,0,none⟩),.agg (oC o (.slice ao o.data.length cap)),.int .i64 b] w fun e w'=>PartP n0 w B Ba l (stepD (strip l) o b) e w':=by
 have HH:=hid h;have CR:Hid (∀ X,Below w.heap.size w X→Calls Tryz.prog 40 #[.pointer (some ⟨B,0,none⟩),.agg (oC o (.slice ao o.data.length cap))] X fun e w'=>e = .returned (.int .i64 (refD (strip l) o))∧Below X.heap.size X w'):=hid (fun X hX=>drefused_at n0 X B Ba l (h.below hX) o ok ao cap (hd.below hX))
 have CO:Hid (∀ X,Below w.heap.size w X→refD (strip l) o=0→o.k≠8→Calls Tryz.prog (fnK o.k) #[.pointer (some ⟨B,0,none⟩),.agg (oC o (.slice ao o.data.length cap)),.int .i64 b] X fun e w'=>PartP n0 X B Ba l (stepD (strip l) o b) e w'):=hid (fun X hX h0 h8=>dop_at n0 X B Ba l (h.below hX) o ok ao cap b hbb (hd.below hX) h0 h8);obtain ⟨sl,hsl⟩:∃ s,Value.slice ao o.data.length cap=s:=⟨_,rfl⟩
 rw [hsl] at CR CO ⊢;clear hsl h hd;obtain ⟨w2,hw2⟩:∃ W,(w.alloc (.cells #[.int .i64 o.k,.int .u64 (o.vol:Int),.int .u64 (o.to:Int),.int .i64 o.size,.int .i64 o.pl,.int .i64 o.count,sl] 40)).alloc (.cells #[.int .i64 0,.int .i64 0,.slice none 0 0] 35)=W:=⟨_,rfl⟩
 have HBX:Hid (Boxes w w2 (oC o sl)):=hid (by rw [← hw2];exact boxes w (oC o sl));obtain ⟨c0,c1,c2,c3,c4,c5,c6⟩:=op7 HBX.out.op;rw [show (oC o sl)=#[.int .i64 o.k,.int .u64 (o.vol:Int),.int .u64 (o.to:Int),.int .i64 o.size,.int .i64 o.pl,.int .i64 o.count,sl] from rfl]
 go_enter Tryz.func18,Tryz.ntmps18
 go_wp2_with fail;refine (CR.out _ HBX.out.bel).mono ?_;rintro e w3 ⟨rfl,hb3⟩;dsimp only;have HB3:=hid (bthen HBX.out.bel hb3);have HX3:=hid ((hb3.block _ (hLT HBX.out.op)).trans HBX.out.op);have HA3:=hid ((hb3.block _ (hLT HBX.out.ans)).trans HBX.out.ans);clear c0 c1 c2 c3 c4 c5 c6 hw2 hb3
 by_cases hr:refD (strip l) o=0
 ·have HR:=hid hr
  rw [hr];clear hr;obtain ⟨v0,v1,v2,v3,v4,v5,v6,v7,v8,bm,T⟩:=tbl_at w3;have HT:=hid T;obtain ⟨th0,thb,u1,u2,u3,u4,u5,u6,u7,u8,tbel,tmap⟩:=T;have HB8:=hid (bthen HB3.out tbel);have HX8:=hid ((tbel.block _ (hLT HX3.out)).trans HX3.out);have HA8:=hid ((tbel.block _ (hLT HA3.out)).trans HA3.out);have HKD:Hid (1≤o.k∧o.k≤9):=hid (may_kind (ref0_may HR.out));obtain ⟨kn,hkn⟩:∃ kn:Nat,o.k=(kn:Int):=⟨o.k.toNat,by have:=HKD.out;omega⟩
  have HKN:=hid hkn;obtain ⟨fv,ps,hlook,hfv⟩:=tmap.lookOk undKind undFns (zeroFn v8) (show RFn .nilFunc=some (.lit (.int .i64 (-1)),[]) from rfl) (wfI64 (n:=kn) (by have:=HKD.out;omega));rw [← hkn] at hlook;have c0:=cellOf HX8.out 0 (v:=.int .i64 o.k) rfl;have hmm := @run_makeMap Tryz.prog;clear tbel tmap hkn
  by_cases h8:o.k=8
  ·have HS8:=hid (stepD_8 HR.out h8 b)
   have hg:getA kn tbl=none:=by
    have:kn=8:=by have:=HKN.out;omega
    subst this
    rfl
   rw [hg] at hlook;clear h8 hg hfv;have hxa:=HA8.out;have HXA:=hid hxa;have e0:=cellOf hxa 0 (v:=.int .i64 0) rfl;have e1:=cellOf hxa 1 (v:=.int .i64 0) rfl;have e2:=cellOf hxa 2 (v:=.slice none 0 0) rfl;have f0:=frozenOf hxa 0;have f1:=frozenOf hxa 1;have f2:=frozenOf hxa 2;clear hxa;dsimp only [Option.isSome_none] at hlook;go_wp2_with fail;clear hlook u1 u2 u3 u4 u5 u6 u7 u8 th0 thb e0 e1 e2 f0 f1 f2 c0;obtain ⟨hx4,hm4⟩:=set3 (x:=.int .i64 0) (y:=.int .i64 0) (z:=.slice none 0 0) HXA.out
   refine bodyPost_ret (v:=ansE 0 0) (resAns rfl _ _ _ _ _ _ rfl hx4) rfl ?_;rw [HS8.out];refine PartP.plain ((HH.out.below HB8.out).kept hm4 (fun hh => ?_) (fun k hk hh => ?_)) rfl (Chg.of_below (HB8.out.trans (hm4.below (fun k hk=>by have e:=List.mem_singleton.1 hk;omega) HB8.out.size)))
   ·have:B=w.heap.size+1:=by simpa using hh
    have:=HH.out.lt;omega
   ·have e:k=w.heap.size+1:=by simpa using hh
    have:=HH.out.lt_all k hk;omega
  ·have hg:=tbl_get (k:=kn) (by have:=HKD.out;have:=HKN.out;omega) (by have:=HKD.out;have:=HKN.out;omega) (by have:=HKN.out;omega)
   rw [← HKN.out] at hg;rw [hg] at hlook hfv;have hfv2:=RFn_inv hfv;subst hfv2;have CO8:=CO.out v8 HB8.out HR.out h8;have heg:=enters_fnK o.k;obtain ⟨g,hgk⟩:∃ g,fnK o.k=g:=⟨_,rfl⟩
   rw [hgk] at hlook CO8 heg;clear hgk hg hfv h8;obtain ⟨c0,c1,c2,c3,c4,c5,c6⟩:=op7 HX8.out;dsimp only [Option.isSome_some] at hlook;go_wp2_with fail;refine CO8.mono ?_;rintro e w9 ⟨sv,l',rfl,hd9,hs9,ho9,hc9⟩;unfold ansV;dsimp only;clear hlook u1 u2 u3 u4 u5 u6 u7 u8 th0 thb c0 c1 c2 c3 c4 c5 c6 CO8;have HD9:=hid hd9;have HS9:=hid hs9;have HO9:=hid ho9;have HC9:=hid hc9;have hxa:=(hc9.1.block _ (hLT HA8.out) (fun hh=>by have:=HH.out.lt_all _ hh;omega)).trans HA8.out;obtain ⟨sa,cs,hsv,_⟩:=Rd.of_own ho9;subst hsv
   have HEQ:Hid (stepD (strip l) o b=((stepD (strip l) o b).1,(stepD (strip l) o b).2)):=hid rfl;obtain ⟨aa,haa⟩:∃ a,(stepD (strip l) o b).1=a:=⟨_,rfl⟩
   obtain ⟨l2,hl2⟩:∃ l2,(stepD (strip l) o b).2=l2:=⟨_,rfl⟩
   rw [haa] at HO9 ⊢;rw [haa,hl2] at HEQ;rw [hl2] at HS9;clear hd9 hs9 ho9 hc9 haa hl2;have HXA:=hid hxa;have e0:=cellOf hxa 0 (v:=.int .i64 0) rfl;have e1:=cellOf hxa 1 (v:=.int .i64 0) rfl;have e2:=cellOf hxa 2 (v:=.slice none 0 0) rfl;have f0:=frozenOf hxa 0;have f1:=frozenOf hxa 1;have f2:=frozenOf hxa 2;clear hxa;obtain ⟨nd,hnd⟩:∃ n,aa.data.length=n:=⟨_,rfl⟩
   have HND:=hid hnd;rw [hnd] at HO9 ⊢;clear hnd;go_wp2_with fail;clear e0 e1 e2 f0 f1 f2;obtain ⟨hx4,hm4⟩:=set3 (x:=.int .i64 aa.code) (y:=.int .i64 aa.done) (z:=.slice sa nd cs) HXA.out;refine bodyPost_ret (v:=ansV aa (.slice sa nd cs)) (resAns rfl _ _ _ _ _ _ rfl hx4) rfl ?_;rw [HEQ.out];have hw8:w.heap.size+2≤v8.heap.size:=by have h1:=HBX.out.sz;have h2:=(hLT HA8.out);omega
   have hnot:∀ k,k∈dF Ba l'→k≠w.heap.size+1:=fun k hk e=>by
    rcases HC9.out.2 k hk with h1 | h1
    ·have:=HH.out.lt_all k h1
     omega
    ·omega
   refine ⟨_,l',rfl,HD9.out.kept hm4 (fun hh => ?_) (fun k hk hh=>hnot k hk (by simpa using hh)),HS9.out,?_,?_⟩
   ·have:B=w.heap.size+1:=by simpa using hh
    have:=HH.out.lt;omega
   ·dsimp only
    rw [HND.out];refine ownsRow_base (ownsRow_at HO9.out (fun k hk=>hm4.block k (ownsRow_lt HO9.out k hk) (fun hh => ?_))) (Nat.le_trans (Nat.le_add_right _ 2) hw8);have e:k=w.heap.size+1:=by simpa using hh
    have:=ownsRow_ge HO9.out k hk;omega
   ·exact ⟨((Mods.of_below HB8.out).trans HC9.out.1 (fun i hi=>.inl hi)).trans hm4 (fun i hi=>.inr (by have e:=List.mem_singleton.1 hi;omega)),fun k hk=>(HC9.out.2 k hk).imp id (fun h=>by omega)⟩
 ·have g0:=bneI hr
  have HS:Hid (stepD (strip l) o b=(⟨refD (strip l) o,0,[]⟩,strip l)):=hid (by unfold stepD;rw [if_pos hr]);obtain ⟨r,hrr⟩:∃ r,refD (strip l) o=r:=⟨_,rfl⟩
  rw [hrr] at g0 HS ⊢;clear hrr hr;have hxa:=HA3.out;have HXA:=hid hxa;have e0:=cellOf hxa 0 (v:=.int .i64 0) rfl;have e1:=cellOf hxa 1 (v:=.int .i64 0) rfl;have e2:=cellOf hxa 2 (v:=.slice none 0 0) rfl;have f0:=frozenOf hxa 0;have f1:=frozenOf hxa 1;have f2:=frozenOf hxa 2;clear hxa;go_wp2_with fail;clear e0 e1 e2 f0 f1 f2;obtain ⟨hx4,hm4⟩:=set3 (x:=.int .i64 r) (y:=.int .i64 0) (z:=.slice none 0 0) HXA.out;refine bodyPost_ret (v:=ansE r 0) (resAns rfl _ _ _ _ _ _ rfl hx4) rfl ?_;rw [HS.out]
  refine PartP.plain ((HH.out.below HB3.out).kept hm4 (fun hh => ?_) (fun k hk hh => ?_)) rfl (Chg.of_below (HB3.out.trans (hm4.below (fun k hk=>by have e:=List.mem_singleton.1 hk;omega) HB3.out.size)))
  ·have:B=w.heap.size+1:=by simpa using hh
   have:=HH.out.lt;omega
  ·have e:k=w.heap.size+1:=by simpa using hh
   have:=HH.out.lt_all k hk;omega
end Go.Proofs.YthkmihedkddnmaaGreat
namespace Go.Proofs.YthkmihedkddnmaaGreat
open Lib (hid)
open Go.RowKit Go.Maps Wire Cmd
theorem ddo_at (n0:Nat) (w:World) (B Ba:Nat) (l:List (Nat × (Vl × Nat))) (h:DevAt n0 w B Ba l) (o:Op0) (ok:o.Ok) (ao:Option Addr) (cap:Nat)
  (hd:Rd w 1 (.slice ao o.data.length cap) o.data.length (bV o.data)) :
  Calls Tryz.prog 12 #[.pointer (some ⟨B,0,none⟩),.agg (oC o (.slice ao o.data.length cap))] w fun e w'=>PartP n0 w B Ba l (stepD (strip l) o 1024) e w':=by
 have HH:=hid h;have CO:Hid (∀ X,Below w.heap.size w X→Calls Tryz.prog 18 #[.pointer (some ⟨B,0,none⟩),.agg (oC o (.slice ao o.data.length cap)),.int .i64 1024] X fun e w'=>PartP n0 X B Ba l (stepD (strip l) o 1024) e w'):=hid (fun X hX=>dpart_at n0 X B Ba l (h.below hX) o ok ao cap 1024 (by omega) (hd.below hX));obtain ⟨sl,hsl⟩:∃ s,Value.slice ao o.data.length cap=s:=⟨_,rfl⟩
 rw [hsl] at CO ⊢;clear hsl h hd;obtain ⟨w2,hw2⟩:∃ W,(w.alloc (.cells #[.int .i64 o.k,.int .u64 (o.vol:Int),.int .u64 (o.to:Int),.int .i64 o.size,.int .i64 o.pl,.int .i64 o.count,sl] 40)).alloc (.cells #[.int .i64 0,.int .i64 0,.slice none 0 0] 35)=W:=⟨_,rfl⟩
 have HBX:Hid (Boxes w w2 (oC o sl)):=hid (by rw [← hw2];exact boxes w (oC o sl));obtain ⟨c0,c1,c2,c3,c4,c5,c6⟩:=op7 HBX.out.op;rw [show (oC o sl)=#[.int .i64 o.k,.int .u64 (o.vol:Int),.int .u64 (o.to:Int),.int .i64 o.size,.int .i64 o.pl,.int .i64 o.count,sl] from rfl]
 go_enter Tryz.func12,Tryz.ntmps12
 go_wp2_with fail;refine (CO.out _ HBX.out.bel).mono ?_;rintro e w9 ⟨sv,l',rfl,hd9,hs9,ho9,hc9⟩;unfold ansV;dsimp only;clear c0 c1 c2 c3 c4 c5 c6 hw2;have HD9:=hid hd9;have HS9:=hid hs9;have HO9:=hid ho9;have HC9:=hid hc9;have HB8:=hid HBX.out.bel;have hxa:=(hc9.1.block _ (hLT HBX.out.ans) (fun hh=>by have:=HH.out.lt_all _ hh;omega)).trans HBX.out.ans;obtain ⟨sa,cs,hsv,_⟩:=Rd.of_own ho9;subst hsv;have HEQ:Hid (stepD (strip l) o 1024=((stepD (strip l) o 1024).1,(stepD (strip l) o 1024).2)):=hid rfl
 obtain ⟨aa,haa⟩:∃ a,(stepD (strip l) o 1024).1=a:=⟨_,rfl⟩
 obtain ⟨l2,hl2⟩:∃ l2,(stepD (strip l) o 1024).2=l2:=⟨_,rfl⟩
 rw [haa] at HO9 ⊢;rw [haa,hl2] at HEQ;rw [hl2] at HS9;clear hd9 hs9 ho9 hc9 haa hl2;have HXA:=hid hxa;have e0:=cellOf hxa 0 (v:=.int .i64 0) rfl;have e1:=cellOf hxa 1 (v:=.int .i64 0) rfl;have e2:=cellOf hxa 2 (v:=.slice none 0 0) rfl;have f0:=frozenOf hxa 0;have f1:=frozenOf hxa 1;have f2:=frozenOf hxa 2;clear hxa;obtain ⟨nd,hnd⟩:∃ n,aa.data.length=n:=⟨_,rfl⟩
 have HND:=hid hnd;rw [hnd] at HO9 ⊢;clear hnd;go_wp2_with fail;clear e0 e1 e2 f0 f1 f2;obtain ⟨hx4,hm4⟩:=set3 (x:=.int .i64 aa.code) (y:=.int .i64 aa.done) (z:=.slice sa nd cs) HXA.out;refine bodyPost_ret (v:=ansV aa (.slice sa nd cs)) (resAns rfl _ _ _ _ _ _ rfl hx4) rfl ?_;rw [HEQ.out];have hw8:w2.heap.size=w.heap.size+2:=HBX.out.sz;have hnot:∀ k,k∈dF Ba l'→k≠w.heap.size+1:=fun k hk e=>by
  rcases HC9.out.2 k hk with h1 | h1
  ·have:=HH.out.lt_all k h1
   omega
  ·omega
 refine ⟨_,l',rfl,HD9.out.kept hm4 (fun hh => ?_) (fun k hk hh=>hnot k hk (by simpa using hh)),HS9.out,?_,?_⟩
 ·have:B=w.heap.size+1:=by simpa using hh
  have:=HH.out.lt;omega
 ·dsimp only
  rw [HND.out];refine ownsRow_base (ownsRow_at HO9.out (fun k hk=>hm4.block k (ownsRow_lt HO9.out k hk) (fun hh => ?_))) (by omega);have e:k=w.heap.size+1:=by simpa using hh
  have:=ownsRow_ge HO9.out k hk;omega
 ·exact ⟨((Mods.of_below HB8.out).trans HC9.out.1 (fun i hi=>.inl hi)).trans hm4 (fun i hi=>.inr (by have e:=List.mem_singleton.1 hi;omega)),fun k hk=>(HC9.out.2 k hk).imp id (fun h=>by omega)⟩
end Go.Proofs.YthkmihedkddnmaaGreat
namespace Go.Proofs.YthkmihedkddnmaaGreat
open Lib (hid)
open Go.RowKit Go.Maps Wire Cmd
def getI {α:Type} (k:Int) (m:List (Nat × α)):Option α:=if k<0 then none else getA k.toNat m
theorem getI_nat {α:Type} (k:Nat) (m:List (Nat × α)):getI (k:Int) m=getA k m:=by
 unfold getI;rw [if_neg (by omega)]
 rfl
theorem enc_neg {α H:Type} (q:IntKind) (f:α→DataW H) (k:Int) (hk:k<0) (m:List (Nat × α)):(encA q f m).find? (fun p=>p.1.sameKey (.int q k))=none:=by
 rw [List.find?_eq_none];intro p hp;obtain ⟨x,hx,rfl⟩:=List.mem_map.1 hp;simp only [Lit.sameKey,true_and,decide_eq_true_eq];omega
theorem at_enc_neg {α H:Type} (q:IntKind) (f:α→DataW H) (k:Int) (hk:k<0) (l:List (Nat × α)) (z:DataW H):(encM q f l).atKey (.int q k) z=z:=by
 have h:=enc_neg q f k hk l;unfold encM DataW.atKey;dsimp only;rw [h]
theorem fldVol (w:World) (s:Int) (p:Option Nat):(Instr.field 84 (.agg #[.int .i64 s,.map p]) 1).run Tryz.prog w = .ok (.map p) w:=by kernel_rfl
theorem MapL.blkOk {w:World} {b:Nat} {m:List (Nat × List UInt8)} (h:MapL w Tryz.prog 3 RBlk .i64 blkD b m) {k:Int} (hk : -9223372036854775808≤k∧k≤9223372036854775807) :
  (Instr.lookup 82 (.map (some b)) (.int .i64 k) true).run Tryz.prog w = .ok (.tuple #[bA ((getI k m).getD zeroB),.bool (getI k m).isSome]) w:=by
 have hw:(Lit.int .i64 k).wf=true:=by
  have e1:IntKind.i64.min = -9223372036854775808:=rfl;have e2:IntKind.i64.max=9223372036854775807:=rfl
  simp [Lit.wf,e1,e2]
  omega
 obtain ⟨v,ps,h1,h2⟩:=World.ownsMap.look_ok (show w.ownsMap _ _ _ b m.length (encM .i64 blkD m) from h) (int_keyed undInt) undBlks (zeroBlk w) (RBlk_mk (b:=zeroB) (by unfold zeroB;rw [List.length_replicate])) (keyOf_int_mk undInt hw);have hat:(encM .i64 blkD m).atKey (.int .i64 k) (blkD zeroB)=blkD ((getI k m).getD zeroB)∧Maps.has (encM .i64 blkD m) (.int .i64 k)=(getI k m).isSome:=by
  unfold getI
  by_cases hn:k<0
  ·rw [if_pos hn]
   refine ⟨?_,?_⟩
   ·rw [at_enc_neg .i64 blkD k hn m]
    rfl
   ·show (encA .i64 blkD m).any _=_
    rw [Bool.eq_iff_iff];simp only [Option.isSome_none,Bool.false_eq_true,iff_false,Bool.not_eq_true];rw [List.any_eq_false];intro p hp;have:=List.find?_eq_none.1 (enc_neg .i64 blkD k hn m) p hp
    simpa using this
  ·rw [if_neg hn]
   obtain ⟨kn,rfl⟩:∃ kn:Nat,k=(kn:Int):=⟨k.toNat,by omega⟩
   rw [at_enc,has_enc,Int.toNat_natCast];refine ⟨?_,rfl⟩
   cases getA kn m <;> rfl
 rw [hat.1] at h2;rw [hat.2] at h1;obtain ⟨_,rfl,_⟩:=RBlk_inv h2;exact h1
theorem blkBox {X:World} {b:Nat} {c:List UInt8} (h:X.heap[b]? = some (.cells (bV c).toArray 50 (0,0))):X.rangeAt b 0 (bV c):=fun j u hj=>by
 rw [Nat.zero_add];exact cellOf' h j (by simpa using hj)
theorem infoB {c:List UInt8} (h:c.length=256):(Tryz.prog.info? 50).map (·.size)=some (bV c).length:=by rw [bV_len,h];exact infoBlk
theorem blkThere {X:World} {b:Nat} (h:X.heap[b]? = some (.cells Tryz.zeroCells50 50 (0,0))) {c:List UInt8} (hc:c.length=256):X.there b 0 (bV c).toArray.size:=fun j hj=>by
 have hj:j<256:=by simpa [bV_len,hc] using hj
 rw [Nat.zero_add];exact ⟨by rw [cell_of_row X _ j _ _ _ h,Array.getElem?_eq_getElem (by rw [zszM];exact hj)];rfl,frozenOf h j⟩
theorem blkEnd {fn:Func} {p u:Tmp} {X:World} {b:Nat} {c:List UInt8} {y:Value} (tmps:Array Value) (h:fn.results=#[.cell p 50,.tmp u]) (hp:tmps.getD p undef = .pointer (some ⟨b,0,none⟩)) (hx:tmps.getD u undef=y)
  (hb:X.heap[b]? = some (.cells Tryz.zeroCells50 50 (0,0))) (hc:c.length=256):(results fn tmps).run Tryz.prog (X.setCells b 0 (bV c)) = .ok (.tuple #[bA c,y]) (X.setCells b 0 (bV c)) :=
 res_blk h tmps _ _ c _ hp hx (World.rangeAt_setCells_same X _ _ _ (by have:=blkThere hb hc;rwa [List.size_toArray] at this)) hc
theorem zcells:Tryz.zeroCells50=(bV zeroB).toArray:=by kernel_rfl
theorem zoneBlk:Tryz.zeroCells50.all (·.oneCell')=true:=by kernel_rfl
theorem dblock_in (n0:Nat) (w:World) (B Ba:Nat) (l:List (Nat × (Vl × Nat))) (h:DevAt n0 w B Ba l) (n:Nat) (hn:n<18446744073709551616) (x:Vl × Nat) (hg:getA n l=some x) (k:Int) (hk : -9223372036854775808≤k∧k≤9223372036854775807) :
  Calls Tryz.prog 24 #[.pointer (some ⟨B,0,none⟩),.int .u64 (n:Int),.int .i64 k] w fun e w'=>e = .returned (.tuple #[bA ((getI k x.1.m).getD zeroB),.bool (getI k x.1.m).isSome])∧Below w.heap.size w w':=by
 obtain ⟨w1,hw1⟩:∃ W,w.alloc (.cells Tryz.zeroCells50 50)=W:=⟨_,rfl⟩
 have hb1:Below w.heap.size w w1:=by rw [← hw1];exact balloc (Below.refl _ _) _
 have HZ1:Hid (w1.heap[w.heap.size]? = some (.cells Tryz.zeroCells50 50 (0,0))):=hid (by rw [← hw1];exact heap_alloc_new w _);have hd1:=h.below hb1;have HB1:=hid hb1;have CT:=dthere_any w1 _ true hd1.dv;have c0:=hd1.cell;obtain ⟨_,hl⟩:=hd1.look hn hg;have hl2:=(hd1.vol _ (getA_some hg)).blkOk hk;have hvok:=h.ok.vol (n,x.1) (by unfold strip mapA;exact List.mem_map.2 ⟨_,getA_some hg,rfl⟩);obtain ⟨c,hc2⟩:∃ c,(getI k x.1.m).getD zeroB=c:=⟨_,rfl⟩
 obtain ⟨q,hq⟩:∃ q,(getI k x.1.m).isSome=q:=⟨_,rfl⟩
 have hc:c.length=256:=by
  rw [← hc2];unfold getI
  split
  ·show zeroB.length=256
   unfold zeroB;rw [List.length_replicate]
  ·exact blkAt_len hvok.blk k.toNat
 dsimp only at hl2;rw [hc2,hq] at hl2 ⊢;clear hc2 hq hvok h hd1 hb1 hg;unfold bA at hl2
 go_enter Tryz.func24,Tryz.ntmps24
 go_wp2_with fail;refine CT.mono ?_;rintro e w1' ⟨rfl,rfl⟩;clear hw1 CT;have hfl:=fldVol;have hst:(storeCells ⟨w1.heap.size,0,none⟩ (bV c)).run Tryz.prog (w1.alloc (.cells Tryz.zeroCells50 50)) = .ok () (w1.alloc (.cells (bV c).toArray 50)):=by
  have:=run_storeNew (P:=Tryz.prog) w1 50 Tryz.zeroCells50 (bV c).toArray (by rw [zszM];simp [bV_len,hc]) (by simpa using bV_one c)
  simpa using this
 have hcs:(bV c).toArray.size=256:=by simp [bV_len,hc]
 have hx2:=heap_alloc_new w1 (.cells (bV c).toArray 50);have hx1:(w1.alloc (.cells (bV c).toArray 50)).heap[w.heap.size]? = some (.cells Tryz.zeroCells50 50 (0,0)):=(Below.heap_alloc _ _ _ (hLT HZ1.out)).trans HZ1.out;have HX:=hid (And.intro hx1 hx2);have HC:=hid hc;clear hx1 hx2 hc;go_wp2_with fail;obtain ⟨w2,hw2⟩:∃ W,w1.alloc (.cells (bV c).toArray 50)=W:=⟨_,rfl⟩
 have hb2:Below w1.heap.size w1 w2:=by rw [← hw2];exact balloc (Below.refl _ _) _
 rw [hw2] at HX ⊢;clear hw2 hst;have HB2:=hid (bthen HB1.out hb2);clear hb2;refine wp_load_mid (P:=Tryz.prog) 50 _ rfl w1.heap.size 0 rfl (bV c) _ (blkBox HX.out.2) Tryz.underlying50 rfl (infoB HC.out) ?_
 go_wp2_with (refine wpList_store_mid rfl 50 _ _ rfl w.heap.size 0 (bV c).toArray rfl rfl (blkThere HX.out.1 HC.out) (by rw [List.size_toArray];exact infoB HC.out) (all_oneCell_toArray (bV_one c)) ?_)
 refine bodyPost_ret (v:=.tuple #[bA c,.bool q]) (blkEnd _ rfl rfl rfl HX.out.1 HC.out) rfl ⟨rfl,?_⟩;exact belowSet (Nat.le_refl _) _ _ _ HB2.out
end Go.Proofs.YthkmihedkddnmaaGreat
