import Derived.Sort.QuietIn
import Derived.Test.YthkmihedkddnmaaGreatUG1
import Derived.Test.YthkmihedkddnmaaGreatUG2
import Derived.Deep.RegionHeld3
import Derived.Test.YthkmihedkddnmaaGreatUG11
set_option linter.unusedVariables false
set_option linter.unusedSimpArgs false
set_option maxHeartbeats 2000000
set_option maxRecDepth 100000
namespace Go.Proofs.YthkmihedkddnmaaGreat
open Go.RowKit
def isDefer:Op→Bool
 | .defer _=>true
 | _=>false
def noDefers (ops:Array Oper):Bool:=ops.toList.all fun o => !isDefer o.op
section
variable {F:Fence} {n:Nat} {P:Program} {ops:Array Oper} {md:Region.Mode} {C:World→Prop}
theorem semAt_plain' {o:Oper} (h:isDefer o.op=false) (ro:Option Nat) (ρ:Operand→Value):Oper.semAt ro ρ o=execOp ρ o :=
 Oper.semAt_eq ro ρ o (fun c hc=>by rw [hc] at h;cases h)
end
end Go.Proofs.YthkmihedkddnmaaGreat
namespace Go.Proofs.YthkmihedkddnmaaGreat
open Go.RowKit
section
variable {P:Program} {ops:Array Oper} {Q:Exit→Act→World→Prop} {md:Region.Mode} {S:World→Prop}
def NormalQ (Q:Exit→Act→World→Prop):Exit→Act→World→Prop:=fun e a w=>e = .normal∧Q .normal a w
theorem op_round {l n:Nat} {o:Oper} {K:Act→World→Prop} {a:Act} {w:World} (hd:isDefer o.op=false) (h:o.wp P a w K (NormalQ Q)):o.wpIn (Fence.wide.inRound l) n P a w K Q:=by
 unfold Oper.wpIn;refine ⟨fun _ _=>trivial,?_⟩;rw [semAt_plain' hd];unfold Oper.wp at h
 generalize (execOp a.eval o).run P w=r at *
 cases r with
 | ok x w' =>
  cases x <;> simp only [Oper.upon] at h <;> simp only [Oper.uponIn]
  case value v=>exact h
  case skip=>exact h
  case defer d=>exact h
  case enter f args =>
   refine ⟨fun h=>(by cases h),?_⟩;have h2:CallsIn Fence.wide (n - 1) P f args w' _:=callsIn_wide.2 (h.mono (R':=fun
    | .returned v,w''=>K (a.put o.dst v) w''
    | .panicked chain,w''=>Q (.panic chain) a w''
    | .outgrown,_=>LetsOut Q) fun e w'' he=>by
     cases e with
     | returned v=>exact he
     | panicked c=>cases he.1
     | outgrown=>obtain ⟨_,_,he,_⟩:=he;cases he)
   exact h2
  case row row args =>
   refine ⟨fun h=>(by cases h),fun c cs _ => ?_⟩;obtain ⟨v,w'',h1,h2⟩:=h c cs;exact ⟨v,w'',h1,stepsIn_wide.2 h2⟩
 | halt x w' =>
  cases x <;> simp only [Oper.upon] at h
  case panic v=>cases h.1
theorem opAt_round {l n i:Nat} {K K':Act→World→Prop} {a:Act} {w:World} (hnd:noDefers ops=true) (hK:∀ a w,K a w→K' a w) (h:wpOp P ops (NormalQ Q) i K a w):wpOpIn (Fence.wide.inRound l) n P ops Q i K' a w:=by
 unfold wpOp at h;unfold wpOpIn
 split
 ·rename_i ho;simp only [ho] at h;exact hK _ _ h
 ·rename_i o ho
  simp only [ho] at h;have hd:isDefer o.op=false:=by
   have hm:o∈ops.toList:=by
    rw [Array.mem_toList_iff];exact Array.mem_of_getElem? ho
   have:=List.all_eq_true.1 hnd o hm
   simpa using this
  split
  ·rename_i hw
   simp only [hw,if_true] at h
   rcases h with h | ⟨_,_,_,he,_⟩
   ·exact op_round hd (Oper.wp_mono hK h)
   ·cases he
  ·rename_i hw
   simp only [hw] at h;exact ⟨fun _ _=>trivial,hK _ _ h⟩
theorem any_round {l n:Nat} (hnd:noDefers ops=true):∀ (fuel:Nat) (listed:Array Bool) (a:Act) (w:World),wpAny P md ops (NormalQ Q) fuel listed a w→wpAnyIn (Fence.wide.inRound l) n P md ops Q fuel listed a w
 | 0,_,_,_,h=>⟨h.1,h.2.2⟩
 | fuel+1,_,_,_,h=>⟨fun h0=>(h.1 h0).2,fun i hi=>opAt_round hnd (fun a' w' h'=>any_round hnd fuel _ a' w' h') (h.2 i hi)⟩
theorem region_round {l n id:Nat} {a:Act} {w:World} (hm:P.follows .mixedOrders=true) (hnd:noDefers ops=true) (hS:S w.drew)
  (h:S w.drew→wpAnyH P .any ops (NormalQ Q) S ops.size (Array.replicate ops.size false) a w.drew):(Code.region id ops true).wpIn (Fence.wide.inRound l) n P Q a w :=
 wpIn_region_any hm (any_round hnd _ _ _ _ (wpAny_of_held _ _ _ _ (h hS)))
theorem region_normal {id:Nat} {a:Act} {w:World} (hm:P.follows .mixedOrders=true) (hS:S w.drew)
  (h:S w.drew→wpAnyH P .any ops (NormalQ Q) S ops.size (Array.replicate ops.size false) a w.drew):(Code.region id ops true).wp P Q a w :=
 wp_mono (wp_region_held_drew hm hS h) (fun e a w hq=>by obtain ⟨rfl,h2⟩:=hq;exact h2)
end
theorem KpF.ofBelow {B:Nat} {W Y:World} (hB:B<W.heap.size) (h:Below W.heap.size W Y):KpF (FpOut B) W Y:=by
 have hold:∀ k,FpOut B Y k→FpOut B W k:=by
  rintro k (hk | ⟨n,cap,hk⟩)
  ·exact .inl hk
  ·exact .inr ⟨n,cap,by rw [← hk];exact (World.cell?_of_block (h.block B hB)).symm⟩
 exact ⟨h.size,fun g k hk=>Nat.lt_of_lt_of_le (g k (hold k hk)) h.size,fun k hk _ o ho _=>(h.block k hk).trans ho,fun k _ hk=>hold k hk⟩
theorem KpF.app {W w1:World} {n₀ B:Nat} {t e:TypeId} {size:Nat} {v v':Value} {k:Nat} {xs:List Value}
  (hv:Boxed W B t v) (hte:t≠e) (hrow:W.ownsRow n₀ e size v k xs) (hgrow:W.grownBy w1 v.ownBlock) (hsn:SameOrNew W v v') {m:Nat} {ys:List Value} (hown':w1.ownsRow n₀ e size v' m ys) :
  Boxed w1 B t v∧KpF (FpOut B) W (w1.setCell ⟨B,0,none⟩ v')∧Boxed (w1.setCell ⟨B,0,none⟩ v') B t v':=by
 have hv1:Boxed w1 B t v:=hv.kept hgrow (hv.not_row hte hrow);have hs1:W.heap.size≤w1.heap.size:=hgrow.size;have hv2:=hv1.set v';have hc2:(w1.setCell ⟨B,0,none⟩ v').cell? ⟨B,0,none⟩=some v':=hv2.cell;have hin:∀ i,FpOut B (w1.setCell ⟨B,0,none⟩ v') i→i=B∨v'.ownBlock=some i:=by
  intro i hi
  rcases hi with h | ⟨n,cap,h⟩
  ·exact .inl h
  ·rw [hc2] at h
   obtain rfl:=Option.some.inj h;exact .inr rfl
 have hof:∀ i,v.ownBlock=some i→FpOut B W i:=by
  intro i hi
  rcases hrow.2 with ⟨rfl,_⟩ | ⟨g,cap,cur,rfl,_⟩
  ·simp [Value.ownBlock] at hi
  ·simp [Value.ownBlock] at hi
   subst hi;exact .inr ⟨_,_,hv.cell⟩
 refine ⟨hv1,⟨by simpa [World.setCell] using hs1,fun _ i hi => ?_,fun i hi hn o ho hc => ?_,fun i hi hf => ?_⟩,hv2⟩
 ·have e:(w1.setCell ⟨B,0,none⟩ v').heap.size=w1.heap.size:=by simp [World.setCell]
  rw [e]
  rcases hin i hi with rfl | h
  ·exact hv1.lt
  ·exact (hown'.lt i h).2
 ·rw [Below.heap_setCell _ _ _ _ (fun e=>hn (.inl e)),hgrow.block i hi (fun e=>hn (hof i e.symm))]
  exact ho
 ·rcases hin i hf with rfl | h
  ·exact .inl rfl
  ·rcases hsn with h2 | ⟨g,h2,h3⟩
   ·exact hof i (h2 ▸ h)
   ·rw [h2] at h
    cases h
    omega
theorem keeps_app {C B n₀ size k:Nat} {t e:TypeId} {W Y w1:World} {v u:Value} {xs:List Value} (hb:Below W.heap.size W Y) (hv:Boxed Y B t v) (hrow:Y.ownsRow n₀ e size v k xs) (hg:Y.grownBy w1 v.ownBlock) (hv1:Boxed w1 B t v) :
  KeepsFrom C W (w1.setCell ⟨B,0,none⟩ u):=by
 have hs:(w1.setCell ⟨B,0,none⟩ u).heap.size=w1.heap.size:=by simp [World.setCell]
 refine ⟨by rw [hs];exact Nat.le_trans hb.size hg.size,fun i o _ ho hc => ?_⟩;have hi:=(hLT ho)
 have h1:Y.heap[i]? = some o:=(hb.block i hi).trans ho;have h2:w1.heap[i]? = some o:=by
  refine (hg.block i (hLT h1) (fun e2 => ?_)).trans h1
  rcases hrow.2 with ⟨rfl,_⟩ | ⟨g,cap,cur,rfl,_,hgb,_⟩
  ·simp [Value.ownBlock] at e2
  ·simp [Value.ownBlock] at e2
   subst e2;rw [h1] at hgb
   cases hgb
   cases hc
 rw [Below.heap_setCell _ _ _ _ (fun e2=>by
  have e3:i=B:=e2;subst e3;have hv2:w1.heap[i]? = some (.cells #[v] t (0,0)):=hv1;rw [h2] at hv2
  cases hv2
  cases hc)]
 exact h2
theorem ob_tag {W:World} {n₀ size k g:Nat} {e t:TypeId} {v:Value} {xs:List Value} {cs:Array Value} {f:Nat × Nat} (hrow:W.ownsRow n₀ e size v k xs) (hg:W.heap[g]? = some (.cells cs t f)) (hne:t≠e):g∉ob v:=by
 intro h
 rcases hrow.2 with ⟨rfl,_⟩ | ⟨g',cap,cur,rfl,_,hgb,_⟩
 ·cases h
 ·rw [ob_some] at h
  obtain rfl:=List.mem_singleton.1 h;rw [hg] at hgb
  cases hgb
  exact hne rfl
end Go.Proofs.YthkmihedkddnmaaGreat
namespace Go.Proofs.YthkmihedkddnmaaGreat
open Lib (hid)
open Go.RowKit Go.Shelf
attribute [local go_sem] Oper.semAt_some
theorem range_pre {α:Type} (it:Nat→α) {i n:Nat} (h:i≤n):(List.range i).map it <+: (List.range n).map it:=by
 have h1:(List.range n).take i=List.range i:=by rw [List.take_range,Nat.min_eq_left h]
 have:List.range i <+: List.range n:=by rw [← h1];exact List.take_prefix _ _
 exact this.map it
theorem over_stopsG {α:Type} (g:α→Nat × PSpan) (it:Nat→α) (F:Fence) (n:Nat) (h90:F.fn 102) (hro:F.round=none) (hn:1≤n) (Ba:Nat) (a c:Nat) (hg:∀ i,i<pM a c→g (it i)=pItem a c i) (ha:a+c≤1073741824) (hc:1≤c) (w:World) (hBn:Ba+1<w.heap.size)
  (Fp:World→Nat→Prop) (hF1:∀ (W:World) (o:Obj) k,w.heap.size≤W.heap.size→Fp (W.alloc o) k→Fp W k)
  (hF0:∀ W,Below w.heap.size w W→(∀ k,Fp W k→k<W.heap.size) ∧ ¬ Fp W Ba ∧ ¬ Fp W (Ba+1))
  (hca:w.cell? ⟨Ba,0,none⟩=some (.int .i64 a)) (hcc:w.cell? ⟨Ba+1,0,none⟩=some (.int .i64 c)) :
  SeqStopsK F n Tryz.prog 102 #[.pointer (some ⟨Ba,0,none⟩),.pointer (some ⟨Ba+1,0,none⟩)] (fun x=>itemVs (g x)) (KpF Fp) (fun ys=>ys=(List.range (pM a c)).map it) (fun pre=>pre <+: (List.range (pM a c)).map it) (pM a c) w:=by
 intro l J Jx W hW hJ hJx hY h0;obtain ⟨hgood,hnb,hnb1⟩:=hF0 W hW;have hca':W.cell? ⟨Ba,0,none⟩=some (.int .i64 a):=(hW.cell (p:=⟨Ba,0,none⟩) (by simp;omega)).trans hca;have hcc':W.cell? ⟨Ba+1,0,none⟩=some (.int .i64 c):=(hW.cell (p:=⟨Ba+1,0,none⟩) (by simp;omega)).trans hcc;have hWs:=hW.size;refine callsIn_of_wp Tryz.func102 rfl h90 ?_ hro
 simp only [Tryz.ntmps102,List.size_toArray,List.length_cons,List.length_nil,Nat.reduceAdd,Nat.reduceSub,Array.replicate_succ,Array.replicate_zero,List.push_toArray,List.append_toArray,List.nil_append,List.cons_append]
 gi_wp2
 gi_loopw [4,5,6] (fun d _ _ wr=>∃ i:Nat,i≤pM a c∧d = .int .i64 (pDone a c i)∧J ((List.range i).map it) wr∧KpF Fp W wr)
  (fun d _ _ _=>c - (intOf d).toNat)
 case atStart =>
  exact ⟨0,Nat.zero_le _,by rw [pDone_zero];rfl,by simpa using h0,KpF.refl _ _⟩
 case round =>
  obtain ⟨i,hi,rfl,hJs,hbw⟩:=hrel;have hca2:wr.cell? ⟨Ba,0,none⟩=some (.int .i64 a):=hbw.cell hca' hnb;have hcc2:wr.cell? ⟨Ba+1,0,none⟩=some (.int .i64 c):=hbw.cell hcc' hnb1;have hwr:=hbw.size;have hdl := @pDone_le a c i
  by_cases hlt:i<pM a c
  ·have hd:(pDone a c i:Int)<c:=by have:=(pDone_lt (a:=a) (i:=i) hc).2 hlt;omega
   have hat:=pAt hlt;have hf4:=pFrom_lt a i;have hq:((a:Int)+pDone a c i) / 4=pBlk a i:=by unfold pBlk;omega
   have hr:((a:Int)+pDone a c i) % 4=pFrom a i:=by omega
   have hft:=pFrom_lt_pTo hlt;have ht4 := @pTo_le a c i;have HS:=hid (pDone_succ hlt);have HA:=hid hat;have HL:Hid ((List.range i).map it ++ [it i]=(List.range (i+1)).map it):=hid (by rw [List.range_succ,List.map_append];rfl);clear hat;have hJ2:=hJ _ _ _ none hJs (World.grownBy_alloc wr (.cells #[.int .i64 (pBlk a i),.int .i64 (pFrom a i),.int .i64 (pTo a c i)] 100) none) (fun r e=>by cases e);obtain ⟨fn,tmps,assign,body,hy,hR⟩:=hY _ (it i) _ hJ2 (by simp;omega);rw [hg i hlt] at hy;dsimp only [itemVs,spanV,pItem,pSpan] at hy;clear hJ2 hY
   by_cases hmin:(4:Int)≤pFrom a i+c - pDone a c i
   ·have hmn:min (4:Int) ((pFrom a i:Int)+c - pDone a c i)=4:=by omega
    have hto:(pTo a c i:Int)=4:=by have h:=HA.out;unfold pTo;omega
    have hkw:=KpF.alloc hbw (.cells #[.int .i64 (pBlk a i),.int .i64 (pFrom a i),.int .i64 (pTo a c i)] 100) (fun k hk=>hF1 wr _ k (by omega) hk);have hnf : ¬ Fp (wr.alloc (.cells #[.int .i64 (pBlk a i),.int .i64 (pFrom a i),.int .i64 (pTo a c i)] 100)) wr.heap.size:=fun hf=>by
     have:=hbw.good hgood _ (hF1 wr _ _ (by omega) hf);omega
    rw [hto] at hy hR hkw hnf;have HT:=hid hto;clear hto
    gi_wp2
    refine hR.mono ?_;rintro e W3 (⟨rfl,hJ3,hk3⟩ | ⟨rfl,hx3⟩)
    ·have hsz:=hk3.size
     have c1:W3.cell? ⟨wr.heap.size,1,none⟩=some (.int .i64 (pFrom a i)):=hk3.cell (by simp) hnf;have c2:=hk3.cell (a:=⟨wr.heap.size,2,none⟩) (by simp;rfl) hnf;have hk4:=hkw.trans hk3;rw [HL.out] at hJ3;clear hy hR hkw hnf hk3 hJs hbw
     gi_wp2
     go_roundw
     case rel =>
      refine ⟨i+1,by omega,?_,hJ3,hk4⟩;have h1:=HS.out;have h2:=HT.out
      go_num
     case measure=>have h1:=HS.out;have h2:=HT.out;simp [intOf];omega
    ·gi_wp2
     refine bodyPost_ret (results_none rfl _ _ _) rfl ?_;exact ⟨⟨_,rfl⟩,.inr ⟨_,by rw [HL.out];exact range_pre it (by omega),hx3⟩⟩
   ·have hmn:min (4:Int) ((pFrom a i:Int)+c - pDone a c i)=(pFrom a i:Int)+c - pDone a c i:=by omega
    have hto:(pTo a c i:Int)=(pFrom a i:Int)+(c:Int) - (pDone a c i:Int):=by have h:=HA.out;unfold pTo;omega
    have hkw:=KpF.alloc hbw (.cells #[.int .i64 (pBlk a i),.int .i64 (pFrom a i),.int .i64 (pTo a c i)] 100) (fun k hk=>hF1 wr _ k (by omega) hk);have hnf : ¬ Fp (wr.alloc (.cells #[.int .i64 (pBlk a i),.int .i64 (pFrom a i),.int .i64 (pTo a c i)] 100)) wr.heap.size:=fun hf=>by
     have:=hbw.good hgood _ (hF1 wr _ _ (by omega) hf);omega
    rw [hto] at hy hR hkw hnf;have HT:=hid hto;clear hto
    gi_wp2
    refine hR.mono ?_;rintro e W3 (⟨rfl,hJ3,hk3⟩ | ⟨rfl,hx3⟩)
    ·have hsz:=hk3.size
     have c1:W3.cell? ⟨wr.heap.size,1,none⟩=some (.int .i64 (pFrom a i)):=hk3.cell (by simp) hnf;have c2:=hk3.cell (a:=⟨wr.heap.size,2,none⟩) (by simp;rfl) hnf;have hk4:=hkw.trans hk3;rw [HL.out] at hJ3;clear hy hR hkw hnf hk3 hJs hbw
     gi_wp2
     go_roundw
     case rel =>
      refine ⟨i+1,by omega,?_,hJ3,hk4⟩;have h1:=HS.out;have h2:=HT.out
      go_num
     case measure=>have h1:=HS.out;have h2:=HT.out;simp [intOf];omega
    ·gi_wp2
     refine bodyPost_ret (results_none rfl _ _ _) rfl ?_;exact ⟨⟨_,rfl⟩,.inr ⟨_,by rw [HL.out];exact range_pre it (by omega),hx3⟩⟩
  ·have hd : ¬ (pDone a c i:Int)<c:=by have:=(pDone_lt (a:=a) (i:=i) hc).1;omega
   gi_wp2
   go_end0
   obtain rfl:i=pM a c:=by omega
   refine ⟨⟨_,rfl⟩,.inl ?_⟩;exact hJs
end Go.Proofs.YthkmihedkddnmaaGreat
