import Derived.WalkKit
import Derived.WalkSpells
import Derived.WalkLawsBesides
import Derived.Lib.Hide
import Derived.Deep.QuietTactic
import Derived.BigQuiet
import Derived.Test.YthkmihedkddnmaaGreatProg
import Derived.Laws.BytesArg
import Derived.RangeFuncNested
import Derived.RangeFuncBound
import Derived.RangeFuncCalls
import Derived.RangeFuncLeaves
import Derived.RangeFuncBox
import Derived.Shelf.Abstract
import Derived.Shelf.RegionOpen
import Derived.OwnWalkIn
import Derived.TacticsInMore
import Derived.LoopNIn
import Derived.LoopIn
import Derived.Lib.OthersKept
import Derived.Deep.LoopGhost
import Derived.ChangeKeysEq
import Derived.Deep.MidRow
import Derived.Deep.WholeRow
import Derived.StillTailTactics
import Derived.Deep.RegionHeld3
import Derived.Lib.Strings
import Derived.Lib.Slices
import Derived.Lib.Walk
import Derived.Lib.Bytealg
set_option linter.unusedVariables false
set_option linter.unusedSimpArgs false
set_option maxHeartbeats 3200000
set_option maxRecDepth 100000
namespace Go.Proofs.YthkmihedkddnmaaGreat
open Lib (hid)
open Go.RowKit
def SameOrNew (w:World) (v v':Value):Prop:=v'.ownBlock=v.ownBlock∨∃ g,v'.ownBlock=some g∧w.heap.size≤g
theorem run_app {P:Program} (w:World) (base:Nat) (t ty e:TypeId) (i:TypeInfo) (z:Value) (size bytes:Nat) (ht:P.underlying t=some (.slice e)) (hi:P.info? e=some i) (hz:i.zero=some z)
  (hsize:i.size=size) (hby:i.bytes=bytes) (hzs:z.cells.size=size) (hsz:0<size)
  (v:Value) (n:Nat) (xs:List Value) (hown:w.ownsRow base e size v n xs)
  (a:Addr) (m c:Nat) (news:List Value) (hl:news.length=m * size) (hnews:∀ j u,news[j]? = some u→w.cell? (a.add j)=some u) (h1:∀ u∈news,u.oneCell'=true)
  (h63:n+m≤maxLen) (hbytes:(n+m) * bytes≤140737488355328) (hbase:base≤w.heap.size) :
  ∃ v' w',(Builtin.append_ #[t,t] ty #[v,.slice (some a) m c]).run P w = .ok v' w'∧w'.ownsRow base e size v' (n+m) (xs ++ news)∧w.grownBy w' v.ownBlock∧SameOrNew w v v' ∧
   (v' = .slice none 0 0 ↔ v = .slice none 0 0∧m=0):=by
 subst hsize;subst hby;have hsmall:n+m≤9223372036854775807:=by simp only [maxLen] at h63;omega
 have hlen:(xs ++ news).length=(n+m) * i.size:=by rw [List.length_append,hown.1,hl,Nat.add_mul]
 have hnew:∀ (old:Nat) (row:Option Nat),
   (w.drew.alloc (.cells (xs.toArray ++ news.toArray ++ Builtin.zeroCells z.cells (grownCap w (n+m) old e - (n+m))) e)).ownsRow base e i.size
    (.slice (some ⟨w.heap.size,0,none⟩) (n+m) (grownCap w (n+m) old e)) (n+m) (xs ++ news) ∧
   w.grownBy (w.drew.alloc (.cells (xs.toArray ++ news.toArray ++ Builtin.zeroCells z.cells (grownCap w (n+m) old e - (n+m))) e)) row:=by
  intro old row;have hge:=grownCap_ge w (n+m) old e;have hcm:grownCap w (n+m) old e≤maxLen:=grownCap_le_maxLen w (n+m) old e h63;refine ⟨⟨hlen,.inr ⟨w.heap.size,_,_,rfl,hbase,heap_alloc_new w.drew _,hge,hcm,?_,?_⟩⟩,⟨rfl,rfl,rfl,by simp,fun k hk _=>Below.heap_alloc w.drew _ k hk⟩⟩
  ·simp only [Array.size_append,List.size_toArray,size_zeroCells,hzs,hown.1,hl,← Nat.add_mul]
   congr 1
   omega
  ·simp only [Array.toList_append,List.append_assoc]
   rw [← List.append_assoc,← hlen];exact List.take_left
 rcases hown.2 with ⟨rfl,rfl⟩ | ⟨g,cap,cur,rfl,hbg,hg,hnc,hcm,hcs,htake⟩
 ·obtain rfl:xs=[]:=List.eq_nil_of_length_eq_zero (by simpa using hown.1)
  by_cases hm:m=0
  ·subst hm
   obtain rfl:news=[]:=List.eq_nil_of_length_eq_zero (by simpa using hl);refine ⟨.slice none 0 0,w,?_,World.ownsRow_nil w base e i.size,⟨rfl,rfl,rfl,Nat.le_refl _,fun _ _ _=>rfl⟩,.inl rfl,by simp⟩
   simp [Builtin.append_,run_underlying ht,sizeOf,typeInfo,hi,Builtin.lenOf,Builtin.firstCells,loadCells,loadCellsFrom]
  ·have hr:=run_append_nil (P:=P) w t ty e i z ht hi hz a m c news hl hnews (by omega) (by omega) (by have hb:=hbytes;simp only [Nat.zero_add] at hb;omega)
   have hgr:=hnew 0 (Value.ownBlock (.slice none 0 0));simp only [Nat.zero_add,List.nil_append,Array.empty_append] at hgr ⊢;exact ⟨_,_,hr,hgr.1,hgr.2,.inr ⟨_,rfl,Nat.le_refl _⟩,by simp [hm]⟩
 ·by_cases hroom:n+m≤cap
  ·have hfit:n * i.size+news.length≤cur.size:=by rw [hl,hcs,← Nat.add_mul];exact Nat.mul_le_mul_right _ hroom
   have hr:=run_append_room (P:=P) w t ty e i ht hi g n cap cur hg a m c news hl hnews h1 hroom hfit;refine ⟨_,_,hr,⟨hlen,.inr ⟨g,cap,_,rfl,hbg,setRow_heap w g cur _ e _ hg,hroom,hcm,?_,?_⟩⟩,⟨rfl,rfl,rfl,by simp,fun k _ hk=>setRow_other w g k _ (fun e=>hk (by simp [Value.ownBlock,e]))⟩,.inl rfl,by simp⟩
   ·simp only [List.size_toArray,List.length_append,List.length_take,List.length_drop,Array.length_toList]
    omega
   ·rw [htake,← hlen]
    exact List.take_left
  ·have holds:∀ j u,xs[j]? = some u→w.cell? ((⟨g,0,none⟩:Addr).add j)=some u:=hown.cells (g:=g) rfl
   have hr:=run_append_grow (P:=P) w t ty e i z ht hi hz ⟨g,0,none⟩ n cap xs hown.1 holds a m c news hl hnews (by omega) (by omega) (growslice_fits (by omega) hbytes);have hgr:=hnew cap (Value.ownBlock (.slice (some ⟨g,0,none⟩) n cap));exact ⟨_,_,hr,hgr.1,hgr.2,.inr ⟨_,rfl,Nat.le_refl _⟩,by simp⟩
theorem wp_app {P:Program} (w:World) {o:Oper} {a:Act} {K:Act→World→Prop} {Q:Exit→Act→World→Prop} (s x:Operand) (t:TypeId)
  (ho:o.op = .call { callee:=.builtin .append,args:=#[s,x],argTypes:=#[t,t] })
  (base:Nat) (e:TypeId) (i:TypeInfo) (z:Value) (size bytes:Nat) (ht:P.underlying t=some (.slice e)) (hi:P.info? e=some i) (hz:i.zero=some z)
  (hsize:i.size=size) (hby:i.bytes=bytes) (hzs:z.cells.size=size) (hsz:0<size)
  (v:Value) (n:Nat) (xs:List Value) (hs:a.eval s=v) (hown:w.ownsRow base e size v n xs)
  (ad:Addr) (m c:Nat) (news:List Value) (hx:a.eval x = .slice (some ad) m c) (hl:news.length=m * size) (hnews:∀ j u,news[j]? = some u→w.cell? (ad.add j)=some u) (h1:∀ u∈news,u.oneCell'=true)
  (h63:n+m≤maxLen) (hbytes:(n+m) * bytes≤140737488355328) (hbase:base≤w.heap.size)
  (h:∀ v' w',w'.ownsRow base e size v' (n+m) (xs ++ news)→w.grownBy w' v.ownBlock→SameOrNew w v v'→(v' = .slice none 0 0 ↔ v = .slice none 0 0∧m=0)→K (a.put o.dst v') w'):o.wp P a w K Q:=by
 obtain ⟨v',w',hr,h2,h3,h4,h5⟩:=run_app (P:=P) w base t o.type e i z size bytes ht hi hz hsize hby hzs hsz v n xs hown ad m c news hl hnews h1 h63 hbytes hbase;unfold Oper.wp execOp;simp only [ho,resolve,invoke,builtin,Sem.run_bind,Sem.run_pure,Result.andThen_ok,List.map_toArray,List.map_cons,List.map_nil,hs,hx,hr];exact h v' w' h2 h3 h4 h5
def Rd (w:World) (size:Nat) (v:Value) (n:Nat) (xs:List Value):Prop :=
 ∃ ao cap,v = .slice ao n cap∧xs.length=n * size∧n≤maxLen∧((ao=none→cap=0)∧n≤cap∧cap≤maxLen)∧∀ j u,xs[j]? = some u→∃ b off,ao=some ⟨b,off,none⟩∧b<w.heap.size∧w.cell? ⟨b,off+j,none⟩=some u
theorem Rd.below {w w':World} {size n:Nat} {v:Value} {xs:List Value} (h:Rd w size v n xs) (hb:Below w.heap.size w w'):Rd w' size v n xs:=by
 obtain ⟨ao,cap,hv,hl,hm,hn,hc⟩:=h;refine ⟨ao,cap,hv,hl,hm,hn,fun j u hj => ?_⟩;obtain ⟨b,off,ha,hlt,hcell⟩:=hc j u hj;exact ⟨b,off,ha,Nat.lt_of_lt_of_le hlt hb.size,(hb.cell (p:=⟨b,off+j,none⟩) hlt).trans hcell⟩
theorem Rd.of_own {w:World} {base:Nat} {e:TypeId} {size n:Nat} {v:Value} {xs:List Value} (h:w.ownsRow base e size v n xs):Rd w size v n xs:=by
 rcases h.2 with ⟨rfl,rfl⟩ | ⟨g,cap,cur,rfl,hb,hg,hnc,hcm,hcs,htake⟩
 ·refine ⟨none,0,rfl,h.1,by simp,⟨fun _=>rfl,by simp,by simp⟩,fun j u hj => ?_⟩
  have:xs=[]:=List.eq_nil_of_length_eq_zero (by simpa using h.1)
  simp [this] at hj
 ·refine ⟨_,cap,rfl,h.1,Nat.le_trans hnc hcm,⟨(fun h=>by cases h),hnc,hcm⟩,fun j u hj=>⟨g,0,rfl,(Array.getElem?_eq_some_iff.1 hg).1,?_⟩⟩
  rw [Nat.zero_add,cell_of_row w g j cur e (0,0) hg];rw [← htake,List.getElem?_take] at hj
  split at hj
  ·simpa using hj
  ·cases hj
theorem wpList_app {P:Program} {ops:Array Oper} {rest:List Oper} {o:Oper} {a:Act} {Q:Exit→Act→World→Prop} (hgd:o.guard=none) (s x:Operand) (t:TypeId)
  (ho:o.op = .call { callee:=.builtin .append,args:=#[s,x],argTypes:=#[t,t] })
  (base:Nat) (e:TypeId) (z:Value) (size bytes:Nat) (ht:P.underlying t=some (.slice e)) (hinfo:(P.info? e).map (fun i=>(i.zero,i.size,i.bytes))=some (some z,size,bytes))
  (hzs:z.cells.size=size) (hsz:0<size) (hby:0<bytes)
  {W:World} (v:Value) (n:Nat) (xs:List Value) (hs:a.eval s=v) (hown:W.ownsRow base e size v n xs)
  {cs:Array Value} {fr:TypeId} (hx:a.eval x = .slice (some ⟨W.heap.size,0,none⟩) 1 1) (hcs:cs.size=size) (h1:∀ u∈cs.toList,u.oneCell'=true)
  (hbytes:(n+1) * bytes≤140737488355328) (hbase:base≤W.heap.size)
  (h:∀ v' w',w'.ownsRow base e size v' (n+1) (xs ++ cs.toList)→Below base W w'→W.grownBy w' v.ownBlock→SameOrNew W v v'→v' ≠ .slice none 0 0→wpList P ops Q rest (a.put o.dst v') w') :
  wpList P ops Q (o :: rest) a (W.alloc (.cells cs fr)):=by
 obtain ⟨i0,hi,hz0,hz1,hz2⟩:=info_parts hinfo;have hn1:n+1≤maxLen:=by
  have:n+1≤(n+1) * bytes:=Nat.le_mul_of_pos_right _ hby;unfold maxLen;omega
 refine wpList_plain hgd fun K hK=>wp_app _ s x t ho base e i0 z size bytes ht hi hz0 hz1 hz2 hzs hsz v n xs hs (hown.alloc _) ⟨W.heap.size,0,none⟩ 1 1 cs.toList hx (by simp [hcs]) ?_ h1 hn1 hbytes (by simp;omega) ?_
 ·intro j u hj
  have hadd:(⟨W.heap.size,0,none⟩:Addr).add j=⟨W.heap.size,j,none⟩:=by unfold Addr.add;split <;> simp_all
  rw [hadd,cell_of_row (W.alloc (.cells cs fr)) W.heap.size j cs fr (0,0) (heap_alloc_new W _)]
  simpa using hj
 ·intro v' w' ho' hg hsn hne
  have hg2:W.grownBy w' v.ownBlock:=by
   have ha:=World.grownBy_alloc W (.cells cs fr) v.ownBlock;refine ⟨hg.os.trans ha.os,hg.tape.trans ha.tape,hg.output.trans ha.output,Nat.le_trans ha.size hg.size,fun k hk hkr => ?_⟩;rw [hg.block k (by simp;omega) hkr,ha.block k hk hkr]
  refine hK _ _ (h v' w' ho' ?_ hg2 ?_ ?_)
  ·exact (Below.refl base W).grown hg2 hbase (fun k hk=>(hown.lt k hk).1)
  ·rcases hsn with h | ⟨g,h1,h2⟩
   ·exact .inl h
   ·exact .inr ⟨g,h1,by simp at h2;omega⟩
  ·intro hv;simp [hne] at hv
theorem wpList_apps {P:Program} {ops:Array Oper} {rest:List Oper} {o:Oper} {a:Act} {Q:Exit→Act→World→Prop} {w:World} (hgd:o.guard=none) (s x:Operand) (t:TypeId)
  (ho:o.op = .call { callee:=.builtin .append,args:=#[s,x],argTypes:=#[t,t] })
  (base:Nat) (e:TypeId) (z:Value) (size bytes:Nat) (ht:P.underlying t=some (.slice e)) (hinfo:(P.info? e).map (fun i=>(i.zero,i.size,i.bytes))=some (some z,size,bytes))
  (hzs:z.cells.size=size) (hsz:0<size) (hby:0<bytes)
  (v:Value) (n:Nat) (xs:List Value) (hs:a.eval s=v) (hown:w.ownsRow base e size v n xs)
  (u:Value) (m:Nat) (news:List Value) (hx:a.eval x=u) (hrd:Rd w size u m news) (h1:∀ u∈news,u.oneCell'=true)
  (hbytes:(n+m) * bytes≤140737488355328) (hbase:base≤w.heap.size)
  (h:∀ v' w',w'.ownsRow base e size v' (n+m) (xs ++ news)→Below base w w'→w.grownBy w' v.ownBlock→SameOrNew w v v'→(v' = .slice none 0 0 ↔ v = .slice none 0 0∧m=0)→wpList P ops Q rest (a.put o.dst v') w') :
  wpList P ops Q (o :: rest) a w:=by
 obtain ⟨i0,hi,hz0,hz1,hz2⟩:=info_parts hinfo;have hn1:n+m≤maxLen:=by
  have:n+m≤(n+m) * bytes:=Nat.le_mul_of_pos_right _ hby;unfold maxLen;omega
 obtain ⟨ao,cap,rfl,hl,hm,hcap,hc⟩:=hrd
 cases ao with
 | none =>
  obtain rfl:=hcap.1 rfl;have hnews:news=[]:=by
   cases news with
   | nil=>rfl
   | cons y ys=>obtain ⟨b,off,h0,_⟩:=hc 0 y rfl;cases h0
  subst hnews;have hm0:m=0:=by
   rcases Nat.eq_zero_or_pos m with h | h
   ·exact h
   ·have:=Nat.mul_pos h hsz;simp at hl;omega
  subst hm0;refine wpList_plain hgd fun K hK => ?_;have hrun:=run_append_owned_none (P:=P) w base t o.type e i0 size ht hi v n xs hown;unfold Oper.wp
  simp [execOp,ho,resolve,invoke,builtin,hs,hx,hrun,Result.andThen]
  exact hK _ _ (h v w (by simpa using hown) (Below.refl _ _) (World.grownBy.refl _ _) (.inl rfl) (by simp))
 | some ad =>
  by_cases hm0:m=0
  ·subst hm0
   have hnews:news=[]:=List.eq_nil_of_length_eq_zero (by simpa using hl);subst hnews;refine wpList_plain hgd fun K hK=>wp_app _ s x t ho base e i0 z size bytes ht hi hz0 hz1 hz2 hzs hsz v n xs hs hown ad 0 cap [] hx (by simp) (fun j u hj=>by simp at hj) (by simp) hn1 hbytes hbase ?_;intro v' w' ho' hg hsn hne;exact hK _ _ (h v' w' ho' ((Below.refl base w).grown hg hbase (fun k hk=>(hown.lt k hk).1)) hg hsn hne)
  ·have hpos:0<news.length:=by rw [hl];exact Nat.mul_pos (by omega) hsz
   obtain ⟨b,off,hb0,_⟩:=hc 0 news[0] (List.getElem?_eq_getElem hpos);obtain rfl:=Option.some.inj hb0;refine wpList_plain hgd fun K hK=>wp_app _ s x t ho base e i0 z size bytes ht hi hz0 hz1 hz2 hzs hsz v n xs hs hown ⟨b,off,none⟩ m cap news hx hl ?_ h1 hn1 hbytes hbase ?_
   ·intro j u hj
    obtain ⟨b',off',hb1,_,hcell⟩:=hc j u hj;obtain ⟨rfl,rfl⟩:b=b'∧off=off':=by simpa using hb1
    rw [Addr.add_lit];exact hcell
   ·intro v' w' ho' hg hsn hne
    exact hK _ _ (h v' w' ho' ((Below.refl base w).grown hg hbase (fun k hk=>(hown.lt k hk).1)) hg hsn hne)
theorem wpList_mk {P:Program} {ops:Array Oper} {rest:List Oper} {o:Oper} {a:Act} {Q:Exit→Act→World→Prop} {w:World} (hgd:o.guard=none) (l c:Operand) (t:TypeId) (ho:o.op=Op.makeSlice t l c)
  (base:Nat) (e:TypeId) (z:Value) (size bytes:Nat) (ht:P.underlying t=some (.slice e)) (hinfo:(P.info? e).map (fun i=>(i.zero,i.size,i.bytes))=some (some z,size,bytes)) (hby:0<bytes)
  (kl kc:IntKind) (L C:Int) (n:Nat) (hl:a.eval l = .int kl L) (hc:a.eval c = .int kc C) (hL:L=(n:Int)) (hC:C=(n:Int)) (hb:bytes * n≤281474976710656) (hbase:base≤w.heap.size)
  (h:∀ w',w'.ownsRow base e size (.slice (some ⟨w.heap.size,0,none⟩) n n) n (madeCells z.cells (n * size)).toList→Below base w w'→wpList P ops Q rest (a.put o.dst (.slice (some ⟨w.heap.size,0,none⟩) n n)) w') :
  wpList P ops Q (o :: rest) a w:=by
 obtain ⟨i0,hi,hz0,hz1,hz2⟩:=info_parts hinfo;have hn1:n≤maxLen:=by
  have:n≤bytes * n:=Nat.le_mul_of_pos_left _ hby;unfold maxLen;omega
 exact wpList_make_full _ hgd l c t ho base e i0 z size ht hi hz0 hz1 kl kc L C n hl hc hL hC (by rw [hz2];exact hb) hn1 hbase fun w' ho' hg=>h w' ho' ((Below.refl base w).grown hg hbase (fun _ h=>by cases h))
theorem bthen {a w w':World} (h:Below a.heap.size a w) (k:Below w.heap.size w w'):Below a.heap.size a w':=h.trans (k.mono h.size)
theorem balloc {a w:World} (h:Below a.heap.size a w) (o:Obj):Below a.heap.size a (w.alloc o):=h.alloc h.size o
def cutA (ao:Option Addr) (cap l size:Nat):Option Addr:=if cap=l then ao else ao.map (·.add (l * size))
theorem run_cut {P:Program} (w:World) (t:TypeId) (ao:Option Addr) (n cap size:Nat) (ht:P.underlying t=some (.slice (P.elem t))) (hs:∀ w,(sizeOf (P.elem t)).run P w = .ok size w) (l h:Int) (h0:0≤l) (h1:l≤h) (h2:h≤cap) :
  (Instr.slice t (.slice ao n cap) (some (.int .i64 l)) (some (.int .i64 h)) none).run P w = .ok (.slice (cutA ao cap l.toNat size) (h.toNat - l.toNat) (cap - l.toNat)) w:=by
 rw [run_slice_lh w t ao n cap ht .i64 .i64 l h h0 h1 h2,hs]
 rfl
theorem Rd.cut {w:World} {size n cap:Nat} {ao:Option Addr} {xs:List Value} (h:Rd w size (.slice ao n cap) n xs) {l k:Nat} (h1:l≤k) (h2:k≤n) :
  Rd w size (.slice (cutA ao cap l size) (k - l) (cap - l)) (k - l) ((xs.drop (l * size)).take ((k - l) * size)):=by
 obtain ⟨ao',cap',he,hl,hm,⟨hn,hnc,hcm⟩,hc⟩:=h;simp only [Value.slice.injEq,true_and] at he;obtain ⟨rfl,rfl⟩:=he;have hlen:((xs.drop (l * size)).take ((k - l) * size)).length=(k - l) * size:=by
  rw [List.length_take,List.length_drop,hl];have:k * size≤n * size:=Nat.mul_le_mul_right _ h2;rw [Nat.sub_mul];omega
 refine ⟨_,_,rfl,hlen,by omega,⟨fun hcut => ?_,by omega,by omega⟩,fun j u hj => ?_⟩
 ·unfold cutA at hcut
  split at hcut
  ·omega
  ·have:ao=none:=by cases ao <;> simp_all
   have:=hn this;omega
 ·have hjl:j<(k - l) * size:=by
   rw [← hlen];exact (List.getElem?_eq_some_iff.1 hj).1
  rw [List.getElem?_take,if_pos hjl,List.getElem?_drop] at hj;obtain ⟨b,off,ha,hb,hcell⟩:=hc _ u hj;have hlk:cap≠l:=by
   intro e;have:k - l=0:=by omega
   rw [this] at hjl
   simp at hjl
  refine ⟨b,off+l * size,?_,hb,by rw [Nat.add_assoc];exact hcell⟩;unfold cutA;rw [if_neg hlk,ha];simp only [Option.map_some,Option.some.injEq];exact Addr.add_lit _ _ _
end Go.Proofs.YthkmihedkddnmaaGreat
namespace Go.Proofs.YthkmihedkddnmaaGreat
open Lib (hid)
open Go.RowKit
structure Mods (F:List Nat) (w w':World):Prop where
 os:w'.os=w.os
 tape:w'.tape=w.tape
 output:w'.output=w.output
 size:w.heap.size≤w'.heap.size
 block:∀ k,k<w.heap.size→k∉F→w'.heap[k]? = w.heap[k]?
theorem Mods.refl (F:List Nat) (w:World):Mods F w w:=⟨rfl,rfl,rfl,Nat.le_refl _,fun _ _ _=>rfl⟩
theorem Mods.trans {F G:List Nat} {a b c:World} (h:Mods F a b) (k:Mods G b c) (hG:∀ i∈G,i∈F∨a.heap.size≤i):Mods F a c :=
 ⟨k.os.trans h.os,k.tape.trans h.tape,k.output.trans h.output,Nat.le_trans h.size k.size,fun i hi hF =>
  (k.block i (Nat.lt_of_lt_of_le hi h.size) (fun hg=>by rcases hG i hg with h1 | h1;exact hF h1;omega)).trans (h.block i hi hF)⟩
theorem Mods.of_below {F:List Nat} {w w':World} (h:Below w.heap.size w w'):Mods F w w':=⟨h.os,h.tape,h.output,h.size,fun k hk _=>h.block k hk⟩
theorem Mods.thenBelow {F:List Nat} {a b c:World} (h:Mods F a b) (k:Below b.heap.size b c):Mods F a c :=
 ⟨k.os.trans h.os,k.tape.trans h.tape,k.output.trans h.output,Nat.le_trans h.size k.size,fun i hi hF=>(k.block i (Nat.lt_of_lt_of_le hi h.size)).trans (h.block i hi hF)⟩
theorem Mods.alloc {F:List Nat} {a b:World} (h:Mods F a b) (o:Obj):Mods F a (b.alloc o):=h.thenBelow (balloc (Below.refl _ b) o)
theorem Mods.drew {F:List Nat} {a b:World} (h:Mods F a b):Mods F a b.drew:=h.thenBelow (Below.refl _ b).drew
theorem Mods.drewN {F:List Nat} {a b:World} (h:Mods F a b) (n:Nat):Mods F a (b.drewN n):=h.thenBelow (below_drewN (Below.refl _ b) n)
theorem Mods.setCell {F:List Nat} {a b:World} (h:Mods F a b) {p:Addr} (hp:p.block∈F) (u:Value):Mods F a (b.setCell p u) :=
 ⟨h.os,h.tape,h.output,by simpa [World.setCell] using h.size,fun k hk hF=>(Below.heap_setCell b p u k (fun e=>hF (e ▸ hp))).trans (h.block k hk hF)⟩
theorem Mods.below {F:List Nat} {w w':World} {B:Nat} (h:Mods F w w') (hF:∀ k∈F,B≤k) (hB:B≤w.heap.size):Below B w w' :=
 ⟨h.os,h.tape,h.output,h.size,fun k hk=>h.block k (Nat.lt_of_lt_of_le hk hB) (fun hk2=>by have:=hF k hk2;omega)⟩
theorem Mods.mono {F G:List Nat} {w w':World} (h:Mods F w w') (hFG:∀ k∈F,k∈G):Mods G w w':=⟨h.os,h.tape,h.output,h.size,fun k hk hn=>h.block k hk (fun e=>hn (hFG k e))⟩
def SameAt (F:List Nat) (w w':World):Prop:=∀ k∈F,w'.heap[k]? = w.heap[k]?
theorem Mods.same {F G:List Nat} {w w':World} (h:Mods F w w') (hG:∀ k∈G,k<w.heap.size∧k∉F):SameAt G w w':=fun k hk=>h.block k (hG k hk).1 (hG k hk).2
theorem cellOf {w:World} {b:Nat} {cs:Array Value} {t:TypeId} {fr:Nat × Nat} (h:w.heap[b]? = some (.cells cs t fr)) (i:Nat) {v:Value} (hv:cs[i]? = some v):w.cell? ⟨b,i,none⟩=some v:=by
 rw [cell_of_row w b i cs t fr h];exact hv
theorem frozenOf {w:World} {b:Nat} {cs:Array Value} {t:TypeId} (h:w.heap[b]? = some (.cells cs t (0,0))) (i:Nat):w.frozen? ⟨b,i,none⟩=false:=frozen_of_row w b i cs t h
theorem setOf {w:World} {b:Nat} {cs:Array Value} {t:TypeId} {fr:Nat × Nat} (h:w.heap[b]? = some (.cells cs t fr)) (i:Nat) (u:Value):(w.setCell ⟨b,i,none⟩ u).heap[b]? = some (.cells (cs.setIfInBounds i u) t fr):=by
 simp [World.setCell,Array.getElem?_modify,h]
theorem setOther {w:World} {b:Nat} (p:Addr) (u:Value) (hne:b≠p.block):(w.setCell p u).heap[b]? = w.heap[b]?:=Below.heap_setCell w p u b hne
end Go.Proofs.YthkmihedkddnmaaGreat
namespace Go.Proofs.YthkmihedkddnmaaGreat
open Lib (hid)
open Go.RowKit
theorem ownsRow_base {w:World} {base base':Nat} {e:TypeId} {size n:Nat} {v:Value} {xs:List Value} (h:w.ownsRow base e size v n xs) (hb:base'≤base):w.ownsRow base' e size v n xs:=by
 refine ⟨h.1,?_⟩
 rcases h.2 with h | ⟨g,cap,cur,hv,hg,r⟩
 ·exact .inl h
 ·exact .inr ⟨g,cap,cur,hv,Nat.le_trans hb hg,r⟩
theorem ownsRow_below {w w':World} {base:Nat} {e:TypeId} {size n:Nat} {v:Value} {xs:List Value} (h:w.ownsRow base e size v n xs) (hb:Below w.heap.size w w'):w'.ownsRow base e size v n xs:=by
 refine ⟨h.1,?_⟩
 rcases h.2 with h | ⟨g,cap,cur,hv,hg,hh,r⟩
 ·exact .inl h
 ·exact .inr ⟨g,cap,cur,hv,hg,(hb.block g (Array.getElem?_eq_some_iff.1 hh).1).trans hh,r⟩
def bV (bs:List UInt8):List Value:=bs.map fun b=>.int .u8 b.toNat
theorem bV_len (bs:List UInt8):(bV bs).length=bs.length:=by simp [bV]
theorem bV_app (a b:List UInt8):bV (a ++ b)=bV a ++ bV b:=by simp [bV]
theorem bV_get {bs:List UInt8} {j:Nat} {b:UInt8} (h:bs[j]? = some b):(bV bs)[j]? = some (.int .u8 b.toNat):=by simp [bV,h]
theorem bV_one (bs:List UInt8):∀ u∈bV bs,u.oneCell'=true:=by
 intro u hu;obtain ⟨b,_,rfl⟩:=List.mem_map.1 hu
 rfl
theorem byte_lt (b:UInt8):b.toNat<256:=UInt8.toNat_lt b
theorem infoByte:(Tryz.prog.info? 5).map (fun i=>(i.zero,i.size,i.bytes))=some (some (.int .u8 0),1,1):=by kernel_rfl
def strB (bs:List UInt8):ByteArray:=⟨bs.toArray⟩
theorem run_text (w:World) (v:Value) (n:Nat) (bs:List UInt8) (h:Rd w 1 v n (bV bs)):(convert 33 9 v).run Tryz.prog w = .ok (.string (strB bs)) w:=by
 obtain ⟨ao,cap,rfl,hl,hm,hn,hc⟩:=h;rw [bV_len,Nat.mul_one] at hl
 cases ao with
 | none =>
  have hb:bs=[]:=by
   cases bs with
   | nil=>rfl
   | cons y ys=>obtain ⟨b,off,h0,_⟩:=hc 0 _ (bV_get rfl);cases h0
  subst hb;exact run_convert_bytes_nil w 33 5 Tryz.underlying33 Tryz.underlying5 n cap 9 Tryz.underlying9
 | some ad =>
  obtain ⟨xs,hxs⟩:∃ xs:List Int,xs=bs.map fun b=>(b.toNat:Int):=⟨_,rfl⟩
  have hsn:strOfNums xs=strB bs:=by
   subst hxs;simp only [strOfNums,strB,List.map_map]
   congr 2
   conv=>rhs;rw [← List.map_id bs]
   apply List.map_congr_left
   intro b _
   simp
  rw [← hsn]
  cases n with
  | zero =>
   have hb:bs=[]:=List.eq_nil_of_length_eq_zero hl;subst hb;subst hxs;have hl0:(loadCells ad 0).run Tryz.prog w = .ok ([].map (Value.int .u8)).toArray w:=by
    have:=run_loadCells_list (P:=Tryz.prog) w ad [] (fun j v hj=>by simp at hj)
    simpa using this
   rw [run_convert_bytes_string w 33 9 5 _ 0 cap Tryz.underlying33 Tryz.underlying5 Tryz.underlying9,run_bytesToString w _ 0 cap [] hl0]
   rfl
  | succ n =>
   obtain ⟨b0,hb0⟩:∃ b0,bs[0]? = some b0:=⟨_,List.getElem?_eq_getElem (by omega)⟩
   obtain ⟨b,off,h0,_⟩:=hc 0 _ (bV_get hb0);obtain rfl:=Option.some.inj h0;refine run_convert_bytes_arg w 33 5 Tryz.underlying33 Tryz.underlying5 b off (n+1) cap xs (by rw [hxs,List.length_map];exact hl) ?_ 9 Tryz.underlying9;intro i hi;obtain ⟨bi,hbi⟩:∃ bi,bs[i]? = some bi:=⟨_,List.getElem?_eq_getElem (by omega)⟩
   obtain ⟨b',off',h1,_,hcell⟩:=hc i _ (bV_get hbi);obtain ⟨rfl,rfl⟩:b=b'∧off=off':=by simpa using h1
   rw [hcell];subst hxs
   simp [List.getD,hbi]
theorem clone8 (v:Value) (n:Nat) (bs:List UInt8) (w:World) (h:Rd w 1 v n (bV bs)) (hn:n≤140737488355328) :
  Calls Tryz.prog 101 #[v] w fun e w'=>∃ v',e = .returned v'∧w'.ownsRow w.heap.size 5 1 v' n (bV bs)∧Below w.heap.size w w':=by
 have hrd:=h;obtain ⟨ao,cap,rfl,hl,hm,hcap,hc⟩:=h
 cases ao with
 | none =>
  obtain rfl:=hcap.1 rfl;have hb:bs=[]:=by
   cases bs with
   | nil=>rfl
   | cons y ys=>obtain ⟨b,off,h0,_⟩:=hc 0 _ (bV_get rfl);cases h0
  subst hb;obtain rfl:n=0:=by simpa [bV] using hl.symm
  clear hl hm hcap hc hrd;have he:=fun w a n c=>Lib.run_eql_slice_nil (P:=Tryz.prog) w 33 5 a n c 0 0 Tryz.underlying33
  go_enter Tryz.func101,Tryz.ntmps101
  go_wp2;go_ret;exact ⟨_,rfl,World.ownsRow_nil _ _ _ _,Below.refl _ _⟩
 | some ad =>
  clear hl hm hcap hc;have he:=fun w a n c=>Lib.run_eql_slice_nil (P:=Tryz.prog) w 33 5 a n c 0 0 Tryz.underlying33;have ho0:(w.alloc (.cells #[] 5)).ownsRow w.heap.size 5 1 (.slice (some ⟨w.heap.size,0,none⟩) 0 0) 0 []:=World.ownsRow_made w #[] 0 (Nat.le_refl _) (by decide) rfl;have hrd2:=hrd.below (balloc (Below.refl _ w) (.cells #[] 5))
  go_enter Tryz.func101,Tryz.ntmps101
  go_wp2_with (at_builtin;go_must (refine wpList_apps rfl _ _ 33 rfl w.heap.size 5 _ 1 1 Tryz.underlying33 infoByte rfl (by decide) (by decide) _ 0 [] rfl ho0 _ n (bV bs) rfl hrd2 (bV_one bs) (by omega) (by simp) ?_);intro v' w1 ho1 hb1 _ _ _)
  go_ret;exact ⟨_,rfl,by simpa using ho1,(balloc (Below.refl _ w) _).trans hb1⟩
end Go.Proofs.YthkmihedkddnmaaGreat
namespace Go.Proofs.YthkmihedkddnmaaGreat
open Lib (hid)
open Go.RowKit
structure KpF (Fp:World→Nat→Prop) (W W':World):Prop where
 size:W.heap.size≤W'.heap.size
 good:(∀ k,Fp W k→k<W.heap.size)→∀ k,Fp W' k→k<W'.heap.size
 keeps:∀ k,k<W.heap.size → ¬ Fp W k→∀ o,W.heap[k]? = some o→o.isCells=true→W'.heap[k]? = some o
 old:∀ k,k<W.heap.size→Fp W' k→Fp W k
theorem KpF.trans {Fp:World→Nat→Prop} {A B C:World} (h:KpF Fp A B) (k:KpF Fp B C):KpF Fp A C :=
 ⟨Nat.le_trans h.size k.size,fun g=>k.good (h.good g),
  fun i h2 h3 o ho hc=>k.keeps i (Nat.lt_of_lt_of_le h2 h.size) (fun hf=>h3 (h.old i h2 hf)) o (h.keeps i h2 h3 o ho hc) hc,
  fun i hi hf=>h.old i hi (k.old i (Nat.lt_of_lt_of_le hi h.size) hf)⟩
theorem KpF.put {Fp:World→Nat→Prop} {w:World} (hF:∀ (W:World) (l:Nat) (o o':Obj) (k:Nat),w.heap.size≤l→W.heap[l]? = some o→o.isCells=false→Fp (W.putObj l o') k→Fp W k)
  (W:World) (l:Nat) (o o':Obj) (hl:w.heap.size≤l) (h:W.heap[l]? = some o) (hc:o.isCells=false) (_:o.isWalk=false):KpF Fp W (W.putObj l o'):=by
 have hs:W.heap.size≤(W.putObj l o').heap.size:=(grownBy_putObj' W l o').size;refine ⟨hs,fun g k hk=>Nat.lt_of_lt_of_le (g k (hF W l o o' k hl h hc hk)) hs,fun k hk _ o2 ho hcc => ?_,fun k _ hk=>hF W l o o' k hl h hc hk⟩;have hne:k≠l:=by
  rintro rfl;rw [h] at ho;obtain rfl:=Option.some.inj ho;rw [hc] at hcc
  cases hcc
 exact (World.putObj_heap_other hne).trans ho
theorem KpF.refl (Fp:World→Nat→Prop) (W:World):KpF Fp W W:=⟨Nat.le_refl _,fun g=>g,fun _ _ _ _ ho _=>ho,fun _ _ h=>h⟩
theorem KpF.alloc {Fp:World→Nat→Prop} {A W:World} (h:KpF Fp A W) (o:Obj) (hF:∀ k,Fp (W.alloc o) k→Fp W k):KpF Fp A (W.alloc o) :=
 h.trans ⟨by simp,fun g k hk=>Nat.lt_of_lt_of_le (g k (hF k hk)) (by simp),fun k hk _ o2 ho _=>(Below.heap_alloc W o k hk).trans ho,fun k _ hk=>hF k hk⟩
theorem KpF.setCell {Fp:World→Nat→Prop} {W:World} (p:Addr) (u:Value) (hp:Fp W p.block) (hF:∀ k,Fp (W.setCell p u) k→Fp W k):KpF Fp W (W.setCell p u) :=
 ⟨by simp [World.setCell],fun g k hk=>by have:=g k (hF k hk);simpa [World.setCell] using this,
  fun k _ hk o ho _=>(Below.heap_setCell W p u k (fun e=>hk (e ▸ hp))).trans ho,fun k _ hk=>hF k hk⟩
theorem cells_of_cell {w:World} {a:Addr} {v:Value} (h:w.cell? a=some v):∃ c e fr,w.heap[a.block]? = some (.cells c e fr):=by
 unfold World.cell? at h
 split at h
 ·exact ⟨_,_,_,by assumption⟩
 ·cases h
theorem KpF.cell {Fp:World→Nat→Prop} {W W':World} (h:KpF Fp W W') {a:Addr} {v:Value} (hc:W.cell? a=some v) (hn : ¬ Fp W a.block):W'.cell? a=some v:=by
 obtain ⟨c,e,fr,hb⟩:=cells_of_cell hc;have:=h.keeps a.block (Array.getElem?_eq_some_iff.1 hb).1 hn _ hb rfl;rw [World.cell?_of_block (w:=W) (this.trans hb.symm)];exact hc
theorem newCell (W:World) (v:Value) (t:TypeId):(W.alloc (.cells #[v] t)).cell? ⟨W.heap.size,0,none⟩=some v∧(W.alloc (.cells #[v] t)).frozen? ⟨W.heap.size,0,none⟩=false :=
 ⟨by rw [cell_of_row _ W.heap.size 0 #[v] t (0,0) (heap_alloc_new W _)];rfl,frozen_of_row _ W.heap.size 0 #[v] t (heap_alloc_new W _)⟩
theorem cellAlloc {W:World} {a:Addr} {v:Value} (o:Obj) (h:W.cell? a=some v):(W.alloc o).cell? a=some v:=cell_kept h (World.grownBy_alloc W o none) (fun r e=>by cases e)
theorem frozenAlloc {W:World} {a:Addr} {v:Value} (o:Obj) (h:W.cell? a=some v) (hf:W.frozen? a=false):(W.alloc o).frozen? a=false:=(frozen_kept h (World.grownBy_alloc W o none) (fun r e=>by cases e)).trans hf
theorem rowKept {W W':World} {row:Option Nat} {b:Nat} {c:Array Value} {e:TypeId} {fr:Nat × Nat} (h:W.heap[b]? = some (.cells c e fr)) (hg:W.grownBy W' row) (hr:∀ r,row=some r→∃ o:Obj,W.heap[r]? = some o∧o.isCells=false):W'.heap[b]? = some (.cells c e fr):=by
 refine (hg.block b (Array.getElem?_eq_some_iff.1 h).1 (fun e' => ?_)).trans h;obtain ⟨o,ho,hc⟩:=hr b e'.symm;rw [h] at ho;cases ho;cases hc
theorem wpListIn_app {F:Fence} {fn:Nat} {P:Program} {ops:Array Oper} {rest:List Oper} {o:Oper} {a:Act} {Q:Exit→Act→World→Prop} (hgd:o.guard=none) (s x:Operand) (t:TypeId)
  (ho:o.op = .call { callee:=.builtin .append,args:=#[s,x],argTypes:=#[t,t] })
  (base:Nat) (e:TypeId) (z:Value) (size bytes:Nat) (ht:P.underlying t=some (.slice e)) (hinfo:(P.info? e).map (fun i=>(i.zero,i.size,i.bytes))=some (some z,size,bytes))
  (hzs:z.cells.size=size) (hsz:0<size) (hby:0<bytes)
  {W:World} (v:Value) (n:Nat) (xs:List Value) (hs:a.eval s=v) (hown:W.ownsRow base e size v n xs)
  {cs:Array Value} {fr:TypeId} (hx:a.eval x = .slice (some ⟨W.heap.size,0,none⟩) 1 1) (hcs:cs.size=size) (h1:∀ u∈cs.toList,u.oneCell'=true)
  (hbytes:(n+1) * bytes≤140737488355328) (hbase:base≤W.heap.size)
  (h:∀ v' w',w'.ownsRow base e size v' (n+1) (xs ++ cs.toList)→(W.alloc (.cells cs fr)).grownBy w' v.ownBlock→SameOrNew W v v'→v' ≠ .slice none 0 0→wpListIn F fn P ops Q rest (a.put o.dst v') w') :
  wpListIn F fn P ops Q (o :: rest) a (W.alloc (.cells cs fr)):=by
 obtain ⟨i0,hi,hz0,hz1,hz2⟩:=info_parts hinfo;have hn1:n+1≤maxLen:=by
  have:n+1≤(n+1) * bytes:=Nat.le_mul_of_pos_right _ hby;unfold maxLen;omega
 refine wpListIn_plain hgd fun K hK' => ?_;obtain ⟨v',w',hrun,r1,r2,r3,r4⟩:=run_app (P:=P) (W.alloc (.cells cs fr)) base t o.type e i0 z size bytes ht hi hz0 hz1 hz2 hzs hsz v n xs (hown.alloc _) ⟨W.heap.size,0,none⟩ 1 1 cs.toList (by simp [hcs]) (by
  intro j u hj;have hadd:(⟨W.heap.size,0,none⟩:Addr).add j=⟨W.heap.size,j,none⟩:=by unfold Addr.add;split <;> simp_all
  rw [hadd,cell_of_row (W.alloc (.cells cs fr)) W.heap.size j cs fr (0,0) (heap_alloc_new W _)]
  simpa using hj) h1 hn1 hbytes (by simp;omega)
 unfold Oper.wpIn;refine ⟨?_,?_⟩
 ·simp [Oper.about,ho,resolve,Target.leads,Sem.run_pure]
 ·rw [Oper.semAt_plain F _ _ (by rw [ho];intro c hc';cases hc')]
  simp [execOp,ho,resolve,invoke,builtin,hs,hx,hrun,Result.andThen]
  refine hK' _ _ (h v' w' r1 r2 ?_ (fun hv=>by simp [r4] at hv))
  rcases r3 with h | ⟨g,h1,h2⟩
  ·exact .inl h
  ·exact .inr ⟨g,h1,by simp at h2;omega⟩
def FpOut (B:Nat) (W:World) (k:Nat):Prop:=k=B∨∃ n cap,W.cell? ⟨B,0,none⟩=some (.slice (some ⟨k,0,none⟩) n cap)
theorem FpOut.alloc {B:Nat} {W:World} (hB:B<W.heap.size) (o:Obj) {k:Nat} (h:FpOut B (W.alloc o) k):FpOut B W k:=by
 rcases h with h | ⟨n,cap,h⟩
 ·exact .inl h
 ·exact .inr ⟨n,cap,by rw [← h];exact (World.cell?_of_block (w:=W) (Below.heap_alloc W o B hB)).symm⟩
theorem FpOut.put {B:Nat} {w:World} (hB:B<w.heap.size) (W:World) (l:Nat) (o o':Obj) (k:Nat) (hl:w.heap.size≤l) (_:W.heap[l]? = some o) (_:o.isCells=false) (h:FpOut B (W.putObj l o') k):FpOut B W k:=by
 rcases h with h | ⟨n,cap,h⟩
 ·exact .inl h
 ·exact .inr ⟨n,cap,by rw [← h];exact (World.cell?_of_block (w:=W) (World.putObj_heap_other (show B≠l by omega))).symm⟩
theorem FpOut.start {B:Nat} {w:World} (hB:B<w.heap.size) (hnil:w.cell? ⟨B,0,none⟩=some (.slice none 0 0)) (W:World) (hW:Below w.heap.size w W) {k:Nat} (h:FpOut B W k):k=B:=by
 rcases h with h | ⟨n,cap,h⟩
 ·exact h
 ·rw [hW.cell (p:=⟨B,0,none⟩) hB,hnil] at h
  simp at h
theorem KpF.appended {W w1:World} {n₀ B:Nat} {t e:TypeId} {size:Nat} {v v':Value} {k:Nat} {xs:List Value} {tmp:Obj}
  (hv:Boxed W B t v) (hte:t≠e) (hrow:W.ownsRow n₀ e size v k xs) (hgrow:(W.alloc tmp).grownBy w1 v.ownBlock) (hsn:SameOrNew W v v') {m:Nat} {ys:List Value} (hown':w1.ownsRow n₀ e size v' m ys) :
  KpF (FpOut B) W (w1.setCell ⟨B,0,none⟩ v'):=by
 have hv1:Boxed w1 B t v:=(hv.alloc tmp).kept hgrow (hv.not_row hte hrow);have hs1:W.heap.size≤w1.heap.size:=by have:=hgrow.size;simp at this;omega
 have hc2:(w1.setCell ⟨B,0,none⟩ v').cell? ⟨B,0,none⟩=some v':=(hv1.set v').cell;have hin:∀ i,FpOut B (w1.setCell ⟨B,0,none⟩ v') i→i=B∨v'.ownBlock=some i:=by
  intro i hi
  rcases hi with h | ⟨n,cap,h⟩
  ·exact .inl h
  ·rw [hc2] at h
   obtain rfl:=Option.some.inj h;exact .inr rfl
 have hof:∀ i,v.ownBlock=some i→FpOut B W i:=by
  intro i hi
  rcases hrow.2 with ⟨rfl,_⟩ | ⟨g,cap,cur,rfl,_⟩
  ·simp [Value.ownBlock] at hi
  ·simp [Value.ownBlock] at hi
   subst hi;exact .inr ⟨_,_,hv.cell⟩
 refine ⟨by simpa [World.setCell] using hs1,fun _ i hi => ?_,fun i hi hn o ho hc => ?_,fun i hi hf => ?_⟩
 ·have e:(w1.setCell ⟨B,0,none⟩ v').heap.size=w1.heap.size:=by simp [World.setCell]
  rw [e]
  rcases hin i hi with rfl | h
  ·exact hv1.lt
  ·exact (hown'.lt i h).2
 ·rw [Below.heap_setCell _ _ _ _ (fun e=>hn (.inl e)),hgrow.block i (by simp;omega) (fun e=>hn (hof i e.symm)),Below.heap_alloc _ _ _ hi]
  exact ho
 ·rcases hin i hf with rfl | h
  ·exact .inl rfl
  ·rcases hsn with h2 | ⟨g,h2,h3⟩
   ·exact hof i (h2 ▸ h)
   ·rw [h2] at h
    cases h
    omega
end Go.Proofs.YthkmihedkddnmaaGreat
namespace Go.Proofs.YthkmihedkddnmaaGreat
open Lib (hid)
open Go.RowKit
def Chg (F:List Nat) (w w':World) (F':List Nat):Prop:=Mods F w w'∧∀ k∈F',k∈F∨w.heap.size≤k
theorem Chg.refl (F:List Nat) (w:World):Chg F w w F:=⟨Mods.refl F w,fun k h=>.inl h⟩
theorem Chg.trans {F G H:List Nat} {a b c:World} (h:Chg F a b G) (k:Chg G b c H):Chg F a c H :=
 ⟨h.1.trans k.1 h.2,fun i hi=>by
  rcases k.2 i hi with h1 | h1
  ·exact h.2 i h1
  ·exact .inr (Nat.le_trans h.1.size h1)⟩
theorem Chg.of_below {F:List Nat} {w w':World} (h:Below w.heap.size w w'):Chg F w w' F:=⟨Mods.of_below h,fun k hk=>.inl hk⟩
theorem Chg.below {F F':List Nat} {w w':World} {B:Nat} (h:Chg F w w' F') (hF:∀ k∈F,B≤k) (hB:B≤w.heap.size):Below B w w':=h.1.below hF hB
theorem Chg.cell {F F':List Nat} {w w':World} (h:Chg F w w' F') {p:Addr} (hp:p.block<w.heap.size) (hn:p.block∉F):w'.cell? p=w.cell? p:=World.cell?_of_block (h.1.block _ hp hn)
theorem Chg.size {F F':List Nat} {w w':World} (h:Chg F w w' F'):w.heap.size≤w'.heap.size:=h.1.size
def ob (v:Value):List Nat:=v.ownBlock.toList
theorem ob_nil:ob (.slice none 0 0)=[]:=rfl
theorem ob_some (g n c:Nat):ob (.slice (some ⟨g,0,none⟩) n c)=[g]:=rfl
theorem Chg.of_grown {w w':World} {v v':Value} (hg:w.grownBy w' v.ownBlock) (hs:SameOrNew w v v'):Chg (ob v) w w' (ob v'):=by
 refine ⟨⟨hg.os,hg.tape,hg.output,hg.size,fun k hk hn=>hg.block k hk (fun e=>hn (by simp [ob,← e]))⟩,fun k hk => ?_⟩
 rcases hs with h | ⟨g,h1,h2⟩
 ·exact .inl (by unfold ob at hk ⊢;rwa [h] at hk)
 ·right
  unfold ob at hk;rw [h1] at hk
  simp at hk
  omega
theorem Chg.pre {F F':List Nat} {w0 w w':World} (hb:Below w0.heap.size w0 w) (h:Chg F w w' F'):Chg F w0 w' F':=(Chg.of_below hb).trans h
theorem Chg.post {F F':List Nat} {w w' w1:World} (h:Chg F w w' F') (hb:Below w'.heap.size w' w1):Chg F w w1 F':=h.trans (Chg.of_below hb)
theorem ownsRow_ge {w:World} {base:Nat} {e:TypeId} {size n:Nat} {v:Value} {xs:List Value} (h:w.ownsRow base e size v n xs):∀ k∈ob v,base≤k:=by
 intro k hk;unfold ob at hk;rw [Option.mem_toList] at hk;exact (h.lt k hk).1
theorem ownsRow_lt {w:World} {base:Nat} {e:TypeId} {size n:Nat} {v:Value} {xs:List Value} (h:w.ownsRow base e size v n xs):∀ k∈ob v,k<w.heap.size:=by
 intro k hk;unfold ob at hk;rw [Option.mem_toList] at hk;exact (h.lt k hk).2
theorem ownsRow_at {w w':World} {base:Nat} {e:TypeId} {size n:Nat} {v:Value} {xs:List Value} (h:w.ownsRow base e size v n xs) (hs:∀ k∈ob v,w'.heap[k]? = w.heap[k]?):w'.ownsRow base e size v n xs:=by
 refine ⟨h.1,?_⟩
 rcases h.2 with h | ⟨g,cap,cur,rfl,hg,hh,r⟩
 ·exact .inl h
 ·exact .inr ⟨g,cap,cur,rfl,hg,(hs g (by simp [ob_some])).trans hh,r⟩
end Go.Proofs.YthkmihedkddnmaaGreat
namespace Go.Proofs.YthkmihedkddnmaaGreat.Wire
open Lib (hid)
def widI (r:Int):Nat:=if r=49 then 1 else if r=50 then 2 else if r=52 then 4 else if r=56 then 8 else if r=63 then 1 else if r=42 then 4 else if r=35 then 256 else 0
def wid (c:UInt8):Nat:=widI (c.toNat:Int)
theorem widI_le (r:Int):widI r≤256:=by unfold widI;(repeat' split) <;> omega
theorem widI_big {r:Int} (h:128≤r):widI r=0:=by unfold widI;repeat rw [if_neg (by omega)]
theorem wid_small {c:UInt8} (h:wid c≠0):c.toNat<128:=by
 rcases Nat.lt_or_ge c.toNat 128 with h1 | h1
 ·exact h1
 ·exact absurd (widI_big (r:=(c.toNat:Int)) (by omega)) h
def may (s:List UInt8):Bool:=s.all fun c=>wid c != 0
def sumW (s:List UInt8):Nat:=(s.map wid).sum
def least (s:List UInt8):Nat:=if may s then sumW s else 0
theorem may_cons (c:UInt8) (s:List UInt8):may (c :: s)=(wid c != 0 && may s):=by simp [may]
theorem sumW_cons (c:UInt8) (s:List UInt8):sumW (c :: s)=wid c+sumW s:=by simp [sumW]
theorem sumW_le (s:List UInt8):sumW s≤256 * s.length:=by
 induction s with
 | nil=>simp [sumW]
 | cons c s ih=>rw [sumW_cons,List.length_cons];have:=widI_le (c.toNat:Int);unfold wid;omega
def low:Nat→Nat→List UInt8
 | _,0=>[]
 | n,k+1=>UInt8.ofNat (n % 256) :: low (n / 256) k
theorem low_len (k:Nat):∀ n,(low n k).length=k:=by
 induction k with
 | zero=>intro n;rfl
 | succ k ih=>intro n;simp [low,ih]
def sum:List UInt8→Nat
 | []=>0
 | b :: l=>b.toNat+256 * sum l
theorem sum_lt (l:List UInt8):sum l<256 ^ l.length:=by
 induction l with
 | nil=>simp [sum]
 | cons b l ih =>
  rw [sum,List.length_cons,Nat.pow_succ];have:=b.toNat_lt;omega
theorem low_sum (l:List UInt8):low (sum l) l.length=l:=by
 induction l with
 | nil=>rfl
 | cons b l ih =>
  have hb:=b.toNat_lt;rw [List.length_cons,low,sum];have h1:(b.toNat+256 * sum l) % 256=b.toNat:=by omega
  have h2:(b.toNat+256 * sum l) / 256=sum l:=by omega
  rw [h1,h2,ih]
  congr 1
  exact UInt8.ofNat_toNat
theorem sum_append (a b:List UInt8):sum (a ++ b)=sum a+256 ^ a.length * sum b:=by
 induction a with
 | nil=>simp [sum]
 | cons x a ih =>
  simp only [List.cons_append,sum,ih,List.length_cons,Nat.pow_succ,Nat.mul_add];rw [Nat.add_assoc]
  congr 2
  rw [← Nat.mul_assoc,Nat.mul_comm 256 (256 ^ a.length)]
structure V where
 letter:UInt8
 n:Nat
 yes:Bool
 b:List UInt8
 x:List UInt8
def num (n:Nat):V:=⟨56,n,false,[],List.replicate 256 0⟩
def flag (y:Bool):V:=⟨63,0,y,[],List.replicate 256 0⟩
def blob (l:List UInt8):V:=⟨42,0,false,l,List.replicate 256 0⟩
def blk (l:List UInt8):V:=⟨35,0,false,[],l⟩
structure V.Ok (v:V):Prop where
 n:v.n<2 ^ 64
 x:v.x.length=256
def isNum (c:UInt8):Bool:=c == 49 || c == 50 || c == 52 || c == 56
def lay (c:UInt8) (v:V):Option (List UInt8) :=
 if v.letter=56 then (if isNum c=true∧v.n<256 ^ wid c then some (low v.n (wid c)) else none)
 else if v.letter=63 then (if c=63 then some [if v.yes then 1 else 0] else none)
 else if v.letter=42 then (if c=42∧v.b.length≤16777216 then some (low v.b.length 4 ++ v.b) else none)
 else if v.letter=35 then (if c=35 then some v.x else none)
 else none
def pack:List UInt8→List V→Option (List UInt8)
 | [],[]=>some []
 | c :: s,v :: l=>(lay c v).bind fun a=>(pack s l).map (a ++ ·)
 | _,_=>none
def lift (c:UInt8) (b:List UInt8):Option (V × Nat) :=
 if b.length<wid c then none
 else if c=63 then (if 1<(b.headD 0).toNat then none else some (flag (b.headD 0 == 1),1))
 else if c=42 then (if 16777216<sum (b.take 4)∨b.length - 4<sum (b.take 4) then none else some (blob ((b.drop 4).take (sum (b.take 4))),4+sum (b.take 4)))
 else if c=35 then some (blk (b.take 256),256)
 else some (num (sum (b.take (wid c))),wid c)
def unpack:List UInt8→List UInt8→Option (List V × Nat)
 | [],_=>some ([],0)
 | c :: s,b=>(lift c b).bind fun (v,k)=>(unpack s (b.drop k)).map fun (l,m)=>(v :: l,k+m)
end Go.Proofs.YthkmihedkddnmaaGreat.Wire
namespace Go.Proofs.YthkmihedkddnmaaGreat
open Lib (hid)
open Go.RowKit
open Wire
abbrev chs (s:ByteArray):List UInt8:=s.data.toList
theorem chs_len (s:ByteArray):(chs s).length=s.size:=by simp [chs]
theorem chs_get {s:ByteArray} {i:Nat} (h:i<s.size):(chs s)[i]? = some (s[i]'h):=by
 have:i<(chs s).length:=by rw [chs_len];exact h
 rw [List.getElem?_eq_getElem this]
 rfl
theorem chs_drop {s:ByteArray} {i:Nat} (h:i<s.size):(chs s).drop i=(s[i]'h) :: (chs s).drop (i+1):=by
 have h1:i<(chs s).length:=by rw [chs_len];exact h
 rw [List.drop_eq_getElem_cons h1]
 rfl
theorem chs_take {s:ByteArray} {i:Nat} (h:i<s.size):(chs s).take (i+1)=(chs s).take i ++ [s[i]'h]:=by
 have h1:i<(chs s).length:=by rw [chs_len];exact h
 rw [List.take_succ_eq_append_getElem h1]
 rfl
theorem width_any (r:Int) (w:World) (h1 : -2147483648≤r) (h2:r≤2147483647):Calls Tryz.prog 109 #[.int .i32 r] w fun e w'=>e = .returned (.int .i64 (widI r:Int))∧w=w':=by
 have key:∀ k:Nat,widI r=k→Calls Tryz.prog 109 #[.int .i32 r] w fun e w'=>e = .returned (.int .i64 (k:Int))∧w=w':=by
  intro k hk;unfold widI at hk
  split at hk
  ·subst hk;rename_i h;subst h
   go_enter Tryz.func109,Tryz.ntmps109
   go_wp2;go_ret;exact ⟨rfl,rfl⟩
  split at hk
  ·subst hk;rename_i h;subst h
   go_enter Tryz.func109,Tryz.ntmps109
   go_wp2;go_ret;exact ⟨rfl,rfl⟩
  split at hk
  ·subst hk;rename_i h;subst h
   go_enter Tryz.func109,Tryz.ntmps109
   go_wp2;go_ret;exact ⟨rfl,rfl⟩
  split at hk
  ·subst hk;rename_i h;subst h
   go_enter Tryz.func109,Tryz.ntmps109
   go_wp2;go_ret;exact ⟨rfl,rfl⟩
  split at hk
  ·subst hk;rename_i h;subst h
   go_enter Tryz.func109,Tryz.ntmps109
   go_wp2;go_ret;exact ⟨rfl,rfl⟩
  split at hk
  ·subst hk;rename_i h;subst h
   go_enter Tryz.func109,Tryz.ntmps109
   go_wp2;go_ret;exact ⟨rfl,rfl⟩
  split at hk
  ·subst hk;rename_i h;subst h
   go_enter Tryz.func109,Tryz.ntmps109
   go_wp2;go_ret;exact ⟨rfl,rfl⟩
  ·subst hk
   rename_i a b c d e f g;have a:=beq_eq_false_iff_ne.2 a;have b:=beq_eq_false_iff_ne.2 b;have c:=beq_eq_false_iff_ne.2 c;have d:=beq_eq_false_iff_ne.2 d;have e:=beq_eq_false_iff_ne.2 e;have f:=beq_eq_false_iff_ne.2 f;have g:=beq_eq_false_iff_ne.2 g
   go_enter Tryz.func109,Tryz.ntmps109
   go_wp2;go_ret;exact ⟨rfl,rfl⟩
 exact key _ rfl
theorem mayF_any (r:Int) (w:World) (h1 : -2147483648≤r) (h2:r≤2147483647):Calls Tryz.prog 137 #[.int .i32 r] w fun e w'=>e = .returned (.bool (widI r == 0))∧w=w':=by
 have C:=width_any r w h1 h2
 generalize widI r=k at C ⊢
 cases k with
 | zero =>
  go_enter Tryz.func137,Tryz.ntmps137
  go_wp2_with fail;refine (C).mono ?_;rintro e w' ⟨rfl,rfl⟩;go_wp2_with fail;go_ret;exact ⟨rfl,rfl⟩
 | succ k =>
  have hk:(((k+1:Nat):Int) == 0)=false:=by simp;omega
  go_enter Tryz.func137,Tryz.ntmps137
  go_wp2_with fail;refine (C).mono ?_;rintro e w' ⟨rfl,rfl⟩;go_wp2_with fail;go_ret;exact ⟨by simp;omega,rfl⟩
theorem rune_wid {s:ByteArray} {i:Nat} (h:i<s.size):widI ((Utf8.decode s i).1:Int)=wid (s[i]'h):=by
 by_cases ha:(s[i]'h).toNat<128
 ·rw [decode_ascii s i h ha];rfl
 ·have h1:128≤(Utf8.decode s i).1:=(decode_high s i h (by omega)).1
  rw [widI_big (by omega)];unfold wid;rw [widI_big (by omega)]
theorem may_drop {s:ByteArray} {i:Nat} (h:i<s.size):may ((chs s).drop i)=(wid (s[i]'h) != 0 && may ((chs s).drop (i+1))):=by rw [chs_drop h,may_cons]
theorem may_end (s:ByteArray):may ((chs s).drop s.size)=true:=by rw [List.drop_eq_nil_of_le (by rw [chs_len];exact Nat.le_refl _)];rfl
def IdxP (s:ByteArray) (w:World) (e:Ending) (w':World):Prop:=∃ n:Int,e = .returned (.int .i64 n)∧Below w.heap.size w w'∧(may (chs s)=true→n = -1)∧(may (chs s)=false→0≤n)
theorem indexF_any (s:ByteArray) (w:World) (hs:s.size≤1000000):Calls Tryz.prog 158 #[.string s,.func (.func 137) #[] #[],.bool true] w (IdxP s w):=by
 have HC:=hid mayF_any;obtain ⟨k,hk⟩:∃ k,w.heap.size=k:=⟨_,rfl⟩
 have HI:Hid ((w.iter s 0).heap[k]? = some (.stringIter s 0)∧Below k w (w.iter s 0)):=hid ⟨hk ▸ World.iter_heap w s 0,hk ▸ (Below.refl _ _).alloc (Nat.le_refl _) _⟩
 go_enter Tryz.func158,Tryz.ntmps158
 go_wp2_with fail
 generalize w.iter s 0=w0 at HI ⊢
 have HK:=hid hk;clear hk
 go_loopg [11] s.size (fun g u wr=>∃ pos:Nat,pos≤s.size∧g=s.size - pos∧wr.heap[k]? = some (.stringIter s pos)∧Below k w wr∧may (chs s)=may ((chs s).drop pos))
 case atStart=>exact ⟨0,by omega,by omega,HI.out.1,HI.out.2,rfl⟩
 case round =>
  obtain ⟨pos,hp,hg,hh,hb,hm⟩:=hrel;have HG:=hid hg;have HM:=hid hm;have HB:=hid hb
  by_cases hlt:pos<s.size
  ·have hd:=may_drop hlt
   by_cases hw:wid (s[pos]'hlt)=0
   ·have hnx:=fun ty=>Lib.run_next_any_at (P:=Tryz.prog) wr k s pos ty hh hlt
    have hle:=decode_le s pos;have C:=HC.out ((Utf8.decode s pos).1:Int) (wr.iterAt k s (pos+(Utf8.decode s pos).2)) (by omega) (by omega);rw [rune_wid hlt,hw] at C;have hb2:=Lib.below_iterAt hb (Nat.le_refl k) s (pos+(Utf8.decode s pos).2);have HP:Hid (IdxP s w (.returned (.int .i64 (pos:Int))) (wr.iterAt k s (pos+(Utf8.decode s pos).2))):=hid ⟨_,rfl,by rw [HK.out];exact hb2,fun h=>(by rw [hm,hd,hw] at h;simp at h),fun _=>by omega⟩;clear hg hm hb hd hh hb2;go_wp2_with fail;refine C.mono ?_;rintro e w1 ⟨rfl,rfl⟩;go_wp2_with fail;go_ret;exact HP.out
   ·have ha:=wid_small hw
    have hnx:=fun ty=>Lib.run_next_ascii_at (P:=Tryz.prog) wr k s pos ty hh hlt ha;have C:=HC.out (((s[pos]'hlt).toNat:Nat):Int) (wr.iterAt k s (pos+1)) (by omega) (by omega);have hw2:(widI (((s[pos]'hlt).toNat:Nat):Int) == 0)=false:=by simpa [wid] using hw
    rw [hw2] at C;have HB2:=hid (Lib.below_iterAt hb (Nat.le_refl k) s (pos+1));have HH2:=hid (Lib.iterAt_heap wr k s pos (pos+1) hh);have hd2:may ((chs s).drop pos)=may ((chs s).drop (pos+1)):=by rw [hd];simp [hw]
    have HD2:=hid hd2;clear hg hm hb hd hh hd2;go_wp2_with fail;refine C.mono ?_;rintro e w1 ⟨rfl,rfl⟩;go_wp2_with fail
    go_roundg (s.size - (pos+1))
    case rel=>exact ⟨pos+1,by omega,rfl,HH2.out,HB2.out,HM.out.trans HD2.out⟩
    case measure=>have:=HG.out;omega
  ·obtain rfl:pos=s.size:=by omega
   have hnx:=fun ty=>Lib.run_next_end_at (P:=Tryz.prog) wr k s s.size ty hh (by omega);clear hg hm hb;go_wp2_with fail;go_ret;exact ⟨-1,rfl,by rw [HK.out];exact HB.out,fun _=>rfl,fun h=>by rw [HM.out,may_end] at h;cases h⟩
end Go.Proofs.YthkmihedkddnmaaGreat
namespace Go.Proofs.YthkmihedkddnmaaGreat
open Lib (hid)
open Go.RowKit
open Wire
theorem IndexF_any (s:ByteArray) (w:World) (hs:s.size≤1000000):Calls Tryz.prog 153 #[.string s,.func (.func 137) #[] #[]] w (IdxP s w):=by
 have C:=indexF_any s w hs
 go_enter Tryz.func153,Tryz.ntmps153
 go_wp2_with fail;refine C.mono ?_;rintro e w1 ⟨n,rfl,hb,h1,h2⟩;have HP:Hid (IdxP s w (.returned (.int .i64 n)) w1):=hid ⟨n,rfl,hb,h1,h2⟩;clear hb h1 h2 C;go_wp2_with fail;go_ret;exact HP.out
theorem ContF_any (s:ByteArray) (w:World) (hs:s.size≤1000000):Calls Tryz.prog 136 #[.string s,.func (.func 137) #[] #[]] w fun e w'=>e = .returned (.bool (!may (chs s)))∧Below w.heap.size w w':=by
 have C:=IndexF_any s w hs
 cases hm:may (chs s) with
 | true =>
  have HM:=hid hm;clear hm
  go_enter Tryz.func136,Tryz.ntmps136
  go_wp2_with fail;refine C.mono ?_;rintro e w1 ⟨n,rfl,hb,h1,h2⟩;have hn:=h1 HM.out;subst hn;have HB:=hid hb;clear hb h1 h2 C;go_wp2_with fail;go_ret;exact ⟨rfl,HB.out⟩
 | false =>
  have HM:=hid hm;clear hm
  go_enter Tryz.func136,Tryz.ntmps136
  go_wp2_with fail;refine C.mono ?_;rintro e w1 ⟨n,rfl,hb,h1,h2⟩;have hn:=h2 HM.out;have HB:=hid hb;clear hb h1 h2 C;go_wp2_with fail;go_ret;exact ⟨rfl,HB.out⟩
theorem may_any (s:ByteArray) (w:World) (hs:s.size≤1000000):Calls Tryz.prog 110 #[.string s] w fun e w'=>e = .returned (.bool (may (chs s)))∧Below w.heap.size w w':=by
 have C:=ContF_any s w hs
 generalize may (chs s)=m at C ⊢
 cases m
 all_goals
  go_enter Tryz.func110,Tryz.ntmps110
  go_wp2_with fail;refine (C).mono ?_;rintro e w1 ⟨rfl,hb⟩;have HB:=hid hb;clear hb;go_wp2_with fail;go_ret;exact ⟨rfl,HB.out⟩
theorem byte_ne {c k:UInt8} (h:c≠k):((c.toNat:Int) == (k.toNat:Int))=false∧((c.toNat:Int) != (k.toNat:Int))=true:=by
 have h1:(c.toNat:Int)≠(k.toNat:Int):=fun e=>h (UInt8.toNat_inj.1 (by omega));exact ⟨beq_eq_false_iff_ne.2 h1,by rw [bne_iff_ne];exact h1⟩
def szN (c:UInt8):Nat:=if isNum c then wid c else 0
theorem szN_le (c:UInt8):szN c≤256:=by unfold szN;split;exact widI_le _;omega
theorem size_any (c:UInt8) (w:World):Calls Tryz.prog 112 #[.int .u8 (c.toNat:Int)] w fun e w'=>e = .returned (.int .i64 (szN c:Int))∧w=w':=by
 by_cases h1:c=49
 ·subst h1
  go_enter Tryz.func112,Tryz.ntmps112
  go_wp2;go_ret;exact ⟨rfl,rfl⟩
 by_cases h2:c=50
 ·subst h2
  go_enter Tryz.func112,Tryz.ntmps112
  go_wp2;go_ret;exact ⟨rfl,rfl⟩
 by_cases h3:c=52
 ·subst h3
  go_enter Tryz.func112,Tryz.ntmps112
  go_wp2;go_ret;exact ⟨rfl,rfl⟩
 by_cases h4:c=56
 ·subst h4
  go_enter Tryz.func112,Tryz.ntmps112
  go_wp2;go_ret;exact ⟨rfl,rfl⟩
 have hz:szN c=0:=by simp [szN,isNum,h1,h2,h3,h4]
 have n1:=(byte_ne h1).1;have n2:=(byte_ne h2).1;have n3:=(byte_ne h3).1;have n4:=(byte_ne h4).1;simp only [UInt8.reduceToNat] at n1 n2 n3 n4;rw [hz];clear hz h1 h2 h3 h4
 go_enter Tryz.func112,Tryz.ntmps112
 go_wp2;go_ret;exact ⟨rfl,rfl⟩
theorem letter_cases (c:UInt8):(wid c≠0∧szN c=wid c∧isNum c=true∧c≠63∧c≠42∧c≠35)∨c=63∨c=42∨c=35∨(wid c=0∧szN c=0∧isNum c=false∧c≠63∧c≠42∧c≠35):=by
 by_cases h1:c=49
 ·subst h1;decide
 by_cases h2:c=50
 ·subst h2;decide
 by_cases h3:c=52
 ·subst h3;decide
 by_cases h4:c=56
 ·subst h4;decide
 by_cases h5:c=63
 ·exact .inr (.inl h5)
 by_cases h6:c=42
 ·exact .inr (.inr (.inl h6))
 by_cases h7:c=35
 ·exact .inr (.inr (.inr (.inl h7)))
 have ne:∀ k:UInt8,c≠k→(c.toNat:Int)≠(k.toNat:Int):=fun k h e=>h (UInt8.toNat_inj.1 (by omega));have q1:=ne _ h1;have q2:=ne _ h2;have q3:=ne _ h3;have q4:=ne _ h4;have q5:=ne _ h5;have q6:=ne _ h6;have q7:=ne _ h7;have hn:isNum c=false:=by simp [isNum,h1,h2,h3,h4]
 refine .inr (.inr (.inr (.inr ⟨?_,by simp [szN,hn],hn,h5,h6,h7⟩)));simp only [UInt8.reduceToNat] at q1 q2 q3 q4 q5 q6 q7;unfold wid widI;simp only [Int.cast_ofNat_Int] at q1 q2 q3 q4 q5 q6 q7;rw [if_neg q1,if_neg q2,if_neg q3,if_neg q4,if_neg q5,if_neg q6,if_neg q7]
end Go.Proofs.YthkmihedkddnmaaGreat
namespace Go.Proofs.YthkmihedkddnmaaGreat
open Lib (hid)
open Go.RowKit
open Wire
theorem may_take_end (s:ByteArray):(chs s).take s.size=chs s:=List.take_of_length_le (by rw [chs_len];exact Nat.le_refl _)
theorem rmay_any (s:ByteArray) (w:World) (hs:s.size≤1000000):Calls Tryz.prog 87 #[.string s] w fun e w'=>e = .returned (.bool (may (chs s)))∧w=w':=by
 have HC:=hid size_any
 go_enter Tryz.func87,Tryz.ntmps87
 go_wp2_with fail
 go_loopw [3] (fun i wr=>∃ k:Nat,k≤s.size∧i = .int .i64 k∧w=wr∧may (chs s)=may ((chs s).drop k)) (fun i _=>s.size - (intOf i).toNat)
 case atStart=>exact ⟨0,by omega,rfl,rfl,rfl⟩
 case round =>
  obtain ⟨k,hk,rfl,rfl,hm⟩:=hrel;have HM:=hid hm
  by_cases hlt:k<s.size
  ·have hd:=may_drop hlt
   have HD:=hid hd;have C:=HC.out (s[k]'hlt) w;clear hm hd
   rcases letter_cases (s[k]'hlt) with ⟨h1,h2,_,_,_,_⟩ | h | h | h | ⟨h1,h2,_,h63,h42,h35⟩
   ·have hz:((szN (s[k]'hlt):Int) == 0)=false:=by rw [h2];simp;omega
    have HN:Hid (may (chs s)=may ((chs s).drop (k+1))):=hid (by rw [HM.out,HD.out];simp [h1]);clear h1 h2;go_wp2_with fail;refine C.mono ?_;rintro e w1 ⟨rfl,rfl⟩;go_wp2_with fail;go_roundw
    case rel=>exact ⟨k+1,by omega,by go_num,by trivial,HN.out⟩
    case measure=>simp [intOf];omega
   ·have HN:Hid (may (chs s)=may ((chs s).drop (k+1))):=hid (by rw [HM.out,HD.out,h];rfl)
    have h5:(s[k]'hlt).toNat=63:=by rw [h];rfl
    rw [show szN (s[k]'hlt)=0 from by rw [h];rfl] at C;rw [h5] at C;have h6:(((s[k]'hlt).toNat:Int))=63:=by omega
    clear h h5;go_wp2_with fail;refine C.mono ?_;rintro e w1 ⟨rfl,rfl⟩;go_wp2_with fail;go_roundw
    case rel=>exact ⟨k+1,by omega,by go_num,by trivial,HN.out⟩
    case measure=>simp [intOf];omega
   ·have HN:Hid (may (chs s)=may ((chs s).drop (k+1))):=hid (by rw [HM.out,HD.out,h];rfl)
    have h5:(s[k]'hlt).toNat=42:=by rw [h];rfl
    rw [show szN (s[k]'hlt)=0 from by rw [h];rfl] at C;rw [h5] at C;have h6:(((s[k]'hlt).toNat:Int))=42:=by omega
    clear h h5;go_wp2_with fail;refine C.mono ?_;rintro e w1 ⟨rfl,rfl⟩;go_wp2_with fail;go_roundw
    case rel=>exact ⟨k+1,by omega,by go_num,by trivial,HN.out⟩
    case measure=>simp [intOf];omega
   ·have HN:Hid (may (chs s)=may ((chs s).drop (k+1))):=hid (by rw [HM.out,HD.out,h];rfl)
    have h5:(s[k]'hlt).toNat=35:=by rw [h];rfl
    rw [show szN (s[k]'hlt)=0 from by rw [h];rfl] at C;rw [h5] at C;have h6:(((s[k]'hlt).toNat:Int))=35:=by omega
    clear h h5;go_wp2_with fail;refine C.mono ?_;rintro e w1 ⟨rfl,rfl⟩;go_wp2_with fail;go_roundw
    case rel=>exact ⟨k+1,by omega,by go_num,by trivial,HN.out⟩
    case measure=>simp [intOf];omega
   ·have HN:Hid (may (chs s)=false):=hid (by rw [HM.out,HD.out,h1];rfl)
    have n1:=(byte_ne h63).2;have n2:=(byte_ne h42).2;have n3:=(byte_ne h35).2;simp only [UInt8.reduceToNat,Int.cast_ofNat_Int] at n1 n2 n3;rw [h2] at C;clear h1 h2 h63 h42 h35;go_wp2_with fail;refine C.mono ?_;rintro e w1 ⟨rfl,rfl⟩;go_wp2_with fail;go_ret;exact ⟨by rw [HN.out];rfl,by trivial⟩
  ·obtain rfl:k=s.size:=by omega
   clear hm;go_wp2_with fail;go_ret;exact ⟨by rw [HM.out,may_end];rfl,by trivial⟩
theorem rleast_any (s:ByteArray) (w:World) (hs:s.size≤1000000):Calls Tryz.prog 88 #[.string s] w fun e w'=>e = .returned (.int .i64 (least (chs s):Int))∧w=w':=by
 have HC:=hid size_any;have CM:=fun w=>rmay_any s w hs
 by_cases h0:s.size=0
 ·have he:chs s=[]:=List.eq_nil_of_length_eq_zero (by rw [chs_len];exact h0)
  have HE:Hid (least (chs s)=0):=hid (by rw [he];rfl);clear he
  go_enter Tryz.func88,Tryz.ntmps88
  go_wp2_with fail
  go_loopw [3,4] (fun n i wr=>n = .int .i64 0∧i = .int .i64 0∧w=wr) (fun n i _=>0)
  case atStart=>exact ⟨rfl,rfl,rfl⟩
  case round =>
   obtain ⟨rfl,rfl,rfl⟩:=hrel;go_wp2_with fail;go_ret;exact ⟨by rw [HE.out];rfl,by trivial⟩
 ·have hpos:0<s.size:=by omega
  clear h0;unfold least
  cases hmm:may (chs s) with
  | false =>
   rw [hmm] at CM;clear hmm
   go_enter Tryz.func88,Tryz.ntmps88
   go_wp2_with fail
   go_loopw [3,4] (fun n i wr=>n = .int .i64 0∧i = .int .i64 0∧w=wr) (fun n i _=>0)
   case atStart=>exact ⟨rfl,rfl,rfl⟩
   case round =>
    obtain ⟨rfl,rfl,rfl⟩:=hrel;go_wp2_with fail;refine (CM _).mono ?_;rintro e w1 ⟨rfl,rfl⟩;go_wp2_with fail;go_ret;exact ⟨rfl,by trivial⟩
  | true =>
   rw [hmm] at CM;have HMM:=hid hmm;clear hmm
   go_enter Tryz.func88,Tryz.ntmps88
   go_wp2_with fail
   go_loopw [3,4] (fun n i wr=>∃ k:Nat,k≤s.size∧i = .int .i64 k∧w=wr∧n = .int .i64 (sumW ((chs s).take k):Int)) (fun n i _=>s.size - (intOf i).toNat)
   case atStart=>exact ⟨0,by omega,rfl,rfl,rfl⟩
   case round =>
    obtain ⟨k,hk,rfl,rfl,rfl⟩:=hrel
    by_cases hlt:k<s.size
    ·have hw:wid (s[k]'hlt)≠0:=by
      have h1:=List.all_eq_true.1 HMM.out (s[k]'hlt) (List.mem_of_getElem? (chs_get hlt))
      simpa using h1
     have HS:Hid (sumW ((chs s).take (k+1))=sumW ((chs s).take k)+wid (s[k]'hlt)):=hid (by rw [chs_take hlt];simp [sumW]);have C:=HC.out (s[k]'hlt) w;have hle:=sumW_le ((chs s).take k);have hl2:((chs s).take k).length≤k:=List.length_take_le _ _;have CM':=CM w
     rcases letter_cases (s[k]'hlt) with ⟨_,h2,h3,h63,h42,h35⟩ | h | h | h | ⟨h1,_⟩
     ·have n1:=(byte_ne h63).1
      have n2:=(byte_ne h42).1;have n3:=(byte_ne h35).1;simp only [UInt8.reduceToNat,Int.cast_ofNat_Int] at n1 n2 n3;have hsl:=szN_le (s[k]'hlt);rw [← h2] at HS;clear h2 h3 h63 h42 h35 hw CM;go_wp2_with fail;refine CM'.mono ?_;rintro e w1 ⟨rfl,rfl⟩;go_wp2_with fail;refine C.mono ?_;rintro e w1 ⟨rfl,rfl⟩;go_wp2_with fail;go_roundw
      case rel=>exact ⟨k+1,by omega,by go_num,by trivial,by rw [HS.out];go_num⟩
      case measure=>simp [intOf];omega
     rotate_right
     ·exact absurd h1 hw
     ·rw [h] at HS
      have h6:(((s[k]'hlt).toNat:Int))=63:=by rw [h];rfl
      have h7:szN (s[k]'hlt)=0:=by rw [h];rfl
      rw [h7,h6] at C;clear h h7 hw CM;go_wp2_with fail;refine CM'.mono ?_;rintro e w1 ⟨rfl,rfl⟩;go_wp2_with fail;refine C.mono ?_;rintro e w1 ⟨rfl,rfl⟩;go_wp2_with fail;go_roundw
      case rel=>exact ⟨k+1,by omega,by go_num,by trivial,by rw [HS.out];go_num⟩
      case measure=>simp [intOf];omega
     ·rw [h] at HS
      have h6:(((s[k]'hlt).toNat:Int))=42:=by rw [h];rfl
      have h7:szN (s[k]'hlt)=0:=by rw [h];rfl
      rw [h7,h6] at C;clear h h7 hw CM;go_wp2_with fail;refine CM'.mono ?_;rintro e w1 ⟨rfl,rfl⟩;go_wp2_with fail;refine C.mono ?_;rintro e w1 ⟨rfl,rfl⟩;go_wp2_with fail;go_roundw
      case rel=>exact ⟨k+1,by omega,by go_num,by trivial,by rw [HS.out];go_num⟩
      case measure=>simp [intOf];omega
     ·rw [h] at HS
      have h6:(((s[k]'hlt).toNat:Int))=35:=by rw [h];rfl
      have h7:szN (s[k]'hlt)=0:=by rw [h];rfl
      rw [h7,h6] at C;clear h h7 hw CM;go_wp2_with fail;refine CM'.mono ?_;rintro e w1 ⟨rfl,rfl⟩;go_wp2_with fail;refine C.mono ?_;rintro e w1 ⟨rfl,rfl⟩;go_wp2_with fail;go_roundw
      case rel=>exact ⟨k+1,by omega,by go_num,by trivial,by rw [HS.out];go_num⟩
      case measure=>simp [intOf];omega
    ·obtain rfl:k=s.size:=by omega
     rw [may_take_end] at *;clear CM;go_wp2_with fail;go_ret;exact ⟨rfl,by trivial⟩
end Go.Proofs.YthkmihedkddnmaaGreat
namespace Go.Proofs.YthkmihedkddnmaaGreat
open Lib (hid)
open Go.RowKit
open Wire
theorem low_succ (n:Nat):∀ k,low n (k+1)=low n k ++ [UInt8.ofNat (n / 256 ^ k % 256)]:=by
 intro k
 induction k generalizing n with
 | zero=>simp [low]
 | succ k ih =>
  rw [low,ih (n / 256),low];simp only [List.cons_append];rw [Nat.div_div_eq_div_mul,Nat.pow_succ,Nat.mul_comm 256]
theorem low_any {base:Nat} {w:World} {v:Value} {m:Nat} {xs:List UInt8} (ho:w.ownsRow base 5 1 v m (bV xs)) (hb:base≤w.heap.size) (n k:Nat) (hn:n<18446744073709551616) (hk:k≤8) (hm:m≤100000000) :
  Calls Tryz.prog 108 #[v,.int .u64 (n:Int),.int .i64 (k:Int)] w fun e w'=>∃ v',e = .returned (.tuple #[v',.bool (n / 256 ^ k == 0)])∧w'.ownsRow base 5 1 v' (m+k) (bV (xs ++ low n k))∧Chg (ob v) w w' (ob v'):=by
 have HO:=hid ho;have HB:=hid hb;clear ho
 go_enter Tryz.func108,Tryz.ntmps108
 go_wp2_with fail
 go_loopg [0,1,9] k (fun g u x i wr=>∃ (j:Nat) (v':Value) (y:Nat),j≤k∧g=k - j∧u=v'∧x = .int .u64 (y:Int)∧y=n / 256 ^ j∧i = .int .i64 (j:Int)∧wr.ownsRow base 5 1 v' (m+j) (bV (xs ++ low n j))∧Chg (ob v) w wr (ob v'))
 case atStart=>exact ⟨0,v,n,by omega,by omega,rfl,rfl,by simp,rfl,by simpa [low] using HO.out,Chg.refl _ _⟩
 case round =>
  obtain ⟨j,v',y,hj,hg,rfl,rfl,hy,rfl,ho,hc⟩:=hrel;have HG:=hid hg;have hy0:=hid hy;have HC:=hid hc;have hbr:base≤wr.heap.size:=Nat.le_trans HB.out hc.size;have hyn:y<18446744073709551616:=by rw [hy];exact Nat.lt_of_le_of_lt (Nat.div_le_self _ _) hn
  clear hg hy hc
  by_cases hlt:j<k
  ·have hs8:n / 256 ^ (j+1)=y / 256:=by rw [hy0.out,Nat.pow_succ,Nat.div_div_eq_div_mul]
   have HS8:=hid hs8;have HL:=hid (low_succ n j);clear hs8
   go_wp2_with (at_builtin;go_must (refine wpList_app rfl _ _ 33 rfl base 5 _ 1 1 Tryz.underlying33 infoByte rfl (by decide) (by decide) _ (m+j) _ rfl ho rfl rfl (by simp [Value.oneCell']) (by omega) hbr ?_);intro v1 w1 ho1 hb1 hg1 hs1 hn1)
   have HC1:=hid (HC.out.trans (Chg.of_grown hg1 hs1));have HO1:=hid ho1;clear ho1 hb1 hg1 hs1 hn1
   go_roundg (k - (j+1))
   case rel =>
    refine ⟨j+1,v1,y / 256,by omega,rfl,rfl,?_,HS8.out.symm,by go_num,?_,HC1.out⟩
    ·go_num
    ·have:=HO1.out
     rw [← Nat.add_assoc,HL.out,← List.append_assoc,bV_app,← hy0.out]
     simpa [bV] using this
   case measure=>have:=HG.out;omega
  ·obtain rfl:j=k:=by omega
   by_cases hz:y=0
   ·have hz2:(y == 0)=true:=by simp [hz]
    subst hz;go_wp2_with fail
    go_ret2
    exact ⟨_,by rw [← hy0.out];rfl,ho,HC.out⟩
   ·have hz2:((y:Int) == 0)=false:=by simp;omega
    have hz3:(y == 0)=false:=by simp [hz]
    go_wp2_with fail
    go_ret2
    exact ⟨_,by rw [← hy0.out,hz3];rfl,ho,HC.out⟩
end Go.Proofs.YthkmihedkddnmaaGreat
namespace Go.Proofs.YthkmihedkddnmaaGreat
open Lib (hid)
open Go.RowKit
open Wire
theorem sum_take_succ (bs:List UInt8) (j:Nat) (h:j<bs.length):sum (bs.take (j+1))=sum (bs.take j)+256 ^ j * (bs[j]'h).toNat:=by
 rw [List.take_succ_eq_append_getElem h,sum_append,List.length_take,Nat.min_eq_left (by omega)]
 simp [sum]
theorem wrap_u64_nat (x:Nat):IntKind.u64.wrap (x:Int)=((x % 18446744073709551616:Nat):Int):=by
 simp [IntKind.wrap,IntKind.signed,IntKind.bits]
theorem rsum_any (v:Value) (m:Nat) (bs:List UInt8) (w:World) (hrd:Rd w 1 v m (bV bs)) (hm:m≤8):Calls Tryz.prog 90 #[v] w fun e w'=>e = .returned (.int .u64 (sum bs:Int))∧w=w':=by
 have hlen:bs.length=m:=by obtain ⟨_,_,_,hl,_⟩:=hrd;simpa [bV] using hl
 have HL:=hid hlen;obtain ⟨ao,cap,rfl,_,_,⟨hn,hc1,hc2⟩,hcell⟩:=hrd;unfold maxLen at hc2;have HC:=hid hcell;clear hcell hlen hn
 go_enter Tryz.func90,Tryz.ntmps90
 go_wp2_with fail
 go_loop [3,4,5] (fun x u i=>∃ j y z:Nat,j≤m∧i = .int .i64 (j:Int)∧x = .int .u64 (y:Int)∧y=sum (bs.take j)∧u = .int .u64 (z:Int)∧(j<8→z=256 ^ j)∧z<18446744073709551616) (fun _ _ i=>m - (intOf i).toNat)
 case atStart=>exact ⟨0,0,1,by omega,rfl,rfl,by simp [sum],rfl,by simp,by omega⟩
 case round =>
  obtain ⟨j,y,z,hj,rfl,rfl,hy,rfl,hz,hz2⟩:=hrel;have HY:=hid hy
  by_cases hlt:j<m
  ·have hjb:j<bs.length:=by rw [HL.out];exact hlt
   obtain ⟨b,off,rfl,hbl,hce⟩:=HC.out j _ (bV_get (List.getElem?_eq_getElem hjb));have HS:=hid (sum_take_succ bs j hjb);have hyl:y<256 ^ j:=by rw [hy];have:=sum_lt (bs.take j);rwa [List.length_take,Nat.min_eq_left (by omega)] at this
   have hz':=hz (by omega);have hcb:=byte_lt (bs[j]'hjb)
   generalize (bs[j]'hjb).toNat=c at *
   have hp:256 ^ j≤256 ^ 7:=Nat.pow_le_pow_right (by omega) (by omega);have hzz:z≤72057594037927936:=by rw [hz'];simpa using hp
   have hy7:y<72057594037927936:=by (have:(256:Nat) ^ 7=72057594037927936:=by decide);omega
   have hcz:c * z≤255 * z:=Nat.mul_le_mul_right _ (by omega);have hci:(c:Int) * (z:Int)=((c * z:Nat):Int):=by simp
   have HZ:=hid hz';obtain ⟨q,hq⟩:∃ q,q=c * z:=⟨_,rfl⟩
   rw [← hq] at hcz hci;have HQ:=hid hq;clear hy hz hz' hyl hp hq;go_wp2_with fail;go_round
   case rel =>
    refine ⟨j+1,y+q,z * 256 % 18446744073709551616,by omega,by go_num,by go_num,?_,?_,?_,by omega⟩
    ·rw [HS.out,← HY.out,← HZ.out,HQ.out,Nat.mul_comm z]
    ·have h:=wrap_u64_nat (z * 256)
     have e:((z * 256:Nat):Int)=(z:Int) * 256:=by omega
     rw [e] at h;rw [h]
    ·intro h8
     have hp2:256 ^ (j+1)≤256 ^ 7:=Nat.pow_le_pow_right (by omega) (by omega);rw [Nat.pow_succ,← HZ.out] at hp2 ⊢;have e7:(256:Nat) ^ 7=72057594037927936:=by decide
     rw [e7] at hp2;exact Nat.mod_eq_of_lt (by omega)
   case measure=>simp [intOf];omega
  ·obtain rfl:j=m:=by omega
   have HE:Hid (sum bs=y):=hid (by rw [hy,← HL.out,List.take_length]);clear hy hz;go_wp2_with fail;go_ret;exact ⟨by rw [HE.out];rfl,rfl⟩
theorem rep_set (a:List Value) (k:Nat) (x y:Value):(a ++ List.replicate (k+1) y).set a.length x=a ++ x :: List.replicate k y:=by
 rw [List.set_append_right _ _ (Nat.le_refl _),Nat.sub_self,List.replicate_succ]
 rfl
theorem rlow_any (n k:Nat) (w:World) (hn:n<18446744073709551616) (hk:k≤1000) :
  Calls Tryz.prog 66 #[.int .u64 (n:Int),.int .i64 (k:Int)] w fun e w'=>∃ v',e = .returned v'∧w'.ownsRow w.heap.size 5 1 v' k (bV (low n k))∧Below w.heap.size w w':=by
 obtain ⟨B,hB⟩:∃ B,w.heap.size=B:=⟨_,rfl⟩
 have HB:=hid hB
 go_enter Tryz.func66,Tryz.ntmps66
 go_wp2_with (at_make;go_must (refine wpList_mk rfl _ _ 33 rfl B 5 (.int .u8 0) 1 1 Tryz.underlying33 infoByte (by decide) _ _ _ _ k rfl rfl (by go_num) (by go_num) (by omega) (by omega) ?_);intro w1 ho1 hb1)
 obtain ⟨C,hh,hC⟩:∃ C:Array Value,w1.heap[B]? = some (.cells C 5 (0,0))∧C.toList=List.replicate k (.int .u8 0):=by
  rcases ho1.2 with ⟨h,_⟩ | ⟨g,cap,cur,hv,hg,hgh,h1,h2,h3,h4⟩
  ·cases h
  ·obtain ⟨e1,e2,e3⟩:=Value.slice.inj hv
   obtain rfl:g=B:=by have:=Option.some.inj e1;simp at this;omega
   subst e3;refine ⟨cur,hgh,?_⟩;rw [Nat.mul_one] at h3 h4;rw [List.take_of_length_le (by simp;omega)] at h4;rw [h4]
   simp [Value.cells,toList_madeCells_one]
 have HH:=hid (And.intro hh hC);have HB1:=hid hb1;clear ho1 hh hC hb1 hB;go_wp2_with fail
 go_loopw [0,6] (fun x i wr=>∃ (j y:Nat) (C:Array Value),j≤k∧i = .int .i64 (j:Int)∧x = .int .u64 (y:Int)∧y=n / 256 ^ j∧wr.heap[B]? = some (.cells C 5 (0,0))∧C.toList=bV (low n j) ++ List.replicate (k - j) (.int .u8 0)∧Below B w wr) (fun _ i _=>k - (intOf i).toNat)
 case atStart=>exact ⟨0,n,C,by omega,rfl,rfl,by simp,HH.out.1,by simpa [low,bV] using HH.out.2,HB1.out⟩
 case round =>
  obtain ⟨j,y,C,hj,rfl,rfl,hy,hh,hC,hbw⟩:=hrel;have hy0:=hid hy;have hyn:y<18446744073709551616:=by rw [hy];exact Nat.lt_of_le_of_lt (Nat.div_le_self _ _) hn
  have HHH:=hid (And.intro hh (And.intro hC hbw));have hlen:(bV (low n j)).length=j:=by rw [bV_len,low_len]
  have HLN:=hid hlen;clear hy
  by_cases hlt:j<k
  ·have hcell:wr.cell? ⟨B,j,none⟩=some (.int .u8 0):=by
    refine cellOf hh j ?_;have e:C[j]? = C.toList[j]?:=by simp
    rw [e,hC,List.getElem?_append_right (by omega),hlen,Nat.sub_self,List.getElem?_replicate]
    simp;omega
   have hfr:=frozenOf hh j;have hsz:C.size=k:=by rw [← Array.length_toList,hC];simp [bV_len,low_len];omega
   have HS:Hid (y / 256=n / 256 ^ (j+1)):=hid (by rw [hy0.out,Nat.pow_succ,Nat.div_div_eq_div_mul]);have HNX:∀ x:Value,x = .int .u8 ((y:Int) % 256)→(wr.setCell ⟨B,j,none⟩ x).heap[B]? = some (.cells (C.setIfInBounds j x) 5 (0,0))∧(C.setIfInBounds j x).toList=bV (low n (j+1)) ++ List.replicate (k - (j+1)) (.int .u8 0)∧Below B w (wr.setCell ⟨B,j,none⟩ x):=by
    intro x hx;refine ⟨setOf hh j x,?_,hbw.setCell (p:=⟨B,j,none⟩) (Nat.le_refl _) x⟩;obtain ⟨q,hq⟩:∃ q,k - j=q+1:=⟨k - j - 1,by omega⟩
    have e:=rep_set (bV (low n j)) q x (.int .u8 0);rw [hlen] at e;rw [Array.toList_setIfInBounds,hC,hq,e,low_succ,bV_app,show k - (j+1)=q by omega,hx,← hy0.out]
    simp [bV]
   have HN:=hid HNX;clear hh hC hbw hlen HNX;go_wp2_with fail;go_roundw
   case rel =>
    have h:=HN.out _ rfl;exact ⟨j+1,y / 256,C.setIfInBounds j _,by omega,by go_num,by go_num,HS.out,h.1,h.2.1,h.2.2⟩
   case measure=>simp [intOf];omega
  ·obtain rfl:j=k:=by omega
   have hsz:C.size=j:=by rw [← Array.length_toList,hC];simp [bV_len,low_len]
   go_wp2_with fail;go_ret;have hB2:=HB.out;rw [hB2];rw [Nat.sub_self,List.replicate_zero,List.append_nil] at hC;have ho:wr.ownsRow B 5 1 (.slice (some ⟨B,0,none⟩) j j) j (bV (low n j)):=by
    refine ⟨by rw [bV_len,low_len,Nat.mul_one],.inr ⟨B,j,C,rfl,Nat.le_refl _,hh,Nat.le_refl _,Nat.le_trans hk (by decide),by simpa using hsz,?_⟩⟩;rw [hC];rw [Nat.mul_one];exact List.take_of_length_le (by rw [hlen];exact Nat.le_refl _)
   exact ⟨_,rfl,ho,hbw⟩
end Go.Proofs.YthkmihedkddnmaaGreat
namespace Go.Proofs.YthkmihedkddnmaaGreat
open Lib (hid)
open Go.RowKit
def isIfaceD:TypeDesc→Bool
 | .interface _=>true
 | _=>false
section
variable {P:Program}
theorem run_assert_hit {t xT:TypeId} {d:TypeDesc} (hu:P.underlying t=some d) (hd:isIfaceD d=false) (v:Value) (w:World):(Instr.typeAssert (.iface t v) xT t true).run P w = .ok (.tuple #[v,.bool true]) w:=by
 unfold Instr.typeAssert;rw [Sem.run_bind,run_underlying hu w]
 cases d <;> simp_all [isIfaceD]
theorem run_assert_miss {t t' xT:TypeId} {d:TypeDesc} {z:Value} (hu:P.underlying t=some d) (hd:isIfaceD d=false) (hne:t'≠t) (hz:∀ w,(zeroValue t).run P w = .ok z w) (v:Value) (w:World):(Instr.typeAssert (.iface t' v) xT t true).run P w = .ok (.tuple #[z,.bool false]) w:=by
 unfold Instr.typeAssert;rw [Sem.run_bind,run_underlying hu w]
 cases d <;> simp_all [isIfaceD]
theorem run_assert_nil {t xT:TypeId} {d:TypeDesc} {z:Value} (hu:P.underlying t=some d) (hd:isIfaceD d=false) (hz:∀ w,(zeroValue t).run P w = .ok z w) (w:World):(Instr.typeAssert .nilIface xT t true).run P w = .ok (.tuple #[z,.bool false]) w:=by
 unfold Instr.typeAssert;rw [Sem.run_bind,run_underlying hu w]
 cases d <;> simp_all [isIfaceD]
end
theorem zeroU64 (w:World):(zeroValue 38).run Tryz.prog w = .ok (.int .u64 0) w:=by kernel_rfl
theorem zeroBool (w:World):(zeroValue 4).run Tryz.prog w = .ok (.bool false) w:=by kernel_rfl
theorem zeroBytes (w:World):(zeroValue 33).run Tryz.prog w = .ok (.slice none 0 0) w:=by kernel_rfl
theorem zero_some {P:Program} {t:TypeId} (h:(match P.info? t with | some i=>i.zero.isSome | none=>false)=true):∃ z,∀ w,(zeroValue t).run P w = .ok z w:=by
 cases hq:P.info? t with
 | none=>simp [hq] at h
 | some i =>
  rw [hq] at h;obtain ⟨z,hz⟩:=Option.isSome_iff_exists.1 h;exact ⟨z,fun w=>by simp [zeroValue,typeInfo,hq,hz]⟩
theorem zeroBlock:∃ z,∀ w,(zeroValue 50).run Tryz.prog w = .ok z w:=zero_some (by kernel_rfl)
end Go.Proofs.YthkmihedkddnmaaGreat
namespace Go.Proofs.YthkmihedkddnmaaGreat
open Lib (hid)
open Go.RowKit
theorem cellOf' {w:World} {b:Nat} {cs:Array Value} {t:TypeId} {fr:Nat × Nat} (h:w.heap[b]? = some (.cells cs t fr)) (i:Nat) {v:Value} (hv:cs[i]? = some v):w.cell? ⟨b,i,none⟩=some v:=by
 rw [cell_of_row w b i cs t fr h];exact hv
def bA (l:List UInt8):Value:=.agg (bV l).toArray
section
variable {P:Program} (w:World)
theorem bV_get? (l:List UInt8) (i:Nat):(bV l)[i]? = l[i]?.map fun b=>.int .u8 (b.toNat:Int):=by simp [bV]
theorem run_eqItems_bytes {e:TypeId} (he:P.underlying e=some (.int .u8)) (d:Nat) (xs ys:List UInt8) (m:Nat) (hx:m≤xs.length) (hy:m≤ys.length):∀ (k i:Nat),i+k=m →
  (Op.eqItems (d+1) e 1 (bV xs).toArray (bV ys).toArray (List.range' i k)).run P w = .ok ((xs.drop i).take k == (ys.drop i).take k) w:=by
 intro k
 induction k with
 | zero=>intro i _;simp [Op.eqItems]
 | succ k ih =>
  intro i hik;have h1:xs[i]? = some (xs[i]'(by omega)):=List.getElem?_eq_getElem (by omega);have h2:ys[i]? = some (ys[i]'(by omega)):=List.getElem?_eq_getElem (by omega);have hp:P.plainKey e=true:=by simp [Program.plainKey,he]
  have p1:=run_part_plain (P:=P) w hp (xs:=(bV xs).toArray) (off:=i * 1) (v:=.int .u8 ((xs[i]'(by omega)).toNat:Int)) (by simp [bV_get?,h1]);have p2:=run_part_plain (P:=P) w hp (xs:=(bV ys).toArray) (off:=i * 1) (v:=.int .u8 ((ys[i]'(by omega)).toNat:Int)) (by simp [bV_get?,h2]);have p3:=run_equalIn_int (P:=P) w d e .u8 .u8 ((xs[i]'(by omega)).toNat:Int) ((ys[i]'(by omega)).toNat:Int) he;rw [List.range'_succ];simp only [Op.eqItems,Sem.run_bind,p1,p2,p3,Result.andThen_ok]
  have hd1:xs.drop i=(xs[i]'(by omega)) :: xs.drop (i+1):=List.drop_eq_getElem_cons (by omega);have hd2:ys.drop i=(ys[i]'(by omega)) :: ys.drop (i+1):=List.drop_eq_getElem_cons (by omega);rw [hd1,hd2,List.take_succ_cons,List.take_succ_cons]
  by_cases hb:xs[i]'(by omega)=ys[i]'(by omega)
  ·rw [hb]
   simp only [beq_self_eq_true,Bool.not_true,Bool.false_eq_true,if_false];rw [ih (i+1) (by omega)]
   simp
  ·have hn:(((xs[i]'(by omega)).toNat:Int) == ((ys[i]'(by omega)).toNat:Int))=false:=by
    rw [beq_eq_false_iff_ne];intro h;exact hb (UInt8.toNat_inj.1 (by omega))
   rw [hn]
   simp [hb]
theorem run_equalIn_bytes {t e:TypeId} {n:Nat} {i:TypeInfo} (hu:P.underlying t=some (.array n e)) (he:P.underlying e=some (.int .u8)) (hi:P.info? e=some i) (hs:P.cellsOf e=1) (d:Nat) (xs ys:List UInt8) (hx:xs.length=n) (hy:ys.length=n) :
  (Op.equalIn (d+2) t (bA xs) (bA ys)).run P w = .ok (xs == ys) w:=by
 unfold bA;rw [run_equalIn_array w (d+1) _ _ hu hi,hs,List.range_eq_range',run_eqItems_bytes w he d xs ys n (by omega) (by omega) n 0 (by omega)];rw [List.drop_zero,List.drop_zero,List.take_of_length_le (by omega),List.take_of_length_le (by omega)]
theorem run_eql_bytes {t e:TypeId} {n:Nat} {i:TypeInfo} (hu:P.underlying t=some (.array n e)) (he:P.underlying e=some (.int .u8)) (hi:P.info? e=some i) (hs:P.cellsOf e=1) (xs ys:List UInt8) (hx:xs.length=n) (hy:ys.length=n) :
  (binOp .eql t (bA xs) (bA ys)).run P w = .ok (.bool (xs == ys)) w:=by
 have hq:=run_equalIn_bytes w hu he hi hs 9998 xs ys hx hy;unfold bA at hq ⊢;rw [run_eql_struct,hq]
 rfl
end
theorem run_storeNew {P:Program} (w:World) (t:TypeId) (old cs:Array Value) (hs:old.size=cs.size) (h1:∀ u∈cs.toList,u.oneCell'=true) :
  (storeCells ⟨w.heap.size,0,none⟩ cs.toList).run P (w.alloc (.cells old t)) = .ok () (w.alloc (.cells cs t)):=by
 have h:=run_storeCells_from (P:=P) w.heap.size t cs.toList 0 old (w.alloc (.cells old t)) (heap_alloc_new w _) (by simp;omega) h1;rw [h];simp only [List.take_zero,List.nil_append,Array.toArray_toList];rw [World.setRow_alloc_new]
theorem Rd.new (w:World) (t:TypeId) (l:List UInt8) (n:Nat) (hl:l.length=n) (hn:n≤1000000):Rd (w.alloc (.cells (bV l).toArray t)) 1 (.slice (some ⟨w.heap.size,0,none⟩) n n) n (bV l):=by
 refine ⟨_,_,rfl,by simp [bV_len,hl],by unfold maxLen;omega,⟨(fun h=>by cases h),Nat.le_refl _,by unfold maxLen;omega⟩,fun j u hj=>⟨w.heap.size,0,rfl,by simp,?_⟩⟩;rw [Nat.zero_add];refine cellOf' (heap_alloc_new w _) j ?_
 simpa using hj
end Go.Proofs.YthkmihedkddnmaaGreat
namespace Go.Proofs.YthkmihedkddnmaaGreat
open Lib (hid)
open Go.RowKit
end Go.Proofs.YthkmihedkddnmaaGreat
namespace Go.Proofs.YthkmihedkddnmaaGreat
open Lib (hid)
open Go.RowKit
theorem wp_apps {P:Program} {o:Oper} {a:Act} {K:Act→World→Prop} {Q:Exit→Act→World→Prop} {w:World} (s x:Operand) (t:TypeId)
  (ho:o.op = .call { callee:=.builtin .append,args:=#[s,x],argTypes:=#[t,t] })
  (base:Nat) (e:TypeId) (z:Value) (size bytes:Nat) (ht:P.underlying t=some (.slice e)) (hinfo:(P.info? e).map (fun i=>(i.zero,i.size,i.bytes))=some (some z,size,bytes))
  (hzs:z.cells.size=size) (hsz:0<size) (hby:0<bytes)
  (v:Value) (n:Nat) (xs:List Value) (hs:a.eval s=v) (hown:w.ownsRow base e size v n xs)
  (u:Value) (m:Nat) (news:List Value) (hx:a.eval x=u) (hrd:Rd w size u m news) (h1:∀ u∈news,u.oneCell'=true)
  (hbytes:(n+m) * bytes≤140737488355328) (hbase:base≤w.heap.size)
  (h:∀ v' w',w'.ownsRow base e size v' (n+m) (xs ++ news)→Below base w w'→w.grownBy w' v.ownBlock→SameOrNew w v v'→(v' = .slice none 0 0 ↔ v = .slice none 0 0∧m=0)→K (a.put o.dst v') w') :
  o.wp P a w K Q:=by
 obtain ⟨i0,hi,hz0,hz1,hz2⟩:=info_parts hinfo;have hn1:n+m≤maxLen:=by
  have:n+m≤(n+m) * bytes:=Nat.le_mul_of_pos_right _ hby;unfold maxLen;omega
 obtain ⟨ao,cap,rfl,hl,hm,hcap,hc⟩:=hrd
 cases ao with
 | none =>
  obtain rfl:=hcap.1 rfl;have hnews:news=[]:=by
   cases news with
   | nil=>rfl
   | cons y ys=>obtain ⟨b,off,h0,_⟩:=hc 0 y rfl;cases h0
  subst hnews;have hm0:m=0:=by
   rcases Nat.eq_zero_or_pos m with h | h
   ·exact h
   ·have:=Nat.mul_pos h hsz;simp at hl;omega
  subst hm0;have hrun:=run_append_owned_none (P:=P) w base t o.type e i0 size ht hi v n xs hown;unfold Oper.wp
  simp [execOp,ho,resolve,invoke,builtin,hs,hx,hrun,Result.andThen]
  exact h v w (by simpa using hown) (Below.refl _ _) (World.grownBy.refl _ _) (.inl rfl) (by simp)
 | some ad =>
  by_cases hm0:m=0
  ·subst hm0
   have hnews:news=[]:=List.eq_nil_of_length_eq_zero (by simpa using hl);subst hnews;refine wp_app _ s x t ho base e i0 z size bytes ht hi hz0 hz1 hz2 hzs hsz v n xs hs hown ad 0 cap [] hx (by simp) (fun j u hj=>by simp at hj) (by simp) hn1 hbytes hbase ?_;intro v' w' ho' hg hsn hne;exact h v' w' ho' ((Below.refl base w).grown hg hbase (fun k hk=>(hown.lt k hk).1)) hg hsn hne
  ·have hpos:0<news.length:=by rw [hl];exact Nat.mul_pos (by omega) hsz
   obtain ⟨b,off,hb0,_⟩:=hc 0 news[0] (List.getElem?_eq_getElem hpos);obtain rfl:=Option.some.inj hb0;refine wp_app _ s x t ho base e i0 z size bytes ht hi hz0 hz1 hz2 hzs hsz v n xs hs hown ⟨b,off,none⟩ m cap news hx hl ?_ h1 hn1 hbytes hbase ?_
   ·intro j u hj
    obtain ⟨b',off',hb1,_,hcell⟩:=hc j u hj;obtain ⟨rfl,rfl⟩:b=b'∧off=off':=by simpa using hb1
    rw [Addr.add_lit];exact hcell
   ·intro v' w' ho' hg hsn hne
    exact h v' w' ho' ((Below.refl base w).grown hg hbase (fun k hk=>(hown.lt k hk).1)) hg hsn hne
end Go.Proofs.YthkmihedkddnmaaGreat
namespace Go.Proofs.YthkmihedkddnmaaGreat
open Lib (hid)
open Go.RowKit
open Wire
theorem slIndexByte_any (s:ByteArray) (c:Int) (w:World) :
  Calls Tryz.prog 157 #[.string s,.int .u8 c] w fun e w'=>e = .returned (.int .i64 (Lib.indexByte s.data.toList c.toNat.toUInt8))∧w'=w:=by
 go_enter Tryz.func157,Tryz.ntmps157
 go_wp2;rw [run_callFunc_extern Tryz.func160 (by kernel_rfl) (by kernel_rfl) (by kernel_rfl) (e:=Extern.BytealgIndexByte.indexByte) (by kernel_rfl),Lib.run_indexByteString];simp only [Result.andThen];rw [Oper.upon_value];go_wp2;go_ret;exact ⟨rfl,rfl⟩
theorem sIndexByte_any (s:ByteArray) (c:Int) (w:World) :
  Calls Tryz.prog 149 #[.string s,.int .u8 c] w fun e w'=>e = .returned (.int .i64 (Lib.indexByte s.data.toList c.toNat.toUInt8))∧w'=w:=by
 go_enter Tryz.func149,Tryz.ntmps149
 go_wp2_with (go_at_call 157;refine (slIndexByte_any _ _ _).mono ?_;rintro e w' ⟨rfl,rfl⟩)
 go_ret;exact ⟨rfl,rfl⟩
abbrev nums:ByteArray:=⟨#[49,50,52,56]⟩
def isNumI (r:Int):Bool:=r == 49 || r == 50 || r == 52 || r == 56
theorem vrune_any (r:Int) (w:World) (h1:0≤r) (h2:r≤2147483647):Calls Tryz.prog 150 #[.int .i32 r] w fun e w'=>e = .returned (.bool (decide (r<55296) || (decide (57343<r) && decide (r≤1114111))))∧w=w':=by
 by_cases a:r<55296
 ·go_enter Tryz.func150,Tryz.ntmps150
  go_wp2;go_ret;exact ⟨by simp [a],rfl⟩
 ·by_cases b:57343<r
  ·by_cases c:r≤1114111
   ·go_enter Tryz.func150,Tryz.ntmps150
    go_wp2;go_ret;exact ⟨by simp [a,b,c],rfl⟩
   ·go_enter Tryz.func150,Tryz.ntmps150
    go_wp2;go_ret;exact ⟨by simp [a,b,c],rfl⟩
  ·go_enter Tryz.func150,Tryz.ntmps150
   go_wp2;go_ret;exact ⟨by simp [a,b];omega,rfl⟩
theorem idxR_ascii (c:Nat) (w:World) (h:c<128):Calls Tryz.prog 135 #[.string nums,.int .i32 (c:Int)] w fun e w'=>e = .returned (.int .i64 (Lib.indexByte [49,50,52,56] c.toUInt8))∧w=w':=by
 have C:=fun w=>sIndexByte_any nums (c:Int) w
 go_enter Tryz.func135,Tryz.ntmps135
 go_wp2_with fail;refine (C _).mono ?_;rintro e w' ⟨rfl,rfl⟩;go_wp2_with fail;go_ret;exact ⟨rfl,rfl⟩
theorem nums_at {i:Nat} (h:i<nums.size):(nums[i]'h).toNat<128:=by
 have h4:i<4:=h;have hc:i=0∨i=1∨i=2∨i=3:=by omega
 rcases hc with rfl | rfl | rfl | rfl
 ·show (49:UInt8).toNat<128;decide
 ·show (50:UInt8).toNat<128;decide
 ·show (52:UInt8).toNat<128;decide
 ·show (56:UInt8).toNat<128;decide
theorem idxR_err (w:World):Calls Tryz.prog 135 #[.string nums,.int .i32 65533] w fun e w'=>e = .returned (.int .i64 (-1))∧Below w.heap.size w w':=by
 obtain ⟨k,hk⟩:∃ k,w.heap.size=k:=⟨_,rfl⟩
 have HI:Hid ((w.iter nums 0).heap[k]? = some (.stringIter nums 0)∧Below k w (w.iter nums 0)):=hid ⟨hk ▸ World.iter_heap w nums 0,hk ▸ (Below.refl _ _).alloc (Nat.le_refl _) _⟩
 go_enter Tryz.func135,Tryz.ntmps135
 go_wp2_with fail
 generalize w.iter nums 0=w0 at HI ⊢
 have HK:=hid hk;clear hk
 go_loopg [176] 4 (fun g u wr=>∃ pos:Nat,pos≤4∧g=4 - pos∧wr.heap[k]? = some (.stringIter nums pos)∧Below k w wr)
 case atStart=>exact ⟨0,by omega,by omega,HI.out.1,HI.out.2⟩
 case round =>
  obtain ⟨pos,hp,hg,hh,hb⟩:=hrel;have HG:=hid hg;have HB:=hid hb
  by_cases hlt:pos<nums.size
  ·have hnx:=fun ty=>Lib.run_next_ascii_at (P:=Tryz.prog) wr k nums pos ty hh hlt (nums_at hlt)
   have hne:(((((nums[pos]'hlt).toNat:Nat):Int)) == 65533)=false:=by have:=nums_at hlt;simp;omega
   have HB2:=hid (Lib.below_iterAt hb (Nat.le_refl k) nums (pos+1));have HH2:=hid (Lib.iterAt_heap wr k nums pos (pos+1) hh);have h4:pos<4:=hlt;clear hg hb hh;go_wp2_with fail
   go_roundg (4 - (pos+1))
   case rel=>exact ⟨pos+1,by omega,rfl,HH2.out,HB2.out⟩
   case measure=>have:=HG.out;omega
  ·have hnx:=fun ty=>Lib.run_next_end_at (P:=Tryz.prog) wr k nums pos ty hh hlt
   clear hg hb;go_wp2_with fail;go_ret;exact ⟨rfl,by rw [HK.out];exact HB.out⟩
theorem idxR_no (r:Int) (w:World) (h1:128≤r) (h2:r≤2147483647) (h3:r≠65533) (h4:(decide (r<55296) || (decide (57343<r) && decide (r≤1114111)))=false):Calls Tryz.prog 135 #[.string nums,.int .i32 r] w fun e w'=>e = .returned (.int .i64 (-1))∧w=w':=by
 have C:=vrune_any r w (by omega) h2;rw [h4] at C;have he:(r == 65533)=false:=by simpa using h3
 clear h3 h4
 go_enter Tryz.func135,Tryz.ntmps135
 go_wp2_with fail;refine C.mono ?_;rintro e w' ⟨rfl,rfl⟩;go_wp2_with fail;go_ret;exact ⟨rfl,rfl⟩
theorem indexByte_far (c:UInt8) (hc:128≤c.toNat):∀ (l:List UInt8),(∀ b∈l,b.toNat<128)→Lib.indexByte l c = -1:=by
 intro l
 induction l with
 | nil=>intro _;rfl
 | cons b l ih =>
  intro h;have hb:=h b (by simp);have hne:(b == c)=false:=by
   rw [beq_eq_false_iff_ne];rintro rfl;omega
  rw [Lib.indexByte,hne,ih fun x hx=>h x (by simp [hx])]
  simp
theorem far_index (s:ByteArray) (c:UInt8) (w:World) (hc:128≤c.toNat) (hs:∀ b∈s.data.toList,b.toNat<128:=by decide) :
  Calls Tryz.prog 149 #[.string s,.int .u8 (c.toNat:Int)] w fun e w'=>e = .returned (.int .i64 (-1))∧w'=w:=by
 have h:=sIndexByte_any s (c.toNat:Int) w;have hi:Lib.indexByte s.data.toList (c.toNat:Int).toNat.toUInt8 = -1:=by
  have e:(c.toNat:Int).toNat.toUInt8=c:=by simp
  rw [e];exact indexByte_far c hc _ hs
 rw [hi] at h;exact h
theorem quiet_add_any {P:Program} {f:FuncId} {args:Array Value} {w:World} {a n:Nat} {v:Value}
  (h:Calls P f args (w.drewN (a+n)) fun e w'=>e = .returned v∧w'=w.drewN (a+n)) :
  Calls P f args (w.drewN (a+n)) fun e w''=>e = .returned v∧∃ m,w''=w.drewN (a+m) :=
 h.mono fun _ _ ⟨he,hm⟩=>⟨he,n,hm⟩
theorem idxR_far (r:Int) (w:World) (h1:128≤r) (h2:r≤1114111) (h3:r≠65533) (h4:(decide (r<55296) || (decide (57343<r) && decide (r≤1114111)))=true):Calls Tryz.prog 135 #[.string nums,.int .i32 r] w fun e w'=>e = .returned (.int .i64 (-1))∧Below w.heap.size w w':=by
 have C:=vrune_any r w (by omega) (by omega);rw [h4] at C;have he:(r == 65533)=false:=by simpa using h3
 have hv:Utf8.valid r=true:=by
  rw [validRune_eq];simp only [validRune]
  simp at h4 ⊢
  omega
 obtain ⟨z1,z2,zl⟩:=encode_facts r hv h1;clear h3 h4 hv;have hsz:(Utf8.encode r).size=2∨(Utf8.encode r).size=3∨(Utf8.encode r).size=4:=by omega
 rcases hsz with hz | hz | hz
 ·have hb:∀ h:1<(Utf8.encode r).size,128≤((Utf8.encode r)[1]'h).toNat:=fun h=>by
   have:=zl (by omega)
   simpa [hz] using this
  clear zl z1 z2
  go_enter Tryz.func135,Tryz.ntmps135
  go_wp2_with fail;refine C.mono ?_;rintro e w' ⟨rfl,rfl⟩;go_wp2_with fail
  go_step3
  go_wp2_with fail
  go_loopg [9] 0 (fun g i wr=>i = .int .i64 1∧w=wr)
  case atStart=>exact ⟨rfl,rfl⟩
  case round =>
   obtain ⟨rfl,rfl⟩:=hrel;have hb1:=hb (by omega);have hne:((((nums[1]'(by decide)).toNat:Int)) != (((Utf8.encode r)[1]'(by omega)).toNat:Int))=true:=by
    have:(nums[1]'(by decide)).toNat=50:=rfl;rw [bne_iff_ne];omega
   have hw2:IntKind.i64.wrap 2=2:=by decide
   clear hb;go_wp2_with fail
   go_step3
   go_wp2_with fail
   go_quiet (fail)
   go_wp2_with fail
   go_quiet ((go_at_call 149;exact quiet_add_any (far_index _ _ _ hb1)))
   go_wp2_with fail;rw [Exit.noGoto_ret];simp only [Exit.inBlock,Exit.then];rw [Exit.noGoto_ret];simp only [Exit.inBlock,Exit.then];go_ret;exact ⟨rfl,below_drewN (Below.refl _ _) _⟩
 ·have hb:∀ h:2<(Utf8.encode r).size,128≤((Utf8.encode r)[2]'h).toNat:=fun h=>by
   have:=zl (by omega)
   simpa [hz] using this
  clear zl z1 z2
  go_enter Tryz.func135,Tryz.ntmps135
  go_wp2_with fail;refine C.mono ?_;rintro e w' ⟨rfl,rfl⟩;go_wp2_with fail
  go_step3
  go_wp2_with fail
  go_loopg [9] 0 (fun g i wr=>i = .int .i64 2∧w=wr)
  case atStart=>exact ⟨rfl,rfl⟩
  case round =>
   obtain ⟨rfl,rfl⟩:=hrel;have hb1:=hb (by omega);have hne:((((nums[2]'(by decide)).toNat:Int)) != (((Utf8.encode r)[2]'(by omega)).toNat:Int))=true:=by
    have:(nums[2]'(by decide)).toNat=52:=rfl;rw [bne_iff_ne];omega
   have hw2:IntKind.i64.wrap 3=3:=by decide
   clear hb;go_wp2_with fail
   go_step3
   go_wp2_with fail
   go_quiet (fail)
   go_wp2_with fail
   go_quiet ((go_at_call 149;exact quiet_add_any (far_index _ _ _ hb1)))
   go_wp2_with fail;rw [Exit.noGoto_ret];simp only [Exit.inBlock,Exit.then];rw [Exit.noGoto_ret];simp only [Exit.inBlock,Exit.then];go_ret;exact ⟨rfl,below_drewN (Below.refl _ _) _⟩
 ·have hb:∀ h:3<(Utf8.encode r).size,128≤((Utf8.encode r)[3]'h).toNat:=fun h=>by
   have:=zl (by omega)
   simpa [hz] using this
  clear zl z1 z2
  go_enter Tryz.func135,Tryz.ntmps135
  go_wp2_with fail;refine C.mono ?_;rintro e w' ⟨rfl,rfl⟩;go_wp2_with fail
  go_step3
  go_wp2_with fail
  go_loopg [9] 0 (fun g i wr=>i = .int .i64 3∧w=wr)
  case atStart=>exact ⟨rfl,rfl⟩
  case round =>
   obtain ⟨rfl,rfl⟩:=hrel;have hb1:=hb (by omega);have hne:((((nums[3]'(by decide)).toNat:Int)) != (((Utf8.encode r)[3]'(by omega)).toNat:Int))=true:=by
    have:(nums[3]'(by decide)).toNat=56:=rfl;rw [bne_iff_ne];omega
   have hw2:IntKind.i64.wrap 4=4:=by decide
   clear hb;go_wp2_with fail
   go_step3
   go_wp2_with fail
   go_quiet (fail)
   go_wp2_with fail
   go_quiet ((go_at_call 149;exact quiet_add_any (far_index _ _ _ hb1)))
   go_wp2_with fail;rw [Exit.noGoto_ret];simp only [Exit.inBlock,Exit.then];rw [Exit.noGoto_ret];simp only [Exit.inBlock,Exit.then];go_ret;exact ⟨rfl,below_drewN (Below.refl _ _) _⟩
theorem indexByte_nums (c:Nat) (h:c<128):(Lib.indexByte [49,50,52,56] c.toUInt8 = -1∧isNumI (c:Int)=false)∨(0≤Lib.indexByte [49,50,52,56] c.toUInt8∧isNumI (c:Int)=true):=by
 have hb:∀ k:Nat,k<256→((k.toUInt8 == c.toUInt8)=true ↔ c=k):=by
  intro k hk;rw [beq_iff_eq,← UInt8.toNat_inj]
  simp
  omega
 by_cases h1:c=49
 ·subst h1;right;decide
 by_cases h2:c=50
 ·subst h2;right;decide
 by_cases h3:c=52
 ·subst h3;right;decide
 by_cases h4:c=56
 ·subst h4;right;decide
 left
 have e:∀ k:Nat,k<256→c≠k→(k.toUInt8 == c.toUInt8)=false:=fun k hk hn=>by
  rw [Bool.eq_false_iff];intro hh;exact hn ((hb k hk).1 hh)
 have e1:=e 49 (by omega) h1;have e2:=e 50 (by omega) h2;have e3:=e 52 (by omega) h3;have e4:=e 56 (by omega) h4;refine ⟨?_,by simp [isNumI];omega⟩;have q:∀ (b:UInt8) (l:List UInt8),(b == c.toUInt8)=false→Lib.indexByte l c.toUInt8 = -1→Lib.indexByte (b :: l) c.toUInt8 = -1:=fun b l h1 h2=>by rw [Lib.indexByte,h1,h2];simp
 exact q _ _ e1 (q _ _ e2 (q _ _ e3 (q _ _ e4 rfl)))
theorem contR_any (r:Int) (w:World) (h1:0≤r) (h2:r≤2147483647):Calls Tryz.prog 107 #[.string nums,.int .i32 r] w fun e w'=>e = .returned (.bool (isNumI r))∧Below w.heap.size w w':=by
 by_cases ha:r<128
 ·obtain ⟨c,rfl⟩:=Int.eq_ofNat_of_zero_le h1
  have C:=idxR_ascii c w (by omega)
  rcases indexByte_nums c (by omega) with ⟨e1,e2⟩ | ⟨e1,e2⟩
  ·rw [e1] at C
   rw [e2];clear e1 e2
   go_enter Tryz.func107,Tryz.ntmps107
   go_wp2_with fail;refine (C).mono ?_;rintro e w' ⟨rfl,rfl⟩;go_wp2_with fail;go_ret;exact ⟨rfl,Below.refl _ _⟩
  ·rw [e2]
   generalize Lib.indexByte [49,50,52,56] c.toUInt8=n at C e1
   clear e2
   go_enter Tryz.func107,Tryz.ntmps107
   go_wp2_with fail;refine (C).mono ?_;rintro e w' ⟨rfl,rfl⟩;go_wp2_with fail;go_ret;exact ⟨rfl,Below.refl _ _⟩
 ·have e2:isNumI r=false:=by simp [isNumI];omega
  rw [e2];have C:Calls Tryz.prog 135 #[.string nums,.int .i32 r] w fun e w'=>e = .returned (.int .i64 (-1))∧Below w.heap.size w w':=by
   by_cases h3:r=65533
   ·subst h3;exact idxR_err w
   ·cases h4:(decide (r<55296) || (decide (57343<r) && decide (r≤1114111))) with
    | true=>exact idxR_far r w (by omega) (by simp at h4;omega) h3 h4
    | false=>exact (idxR_no r w (by omega) h2 h3 h4).mono fun e w' ⟨he,hw⟩=>⟨he,by rw [← hw];exact Below.refl _ _⟩
  clear e2
  go_enter Tryz.func107,Tryz.ntmps107
  go_wp2_with fail;refine (C).mono ?_;rintro e w' ⟨rfl,hb⟩;have HB:=hid hb;clear hb;go_wp2_with fail;go_ret;exact ⟨rfl,HB.out⟩
end Go.Proofs.YthkmihedkddnmaaGreat
namespace Go.Proofs.YthkmihedkddnmaaGreat
open Lib (hid)
open Go.RowKit Go.Shelf
attribute [local go_sem] Oper.semAt_some
open Wire
def backL (bs:List UInt8):List (Nat × UInt8):=(List.range bs.length).map fun i=>(bs.length - 1 - i,bs.getD (bs.length - 1 - i) 0)
def itemVb (x:Nat × UInt8):Array Value:=#[.int .i64 (x.1:Int),.int .u8 (x.2.toNat:Int)]
theorem backL_len (bs:List UInt8):(backL bs).length=bs.length:=by simp [backL]
theorem backL_take (bs:List UInt8) (j i:Nat) (h:bs.length=j+1+i):(backL bs).take j ++ [(i,bs.getD i 0)]=(backL bs).take (j+1):=by
 have h1:(backL bs)[j]? = some (i,bs.getD i 0):=by
  have e:bs.length - 1 - j=i:=by omega
  have h2:(List.range bs.length)[j]? = some j:=by rw [List.getElem?_range (by omega)]
  simp only [backL,List.getElem?_map,h2,Option.map_some,e]
 rw [List.take_add_one,h1]
 rfl
theorem back_stops (F:Fence) (n:Nat) (hfn:F.fn 159) (hro:F.round=none) (hn:1≤n) (Ba Bn:Nat) (ao:Option Addr) (cap m:Nat) (bs:List UInt8) (w:World) (hBa:Ba<w.heap.size)
  (hrd:Rd w 1 (.slice ao m cap) m (bV bs)) (hnb:∀ b off,ao=some ⟨b,off,none⟩→0<m→b≠Bn) (hne:Ba≠Bn) (hBn:Bn<w.heap.size) (hca:w.cell? ⟨Ba,0,none⟩=some (.slice ao m cap)) (hm:m≤1000000) :
  SeqStopsK F n Tryz.prog 159 #[.pointer (some ⟨Ba,0,none⟩)] itemVb (KpF fun _ k=>k=Bn) (fun ys=>ys=backL bs) (fun pre=>pre <+: backL bs) m w:=by
 intro l J Jx W hW hJ hJx hY h0;have hlen:bs.length=m:=by obtain ⟨_,_,_,hl,_⟩:=hrd;simpa [bV] using hl
 have hca':W.cell? ⟨Ba,0,none⟩=some (.slice ao m cap):=(hW.cell (p:=⟨Ba,0,none⟩) hBa).trans hca;have hrd':=hrd.below hW;have hcapm:m≤cap:=by obtain ⟨_,_,hv,_,_,hc,_⟩:=hrd;obtain ⟨rfl,_,rfl⟩:=Value.slice.inj hv;exact hc.2.1
 have HRD:=hid hrd';have HL:=hid hlen;have HNB:=hid hnb;have HH0:=hid h0;clear hrd hrd' hca hlen hnb h0;refine callsIn_of_wp Tryz.func159 rfl hfn ?_ hro;simp only [Tryz.ntmps159,List.size_toArray,List.length_cons,List.length_nil,Nat.reduceAdd,Nat.reduceSub,Array.replicate_succ,Array.replicate_zero,List.push_toArray,List.append_toArray,List.nil_append,List.cons_append]
 gi_wp2
 gi_loopw [3] (fun d wr=>∃ j:Nat,j≤m∧d = .int .i64 ((m:Int) - 1 - (j:Int))∧J ((backL bs).take j) wr∧KpF (fun _ k=>k=Bn) W wr)
  (fun d _=>(intOf d+1).toNat)
 case atStart =>
  exact ⟨0,Nat.zero_le _,by simp,by simpa using HH0.out,KpF.refl _ _⟩
 case round =>
  obtain ⟨j,hj,rfl,hJs,hbw⟩:=hrel;have hca2:wr.cell? ⟨Ba,0,none⟩=some (.slice ao m cap):=hbw.cell hca' hne
  by_cases hlt:j<m
  ·obtain ⟨i,hi⟩:∃ i,m=j+1+i:=⟨m - 1 - j,by omega⟩
   have hd:(m:Int) - 1 - (j:Int)=(i:Int):=by omega
   have hbi:bs[i]? = some (bs.getD i 0):=by
    have h1:i<bs.length:=by rw [HL.out];omega
    simp [List.getD,h1]
   obtain ⟨_,_,hv,_,_,_,hcc⟩:=HRD.out;obtain ⟨rfl,_,rfl⟩:=Value.slice.inj hv;obtain ⟨b,off,rfl,hbl,hcell⟩:=hcc i _ (bV_get hbi);have hc2:=hbw.cell hcell (HNB.out b off rfl (by omega));have HT:=hid (backL_take bs j i (by rw [HL.out];exact hi));obtain ⟨fn,tmps,assign,body,hy,hR⟩:=hY _ (i,bs.getD i 0) _ hJs (by rw [List.length_take,backL_len,HL.out];omega);dsimp only [itemVb] at hy;rw [hd];have HDI:=hid hd;have him:(i:Int)<(m:Int):=by omega
   have HM:=hid hi
   generalize bs.getD i 0=c at *
   have hcb:=byte_lt c;clear hY hcc hv hcell hJs hbi hd hi
   gi_wp2
   refine hR.mono ?_;rintro e W3 (⟨rfl,hJ3,hk3⟩ | ⟨rfl,hx3⟩)
   ·have hk4:=hbw.trans hk3
    rw [HT.out] at hJ3;clear hy hR hk3 hbw
    gi_wp2
    go_roundw
    case rel=>exact ⟨j+1,by omega,by have:=HDI.out;go_num,hJ3,hk4⟩
    case measure=>first | (simp [intOf];done) | (simp [intOf];omega)
   ·gi_wp2
    refine bodyPost_ret (results_none rfl _ _ _) rfl ?_;exact ⟨⟨_,rfl⟩,.inr ⟨_,by rw [HT.out];exact List.take_prefix _ _,hx3⟩⟩
  ·obtain rfl:j=m:=by omega
   have hd:(j:Int) - 1 - (j:Int) = -1:=by omega
   rw [hd];clear hd
   gi_wp2
   go_end0
   refine ⟨⟨_,rfl⟩,.inl ?_⟩;rw [← HL.out,← backL_len,List.take_length] at hJs;exact ⟨_,rfl,hJs⟩
theorem back_in (F:Fence) (n:Nat) (hfn:F.fn 154) (hro:F.round=none) (v:Value) (w:World) (hv:∃ ao m cap,v = .slice ao m cap):CallsIn F n Tryz.prog 154 #[v] w fun e w' =>
  e = .returned (.func (.func 159) #[] #[.pointer (some ⟨w.heap.size,0,none⟩)])∧w.alloc (.cells #[v] 33)=w':=by
 obtain ⟨ao,m,cap,rfl⟩:=hv;refine callsIn_of_wp Tryz.func154 rfl hfn ?_ hro;simp only [Tryz.ntmps154,List.size_toArray,List.length_cons,List.length_nil,Nat.reduceAdd,Nat.reduceSub,Array.replicate_succ,Array.replicate_zero,List.push_toArray,List.append_toArray,List.nil_append,List.cons_append]
 gi_wp2
 go_ret;exact ⟨rfl,rfl⟩
def highL (pre:List (Nat × UInt8)):Nat:=pre.foldl (fun n x=>n * 256+x.2.toNat) 0
theorem highL_snoc (pre:List (Nat × UInt8)) (x:Nat × UInt8):highL (pre ++ [x])=highL pre * 256+x.2.toNat:=by simp [highL]
theorem highL_go (pre:List (Nat × UInt8)):∀ n,pre.foldl (fun n x=>n * 256+x.2.toNat) n<(n+1) * 256 ^ pre.length:=by
 induction pre with
 | nil=>intro n;simp
 | cons x l ih =>
  intro n;have h:=ih (n * 256+x.2.toNat);have hx:=x.2.toNat_lt;rw [List.foldl_cons,List.length_cons,Nat.pow_succ];refine Nat.lt_of_lt_of_le h ?_;rw [Nat.mul_comm (256 ^ l.length) 256,← Nat.mul_assoc];exact Nat.mul_le_mul_right _ (by omega)
theorem highL_lt (pre:List (Nat × UInt8)):highL pre<256 ^ pre.length:=by
 have:=highL_go pre 0
 simpa [highL] using this
theorem highL_take (bs:List UInt8):∀ j,j≤bs.length→highL ((backL bs).take j)=sum (bs.drop (bs.length - j)):=by
 intro j
 induction j with
 | zero=>intro _;simp [highL,sum]
 | succ j ih =>
  intro hj;obtain ⟨i,hi⟩:∃ i,bs.length=j+1+i:=⟨bs.length - 1 - j,by omega⟩
  rw [← backL_take bs j i hi,highL_snoc,ih (by omega)];have e1:bs.length - (j+1)=i:=by omega
  have e2:bs.length - j=i+1:=by omega
  have hd:bs.drop i=bs.getD i 0 :: bs.drop (i+1):=by
   rw [List.drop_eq_getElem_cons (show i<bs.length by omega)]
   simp [List.getD,show i<bs.length by omega]
  rw [e1,e2,hd,sum];dsimp only;omega
theorem highL_all (bs:List UInt8):highL (backL bs)=sum bs:=by
 have:=highL_take bs bs.length (Nat.le_refl _);rw [← backL_len,List.take_length,backL_len,Nat.sub_self,List.drop_zero] at this;exact this
theorem results_cell_int {P:Program} {fn:Func} {p:Tmp} {ty:TypeId} {k:IntKind} {n:Int} (h:fn.results=#[.cell p ty]) (hty:P.underlying ty=some (.int k)) (tmps:Array Value) (w:World) (a:Addr)
  (hp:tmps.getD p undef = .pointer (some a)) (hc:w.cell? a=some (.int k n)):(results fn tmps).run P w = .ok (.int k n) w:=by
 have hp':tmps[p]?.getD undef = .pointer (some a):=by simpa using hp
 simp [results,h,hp',asAddr,loadVar,isAgg,Sem.run_bind,run_underlying hty,go_sem,hc]
theorem or_low (y c:Nat) (hy:y<72057594037927936) (hc:c<256):bits .or .u64 ((y:Int) * 256) (c:Int)=((y * 256+c:Nat):Int):=by
 have h2:((y:Int) * 256)=((y * 256:Nat):Int):=by omega
 rw [h2,bits_or_u64_nat _ _ (by omega) (by omega)];have:=Nat.two_pow_add_eq_or_of_lt (i:=8) (b:=c) (by omega) y;have h3:y * 256 ||| c=y * 256+c:=by
  have e:2 ^ 8 * y=y * 256:=by omega
  rw [e] at this;exact this.symm
 rw [h3]
theorem high_in (ao:Option Addr) (cap m:Nat) (bs:List UInt8) (w:World) (hrd:Rd w 1 (.slice ao m cap) m (bV bs)) (hm:m≤8) :
  CallsIn Fence.wide 5 Tryz.prog 138 #[.slice ao m cap] w fun e w'=>e = .returned (.int .u64 (sum bs:Int))∧Below w.heap.size w w':=by
 have hro:Fence.wide.round=none:=rfl;have h1:1≤5:=by omega
 have HRD:=hid hrd;refine callsIn_of_wp_marks Tryz.func138 rfl trivial ?_ hro;simp only [Tryz.ntmps138,List.size_toArray,List.length_cons,List.length_nil,Nat.reduceAdd,Nat.reduceSub,Array.replicate_succ,Array.replicate_zero,List.push_toArray,List.append_toArray,List.nil_append,List.cons_append];clear hrd
 gi_wp2_with (refine ⟨trivial,?_⟩;gi_at_call 154;refine (back_in _ _ trivial hro _ _ ⟨_,_,_,rfl⟩).mono ?_;rintro e w' ⟨rfl,rfl⟩)
 have c0:=newCell w (.int .u64 0) 38;have c1:=newCell (w.alloc (.cells #[.int .u64 0] 38)) (.slice ao m cap) 33;simp only [World.size_alloc] at c1;have hB0:Below w.heap.size w ((w.alloc (.cells #[.int .u64 0] 38)).alloc (.cells #[.slice ao m cap] 33)):=balloc (balloc (Below.refl _ _) _) _;have hnb:∀ b off,ao=some ⟨b,off,none⟩→0<m→b≠w.heap.size:=by
  intro b off ha h0;obtain ⟨_,_,hv,hl,_,_,hcc⟩:=HRD.out;obtain ⟨rfl,_,rfl⟩:=Value.slice.inj hv;have hl2:bs.length=m:=by simpa [bV] using hl
  obtain ⟨b',off',hb',hlt,_⟩:=hcc 0 _ (bV_get (List.getElem?_eq_getElem (by omega)));rw [ha] at hb';obtain ⟨rfl,rfl⟩:b=b'∧off=off':=by simpa using hb'
  omega
 refine wpIn_rangeFunc_ownF hro h1 (gf:=159) (lb:=#[.pointer (some ⟨w.heap.size+1,0,none⟩)]) rfl trivial (enters_of Tryz.func159 (by kernel_rfl) rfl)
  (back_stops Fence.wide (5 - 1) trivial hro (by omega) (w.heap.size+1) w.heap.size ao cap m bs _ (by simp) (HRD.out.below hB0) hnb (by omega) (by simp;omega) c1.1 (by omega))
  KpF.trans (KpF.put (fun _ _ _ _ _ _ _ _ h=>h)) (Below.refl _ _) (fun _=>rfl)
  (fun pre W=>(W.cell? ⟨w.heap.size,0,none⟩=some (.int .u64 (highL pre:Int))∧W.frozen? ⟨w.heap.size,0,none⟩=false)∧Below w.heap.size w W)
  (fun _ _ _=>False)
  (OwnFrom.and (Own.from (fun s A B row hs hg hr=>⟨cell_kept hs.1 hg hr,(frozen_kept hs.1 hg hr).trans hs.2⟩) _) (ownFrom_below (Nat.le_refl _) (by simp;omega)))
  (fun _ _ _ _ _ hs _ _=>hs)
  ⟨⟨cellAlloc _ c0.1,frozenAlloc _ c0.1 c0.2⟩,hB0⟩
  (fun x=>{ tmps:=#[.slice ao m cap,undef,.pointer (some ⟨w.heap.size,0,none⟩),undef,.int .u8 (x.2.toNat:Int),.slice ao m cap,.func (.func 159) #[] #[.pointer (some ⟨w.heap.size+1,0,none⟩)],.int .i64 (x.1:Int),.int .u8 (x.2.toNat:Int),undef,undef,undef,undef,undef,undef],defers:=[] }) ?assign ?body ?done ?stop
 case assign =>
  intro l x W K hK
  gi_wp2
  simpa [itemVb] using hK
 case body =>
  rintro l pre x W ⟨⟨hc,hf⟩,hB⟩ hlt;have hy:highL pre<72057594037927936:=by
   have h2:=highL_lt pre;have h3:256 ^ pre.length≤256 ^ 7:=Nat.pow_le_pow_right (by omega) (by omega);omega
  have HS:=hid (highL_snoc pre x);have hxb:=byte_lt x.2
  generalize hyy:highL pre=y at *
  have HY:=hid hyy;clear hyy;have HO:=or_low y x.2.toNat hy hxb;rw [← HS.out] at HO;have HO2:=hid HO;clear HO
  gi_wp2
  rw [HO2.out];refine ⟨KeepsOthers.setCell _ _ _,KpF.setCell _ _ rfl (fun k h=>h),⟨?_,by rw [World.frozen?_setCell];exact hf⟩,hB.setCell (p:=⟨w.heap.size,0,none⟩) (Nat.le_refl _) _⟩;rw [World.cell?_setCell_same' _ _ _ (by rw [hc];rfl)]
 case done =>
  rintro D ys W hD rfl ⟨⟨hc,hf⟩,hB⟩ hK;rw [highL_all] at hc
  generalize hyy:sum bs=y at *
  have HYY:=hid hyy;clear hyy;have hne:D≠w.heap.size:=by simp at hD;omega
  have hK2:(W.setCell ⟨w.heap.size,0,none⟩ (.int .u64 (y:Int))).heap[D]? = some (Obj.deferred (some [])):=(setOther _ _ hne).trans hK;have hc2:((W.setCell ⟨w.heap.size,0,none⟩ (.int .u64 (y:Int))).putObj D (.deferred none)).cell? ⟨w.heap.size,0,none⟩=some (.int .u64 (y:Int)) :=
   (World.cell?_of_block (World.putObj_heap_other (show w.heap.size≠D by omega))).trans (World.cell?_setCell_same' _ _ _ (by rw [hc];rfl))
  have hB2:=hB.setCell (p:=⟨w.heap.size,0,none⟩) (Nat.le_refl _) (.int .u64 (y:Int));have HK2:=hid hK2;have HC2:=hid hc2;have HB2:=hid hB2;clear hK2 hc2 hB2
  gi_wp2
  refine ⟨by simp,.inl ⟨_,_,rfl,run_takeDeferred HK2.out,?_⟩⟩;exact ⟨_,results_cell_int rfl Tryz.underlying38 _ _ ⟨w.heap.size,0,none⟩ rfl HC2.out,by rw [HYY.out],HB2.out.trans (belowK_b (w:=w) (Nat.le_refl _) _ D _ _ (by simp at hD;omega) HK2.out rfl rfl)⟩
 case stop =>
  rintro D c pre W _ _ h _;exact h.elim
theorem high_any (v:Value) (m:Nat) (bs:List UInt8) (w:World) (hrd:Rd w 1 v m (bV bs)) (hm:m≤8) :
  Calls Tryz.prog 138 #[v] w fun e w'=>e = .returned (.int .u64 (sum bs:Int))∧Below w.heap.size w w':=by
 have h:=hrd;obtain ⟨ao,cap,rfl,_⟩:=h;exact callsIn_wide.1 (high_in ao cap m bs w hrd hm)
end Go.Proofs.YthkmihedkddnmaaGreat
