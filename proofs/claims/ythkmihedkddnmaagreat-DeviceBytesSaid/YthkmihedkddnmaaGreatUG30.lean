import Derived.Test.YthkmihedkddnmaaGreatUG2
import Derived.Test.YthkmihedkddnmaaGreatUG6
import Derived.Test.YthkmihedkddnmaaGreatUG29
set_option linter.unusedVariables false
set_option linter.unusedSimpArgs false
set_option maxHeartbeats 6400000
set_option maxRecDepth 100000
namespace Go.Proofs.YthkmihedkddnmaaGreat
open Lib (hid)
open Go.RowKit Wire Cmd
theorem szB8 (w:World):(sizeOf (Tryz.prog.elem 33)).run Tryz.prog w = .ok 1 w:=by kernel_rfl
theorem undB8:Tryz.prog.underlying 33=some (.slice (Tryz.prog.elem 33)):=by kernel_rfl
theorem ofVol_key {r:List UInt8} {lst:Nat} (h:sum (r.take 4)≤lst):ofVol r=none∨∃ s,ofVol r=some s∧s.1.1≤lst:=by
 cases hv:ofVol r with
 | none=>exact .inl rfl
 | some s =>
  refine .inr ⟨s,rfl,?_⟩;unfold ofVol at hv
  split at hv
  ·cases hv
  ·obtain ⟨x,hx,rfl⟩:=Option.map_eq_some_iff.1 hv
   exact h
theorem ofVol_wide {r:List UInt8} (h:256<sum ((r.drop 4).take 4)):ofVol r=none:=by unfold ofVol;rw [if_pos (.inr h)]
def LastOf (l:List (Nat × (Vl × Value))) (lst:Nat):Prop:=(l=[]∧lst=0)∨∃ p,l[l.length - 1]? = some p∧p.1=lst
def ROfP (w:World) (bs:List UInt8) (e:Ending) (w':World):Prop :=
 Below w.heap.size w w'∧((ofD bs=none∧∃ v,e = .returned (.tuple #[v,.bool false])) ∨
  ∃ sv lw,ofD bs=some (mapA (·.1) lw)∧e = .returned (.tuple #[.pointer (some ⟨w.heap.size,0,none⟩),.bool true])∧RDevAt w.heap.size w' w.heap.size sv lw)
def ROI (w wr:World) (n at_:Nat) (bs:List UInt8):Prop :=
 ∃ j sv lw lst,RDevAt w.heap.size wr w.heap.size sv lw∧lw.length=j∧j≤n∧LastOf lw lst∧OInv n j (bs.drop 4) (mapA (·.1) lw) lst (bs.drop at_)∧Below w.heap.size w wr
def LastB (l:List (Nat × List UInt8)) (lst:Int):Prop:=(l=[]∧lst = -1)∨∃ p,l[l.length - 1]? = some p∧(p.1:Int)=lst
def ROJ (w w5 wr:World) (q a b c at2:Nat) (bs r12:List UInt8):Prop :=
 ∃ kk mv mb lst,wr.ownsRow w5.heap.size 107 257 mv mb.length (rblkC mb)∧mb.length=kk∧kk≤c∧(∀ x∈mb,x.2.length=256)∧LastB mb lst∧VInv b c kk r12 mb lst (bs.drop at2)∧wr.heap[q]? = some (.cells #[.int .u64 (a:Int),.int .i64 (b:Int),mv] 58 (0,0))∧Below w5.heap.size w5 wr
theorem last_blk2 {W:World} {n0 kk cm:Nat} {am:Option Addr} {mb:List (Nat × List UInt8)} {lb:Int} (h:LastB mb lb) (hr:W.ownsRow n0 107 257 (.slice am kk cm) mb.length (rblkC mb)) (hm:∀ x∈mb,x.2.length=256) (hl:mb.length=kk) (hk:0<kk) (hb:kk<4294967296) :
  ∃ km,km<kk∧∃ gm,am=some ⟨gm,0,none⟩∧Hid (W.cell? ⟨gm,km * 257,none⟩=some (.int .i64 lb))∧Hid (gm<W.heap.size)∧Hid (IntKind.i64.wrap ((kk:Int) - 1)=(km:Int)):=by
 rcases h with ⟨e,_⟩ | ⟨p,hp,rfl⟩
 ·rw [e] at hl
  simp at hl
  omega
 ·obtain ⟨gm,cap,hv,_,_,hg,hc,_⟩:=rblk_at hr hm hp
  obtain ⟨rfl,_,rfl⟩:=Value.slice.inj hv;rw [hl] at hc;exact ⟨kk - 1,by omega,gm,rfl,hid hc,hid hg,hid (by rw [IntWalk.i64_in _ ⟨by omega,by omega⟩];omega)⟩
theorem last_blk {W:World} {n0 kk cm y:Nat} {am:Option Addr} {mb:List (Nat × List UInt8)} {lb:Int} (h:LastB mb lb) (hr:W.ownsRow n0 107 257 (.slice am kk cm) mb.length (rblkC mb)) (hm:∀ x∈mb,x.2.length=256) (hl:mb.length=kk) (hy:(y:Int)≤lb) (hb:kk<4294967296) :
  ∃ km,km<kk∧∃ gm,am=some ⟨gm,0,none⟩∧Hid (W.cell? ⟨gm,km * 257,none⟩=some (.int .i64 lb))∧Hid (gm<W.heap.size)∧Hid (IntKind.i64.wrap ((kk:Int) - 1)=(km:Int)):=by
 refine last_blk2 h hr hm hl ?_ hb
 rcases h with ⟨_,e⟩ | ⟨p,hp,_⟩
 ·omega
 ·have:=(List.getElem?_eq_some_iff.1 hp).1
  omega
theorem wp_build1' {P:Program} {o:Oper} {a:Act} {K:Act→World→Prop} {Q:Exit→Act→World→Prop} {w:World} (x:Operand) (t e:TypeId) (n:Nat) (z:Value) (L:List Value)
  (ho:o.op = .buildSlice t 1 #[(0,x)]) (hx:a.eval x = .agg L.toArray) (ht:P.underlying t=some (.slice e)) (hi:(P.info? e).map (fun i=>(i.zero,i.size))=some (some z,n)) (hz:z.cells.size=n) (hL:L.length=n) (hn:0<n) (hn2:n≤1000)
  (h:∀ W,W=w.alloc (.cells L.toArray e)→K (a.put o.dst (.slice (some ⟨w.heap.size,0,none⟩) 1 1)) W):o.wp P a w K Q:=by
 have hrun:=run_buildSlice_one (P:=P) w t e n z L ht hi hz hL hn hn2;unfold Oper.wp execOp;simp only [ho,List.map_toArray,List.map_cons,List.map_nil,hx,Sem.run_bind,hrun,Result.andThen_ok,Sem.run_pure];exact h _ rfl
theorem roj_next {w w5 W:World} {q a b c at2 kk y cm:Nat} {am:Option Addr} {v13:Value} {mb:List (Nat × List UInt8)} {lb:Int} {bs r12 r2 X:List UInt8} (hrow:W.ownsRow w5.heap.size 107 257 v13 (kk+1) (rblkC mb ++ (rbC (y,X)).toArray.toList)) (hkl:mb.length=kk) (hkc:kk<c) (h256:∀ x∈mb,x.2.length=256) (hX:X.length=256)
  (hvi:VInv b c kk r12 mb lb r2) (hr2:bs.drop at2=r2) (hy:sum (r2.take 4)=y) (hXe:(r2.drop 4).take 256=X) (hps : ¬ (r2.length<260∨(sum (r2.take 4):Int)≤lb∨b≤sum (r2.take 4)))
  (hbox:W.heap[q]? = some (.cells #[.int .u64 (a:Int),.int .i64 (b:Int),.slice am kk cm] 58 (0,0))) (hb:Below w5.heap.size w5 W) (hq:w5.heap.size≤q):ROJ w w5 (W.setCell ⟨q,2,none⟩ v13) q a b c (at2+260) bs r12:=by
 refine ⟨kk+1,v13,mb ++ [(y,X)],(y:Int),?_,by simp [hkl],hkc,fun x hx => ?_,.inr ⟨(y,X),by simp,rfl⟩,?_,setOf hbox 2 v13,hb.setCell (p:=⟨q,2,none⟩) hq _⟩
 ·rw [rblkC_snoc,List.length_append,hkl]
  exact ownsRow_at hrow (fun k hk=>Below.heap_setCell W ⟨q,2,none⟩ v13 k (fun e=>by
   have e2:k=q:=e;subst e2;exact ob_tag hrow hbox (by decide) hk))
 ·rcases List.mem_append.1 hx with hx | hx
  ·exact h256 x hx
  ·rw [List.mem_singleton.1 hx];exact hX
 ·have h1:=hvi.next hkc hps
  rw [hy,hXe,← hr2,List.drop_drop] at h1;exact h1
theorem rof_next {w W8 w9:World} {j cv a b kk cm c9:Nat} {av am a9:Option Addr} {lw:List (Nat × (Vl × Value))} {mb:List (Nat × List UInt8)} (h8:RDevAt w.heap.size W8 w.heap.size (.slice av j cv) lw) (hx9:w9.heap[w.heap.size]? = some (.cells #[.slice av j cv] 30 (0,0)))
  (h9:w9.ownsRow w.heap.size 58 3 (.slice a9 (j+1) c9) (j+1) (rvolC lw ++ [.int .u64 (a:Int),.int .i64 (b:Int),.slice am kk cm])) (hm9:Mods (ob (.slice av j cv)) W8 w9) (hlen:lw.length=j) (hmv:W8.ownsRow w.heap.size 107 257 (.slice am kk cm) kk (rblkC mb)) (hkl:mb.length=kk) :
  RDevAt w.heap.size (w9.setCell ⟨w.heap.size,0,none⟩ (.slice a9 (j+1) c9)) w.heap.size (.slice a9 (j+1) c9) (lw ++ [(a,((⟨b,mb⟩:Vl),.slice am kk cm))]):=by
 have hb:∀ (v:Value) (x:Nat) (xs:List Value),W8.ownsRow w.heap.size 107 257 v x xs→w9.ownsRow w.heap.size 107 257 v x xs:=fun v x xs hv=>ownsRow_at hv (fun j hj=>hm9.block j (ownsRow_lt hv j hj) (by
  obtain ⟨cs,hcs⟩:=row_blocks hv j hj;exact ob_tag h8.row hcs (by decide)))
 refine RDevAt.taken hx9 (Nat.le_refl _) ?_ (fun q hq => ?_)
 ·rw [List.length_append,hlen,rvolC_app]
  exact h9
 ·rcases List.mem_append.1 hq with hq | hq
  ·exact hb _ _ _ (h8.blk q hq)
  ·obtain rfl:=List.mem_singleton.1 hq
   have h1:=hb _ _ _ hmv
   show w9.ownsRow _ _ _ (.slice am kk cm) mb.length (rblkC mb)
   rw [hkl];exact h1
theorem fold_set9 (o:Nat):∀ (Y:List Value) (k:Nat) (A X B:List Value),A.length=o+k→X.length=Y.length→(Y.zipIdx k).foldl (fun cs x=>cs.setIfInBounds (o+x.snd) x.fst) (A ++ (X ++ B)).toArray=(A ++ (Y ++ B)).toArray
 | [],k,A,X,B,hA,hX=>by
  have:X=[]:=List.length_eq_zero_iff.1 hX;subst this
  rfl
 | y :: Y,k,A,X,B,hA,hX=>by
  cases X with
  | nil=>simp at hX
  | cons x X =>
   rw [List.zipIdx_cons,List.foldl_cons];have e:((A ++ ((x :: X) ++ B)).toArray).setIfInBounds (o+k) y=((A ++ [y]) ++ (X ++ B)).toArray:=by
    apply Array.toList_inj.1
    rw [Array.toList_setIfInBounds,← hA]
    simp
   dsimp only;rw [e,fold_set9 o Y (k+1) (A ++ [y]) X B (by rw [List.length_append,hA];rfl) (by simpa using hX)]
   simp
theorem rb_zero (y:Nat):Tryz.zeroCells107.setIfInBounds 0 (.int .i64 (y:Int))=(Value.int .i64 (y:Int) :: bV (List.replicate 256 0)).toArray:=by kernel_rfl
theorem rb_arr (y:Nat) (X:List UInt8) (h:X.length=256):List.foldl (fun cs x=>cs.setIfInBounds (1+x.snd) x.fst) (Tryz.zeroCells107.setIfInBounds 0 (.int .i64 (y:Int))) (bV X).zipIdx=(rbC (y,X)).toArray:=by
 rw [rb_zero];have h1:=fold_set9 1 (bV X) 0 [.int .i64 (y:Int)] (bV (List.replicate 256 0)) [] rfl (by rw [bV_len,bV_len,h,List.length_replicate]);rw [List.append_nil,List.append_nil] at h1;exact h1
theorem rof_any (w:World) (v:Value) (m:Nat) (bs:List UInt8) (hrd:Rd w 1 v m (bV bs)) (hm:m≤20000) :
  Calls Tryz.prog 31 #[v] w fun e w'=>ROfP w bs e w':=by
 have HRD:=hid hrd;have HLB:Hid (bs.length=m):=hid (by obtain ⟨_,_,_,hl,_⟩:=hrd;simpa [bV_len] using hl);obtain ⟨w1,hw1⟩:∃ W,w.alloc (.cells #[.slice none 0 0] 30)=W:=⟨_,rfl⟩
 have hb1:Below w.heap.size w w1:=by rw [← hw1];exact balloc (Below.refl _ _) _
 have HX1:Hid (w1.heap[w.heap.size]? = some (.cells #[.slice none 0 0] 30 (0,0))):=hid (by rw [← hw1];exact heap_alloc_new _ _);have HB1:=hid hb1;have HR1:Hid (RDevAt w.heap.size w1 w.heap.size (.slice none 0 0) []):=hid ⟨HX1.out,World.ownsRow_nil _ _ _ _,fun p hp=>(by cases hp),Nat.le_refl _⟩;obtain ⟨ao,cap,rfl,_,_,⟨hao,hmc,hcm⟩,_⟩:=id hrd;have CU:=run1 hrd hb1 hm;clear hrd hb1
 go_enter Tryz.func31,Tryz.ntmps31
 go_wp2_with fail
 (try rw [hw1])
 clear hw1;refine CU.mono ?_;rintro e w2 ⟨hb2,hu2⟩;have HB2:=hid (bthen HB1.out hb2);have HR2:=hid (HR1.out.below hb2);clear CU hb2
 rcases hu2 with ⟨ho,rfl⟩ | ⟨g1,c1,l1,ho,hc1,rfl,ht1,hx1⟩
 ·have HNO:Hid (ofD bs=none):=hid (by
   split at ho
   ·rename_i h
    unfold ofD;rw [if_pos h]
   ·cases ho)
  clear ho;go_wp2_with fail
  go_ret2
  exact ⟨HB2.out,.inl ⟨HNO.out,_,rfl⟩⟩
 ·obtain ⟨n0,hn0⟩:∃ x,sum (bs.take 4)=x:=⟨_,rfl⟩
  have H4:Hid (4≤bs.length∧l1=[num n0]):=hid (by
   split at ho
   ·cases ho
   ·rename_i h
    rw [hn0] at ho;exact ⟨by omega,(Option.some.inj ho).symm⟩)
  have hn0b:n0<4294967296:=by rw [← hn0];exact sum4_lt _
  have HN0:=hid hn0;have c8:w2.cell? ⟨g1,1,none⟩=some (.int .u64 (n0:Int)):=(hx1 0 (num n0) (by rw [H4.out.2];rfl)).1;have HEQ:Hid (ofD bs=(ofVols n0 0 (bs.drop 4)).bind fun r=>if r.2=[] then some r.1 else none):=hid (ofD_eq H4.out.1 hn0);have HM4:Hid (4≤m):=hid (by rw [← HLB.out];exact H4.out.1);clear ho hn0 ht1 hx1;go_wp2_with fail
  go_loopw [6] (fun i wr=>∃ at_:Nat,i = .int .i64 (at_:Int)∧4≤at_∧at_≤m∧ROI w wr n0 at_ bs) (fun i _=>m - (Go.Proofs.intOf i).toNat)
  case atStart=>exact ⟨4,rfl,Nat.le_refl _,HM4.out,0,_,[],0,HR2.out,rfl,Nat.zero_le _,.inl ⟨rfl,rfl⟩,OInv.start _ _,HB2.out⟩
  case round =>
   obtain ⟨at_,rfl,hat,ham,j,sv,lw,lst,hr,hlj,hjn,hlst,hinv,hbw⟩:=hrel;obtain ⟨av,cv,hsv⟩:=row_slice hr.row;rw [hlj] at hsv;subst hsv;have HRR:=hid hr;have HLJ:=hid hlj;have HLS:=hid hlst;have HINV:=hid hinv;have HBW:=hid hbw;have hbc:=hr.cell;have HBC:=hid hbc;clear hr hlj hlst hinv hbw
   by_cases hlt:j<n0
   ·have hw64:IntKind.u64.wrap (j:Int)=(j:Int):=by rw [IntKind.wrap_u64];omega
    have q0:decide ((j:Int)<(n0:Int))=true:=decide_eq_true (by omega);have hcut:=fun W=>run_cutT (P:=Tryz.prog) W 33 ao m cap 1 undB8 szB8 (at_:Int) (by omega) (by omega);simp only [Int.toNat_natCast] at hcut;have CU:=run3 (HRD.out.mid (l:=at_) (k:=m) ham (Nat.le_refl _)) HBW.out (by omega);go_wp2_with fail;refine CU.mono ?_;rintro e w3 ⟨hb3,hu3⟩;rw [List.take_of_length_le (by rw [List.length_drop,HLB.out];exact Nat.le_refl _)] at hu3;obtain ⟨r,hr⟩:∃ x,bs.drop at_=x:=⟨_,rfl⟩
    have HR:=hid hr;rw [hr] at hu3;have HIN:=hid HINV.out;rw [hr] at HIN;have HLR:Hid (r.length=m - at_):=hid (by rw [← hr,List.length_drop,HLB.out]);have HB3:=hid (bthen HBW.out hb3);have HRR3:=hid (HRR.out.below hb3);have HBR:=hid hb3;clear CU hb3 hr hcut
    rcases hu3 with ⟨ho,rfl⟩ | ⟨g3,c3,l3,ho,hc3,rfl,ht3,hx3⟩
    ·have HNO:Hid (ofD bs=none):=hid (by
      have h1:r.length<12:=by
       split at ho
       ·assumption
       ·cases ho
      have h2:ofVol r=none:=by unfold ofVol;rw [if_pos (.inl h1)]
      rw [HEQ.out,HIN.out.no hlt (.inl h2)]
      rfl)
     clear ho;go_wp2_with fail
     as_aux_lemma =>
      have HSS:Hid (∀ X,Below w3.heap.size w3 X→(True)∧Below w3.heap.size w3 X):=hid (fun X hb=>⟨trivial,hb⟩);refine region_normal (S:=fun X=>(True)∧Below w3.heap.size w3 X) (by kernel_rfl) (HSS.out _ (Below.refl _ _).drew) (fun hHeld => ?_);have hbe:Below w3.heap.size w3 w3.drew:=(Below.refl _ _).drew;obtain ⟨wd,hwd⟩:∃ y,w3.drew=y:=⟨_,rfl⟩
      rw [hwd] at hHeld hbe ⊢;have HBE:=hid hbe;have HS0:Hid (w3.heap.size≤wd.heap.size):=hid HBE.out.size;clear hwd hbe;refine tkR 0 rfl ?_;refine tkS 1 (.bool true) rfl ?_ ?_
      ·(intro w hSw;simp only [gE1,gE2,gE3];(go_simp;first | done | with_reducible rfl | simp))
      refine tkR 2 rfl ?_;refine tkV 3 rfl ?_;refine tkV 4 rfl ?_;refine tkV 5 rfl ?_;refine tkV 6 rfl ?_;refine tkV 7 rfl ?_;refine tkS 8 (.bool true) rfl ?_ ?_
      ·(intro w hSw;simp only [gE1,gE2,gE3];(go_simp;first | done | with_reducible rfl | simp))
      refine tkR 9 rfl ?_;refine tkV 10 rfl ?_;refine tkV 11 rfl ?_;refine tkV 12 rfl ?_;refine tkV 13 rfl ?_;refine tkV 14 rfl ?_;refine tkV 15 rfl ?_;refine tkV 16 rfl ?_;refine tkV 17 rfl ?_;refine tkV 21 rfl ?_;refine tkV 30 rfl ?_;refine tkV 18 rfl ?_;refine tkV 22 rfl ?_;refine tkV 31 rfl ?_;refine tkV 19 rfl ?_;refine tkV 23 rfl ?_;refine tkV 32 rfl ?_;refine tkV 20 rfl ?_;refine tkV 24 rfl ?_;refine tkV 33 rfl ?_;refine tkV 25 rfl ?_;refine tkV 26 rfl ?_;refine tkV 27 rfl ?_;refine tkV 28 rfl ?_;refine tkV 29 rfl ?_;refine tkV 34 rfl ?_;refine tkV 35 rfl ?_
      refine tkS 36 (.bool true) rfl ?_ ?_
      ·(intro w hSw;simp only [gE1,gE2,gE3];(go_simp;first | done | with_reducible rfl | simp))
      refine tkR 37 rfl ?_;refine tkV 38 rfl ?_;refine tkV 39 rfl ?_;refine tkV 40 rfl ?_;refine tkV 41 rfl ?_;refine tkV 42 rfl ?_;refine tkS 43 (.bool true) rfl ?_ ?_
      ·(intro w hSw;simp only [gE1,gE2,gE3];(go_simp;first | done | with_reducible rfl | simp))
      refine wpAnyH_done (by kernel_rfl) ⟨rfl,?_⟩ _;have HEND:=hid hHeld.2;have HSE:=hid hHeld.1;clear hHeld;clear HSE HSS;have HE8:=hid (bthen HB3.out HBE.out);go_wp2_with fail
      go_ret2
      exact ⟨HE8.out,.inl ⟨HNO.out,_,rfl⟩⟩
    ·obtain ⟨a,ha⟩:∃ x,sum (r.take 4)=x:=⟨_,rfl⟩
     obtain ⟨b,hb⟩:∃ x,sum ((r.drop 4).take 4)=x:=⟨_,rfl⟩
     obtain ⟨c,hc⟩:∃ x,sum ((r.drop 8).take 4)=x:=⟨_,rfl⟩
     have H12:Hid (12≤r.length∧l3=[num a,num b,num c]):=hid (by
      split at ho
      ·cases ho
      ·rename_i h
       rw [ha,hb,hc] at ho;exact ⟨by omega,(Option.some.inj ho).symm⟩)
     have hal:a<4294967296:=by rw [← ha];exact sum4_lt _
     have hbl:b<4294967296:=by rw [← hb];exact sum4_lt _
     have hcl:c<4294967296:=by rw [← hc];exact sum4_lt _
     have HA:=hid ha;have HB:=hid hb;have HC:=hid hc;have k0:w3.cell? ⟨g3,1,none⟩=some (.int .u64 (a:Int)):=(hx3 0 (num a) (by rw [H12.out.2];rfl)).1;have k1:w3.cell? ⟨g3,261,none⟩=some (.int .u64 (b:Int)):=(hx3 1 (num b) (by rw [H12.out.2];rfl)).1;have k2:w3.cell? ⟨g3,521,none⟩=some (.int .u64 (c:Int)):=(hx3 2 (num c) (by rw [H12.out.2];rfl)).1;have HG3:Hid (g3<w3.heap.size):=hid (by obtain ⟨cur,h⟩:=ht3;exact (hLT h));have HK0:=hid k0;have HK1:=hid k1;have HK2:=hid k2;have HT3:=hid ht3;have HBC3:=hid HRR3.out.cell
     have hbc3:=HBC3.out;clear ho ha hb hc hx3 ht3 k0 k1 k2 hbc
     by_cases hz0:a=0
     ·have HNO:Hid (ofD bs=none):=hid (by
       rw [HEQ.out,HIN.out.no hlt (ofVol_key (by rw [HA.out];omega))]
       rfl)
      subst hz0;go_wp2_with fail
      as_aux_lemma =>
       have HSS:Hid (∀ X,Below w3.heap.size w3 X→(X.cell? ⟨g3,1,none⟩=some (.int .u64 ((0:Nat):Int)))∧Below w3.heap.size w3 X):=hid (fun X hb=>⟨(World.cell?_of_block (hb.block _ (HG3.out))).trans (HK0.out),hb⟩);refine region_normal (S:=fun X=>(X.cell? ⟨g3,1,none⟩=some (.int .u64 ((0:Nat):Int)))∧Below w3.heap.size w3 X) (by kernel_rfl) (HSS.out _ (Below.refl _ _).drew) (fun hHeld => ?_);have hbe:Below w3.heap.size w3 w3.drew:=(Below.refl _ _).drew;obtain ⟨wd,hwd⟩:∃ y,w3.drew=y:=⟨_,rfl⟩
       rw [hwd] at hHeld hbe ⊢;have HBE:=hid hbe;have HS0:Hid (w3.heap.size≤wd.heap.size):=hid HBE.out.size;clear hwd hbe;refine tkR 0 rfl ?_;refine tkS 1 (.bool false) rfl ?_ ?_
       ·(intro w hSw;simp only [gE1,gE2,gE3];(go_simp;first | done | with_reducible rfl | simp))
       refine tkR 2 rfl ?_;refine tkR 3 rfl ?_;refine tkR 4 rfl ?_;refine tkR 5 rfl ?_;refine tkR 6 rfl ?_;refine tkS 7 (.bool true) rfl ?_ ?_
       ·(intro w hSw;simp only [gE1,gE2,gE3];(go_simp;first | done | with_reducible rfl | simp))
       refine tkS 8 (.bool true) rfl ?_ ?_
       ·(intro w hSw;simp only [gE1,gE2,gE3];(go_simp;first | done | with_reducible rfl | simp))
       refine tkR 9 rfl ?_;refine tkV 10 rfl ?_;refine tkV 11 rfl ?_;refine tkV 12 rfl ?_;refine tkV 13 rfl ?_;refine tkV 14 rfl ?_;refine tkV 15 rfl ?_;refine tkV 16 rfl ?_;refine tkV 17 rfl ?_;refine tkV 21 rfl ?_;refine tkV 30 rfl ?_;refine tkV 18 rfl ?_;refine tkV 22 rfl ?_;refine tkV 31 rfl ?_;refine tkV 19 rfl ?_;refine tkV 23 rfl ?_;refine tkV 32 rfl ?_;refine tkV 20 rfl ?_;refine tkV 24 rfl ?_;refine tkV 33 rfl ?_;refine tkV 25 rfl ?_;refine tkV 26 rfl ?_;refine tkV 27 rfl ?_;refine tkV 28 rfl ?_;refine tkV 29 rfl ?_;refine tkV 34 rfl ?_;refine tkV 35 rfl ?_
       refine tkS 36 (.bool true) rfl ?_ ?_
       ·(intro w hSw;simp only [gE1,gE2,gE3];(go_simp;first | done | with_reducible rfl | simp))
       refine tkR 37 rfl ?_;refine tkV 38 rfl ?_;refine tkV 39 rfl ?_;refine tkV 40 rfl ?_;refine tkV 41 rfl ?_;refine tkV 42 rfl ?_;refine tkS 43 (.bool true) rfl ?_ ?_
       ·(intro w hSw;simp only [gE1,gE2,gE3];(go_simp;first | done | with_reducible rfl | simp))
       refine wpAnyH_done (by kernel_rfl) ⟨rfl,?_⟩ _;have HEND:=hid hHeld.2;have HSE:=hid hHeld.1;clear hHeld;clear HSE HSS;have HE8:=hid (bthen HB3.out HBE.out);go_wp2_with fail
       go_ret2
       exact ⟨HE8.out,.inl ⟨HNO.out,_,rfl⟩⟩
     ·have HBL:Hid (w.heap.size<w3.heap.size):=hid HRR3.out.lt
      have q7:decide ((a:Int)=0)=false:=decide_eq_false (by omega)
      by_cases hpass:lst<a∧b≤256
      ·go_upto_region 8 with fail
       go_cut [89] (fun c wx=>∃ W,W=wx∧c = .bool false∧Below w3.heap.size w3 W)
       case first =>
        rcases Nat.eq_zero_or_pos j with hj0 | hj0
        ·subst hj0
         as_aux_lemma =>
          have HSS:Hid (∀ X,Below w3.heap.size w3 X→(X.cell? ⟨g3,1,none⟩=some (.int .u64 (a:Int))∧X.cell? ⟨g3,261,none⟩=some (.int .u64 (b:Int))∧X.cell? ⟨w.heap.size,0,none⟩=some (.slice av 0 cv))∧Below w3.heap.size w3 X):=hid (fun X hb=>⟨⟨(World.cell?_of_block (hb.block _ (HG3.out))).trans (HK0.out),(World.cell?_of_block (hb.block _ (HG3.out))).trans (HK1.out),(World.cell?_of_block (hb.block _ (HBL.out))).trans (HBC3.out)⟩,hb⟩)
          refine region_normal (S:=fun X=>(X.cell? ⟨g3,1,none⟩=some (.int .u64 (a:Int))∧X.cell? ⟨g3,261,none⟩=some (.int .u64 (b:Int))∧X.cell? ⟨w.heap.size,0,none⟩=some (.slice av 0 cv))∧Below w3.heap.size w3 X) (by kernel_rfl) (HSS.out _ (Below.refl _ _).drew) (fun hHeld => ?_);have hbe:Below w3.heap.size w3 w3.drew:=(Below.refl _ _).drew;obtain ⟨wd,hwd⟩:∃ y,w3.drew=y:=⟨_,rfl⟩
          rw [hwd] at hHeld hbe ⊢;have HBE:=hid hbe;have HS0:Hid (w3.heap.size≤wd.heap.size):=hid HBE.out.size;clear hwd hbe;refine tkR 0 rfl ?_;refine tkS 1 (.bool false) rfl ?_ ?_
          ·(intro w hSw;simp only [gE1,gE2,gE3];(go_simp;first | done | with_reducible rfl | simp | (simp;omega) | omega))
          refine tkR 2 rfl ?_;refine tkR 3 rfl ?_;refine tkR 4 rfl ?_;refine tkR 5 rfl ?_;refine tkR 6 rfl ?_;refine tkS 7 (.bool false) rfl ?_ ?_
          ·(intro w hSw;simp only [gE1,gE2,gE3];(go_simp;first | done | with_reducible rfl | simp | (simp;omega) | omega))
          refine tkS 8 (.bool false) rfl ?_ ?_
          ·(intro w hSw;simp only [gE1,gE2,gE3];(go_simp;first | done | with_reducible rfl | simp | (simp;omega) | omega))
          refine tkR 9 rfl ?_;refine tkR 10 rfl ?_;refine tkR 11 rfl ?_;refine tkR 12 rfl ?_;refine tkR 13 rfl ?_;refine tkR 14 rfl ?_;refine tkS 15 (.bool false) rfl ?_ ?_
          ·(intro w hSw;simp only [gE1,gE2,gE3];(go_simp;first | done | with_reducible rfl | simp | (simp;omega) | omega))
          refine tkR 16 rfl ?_;refine tkV 17 rfl ?_;refine tkV 21 rfl ?_;refine tkV 30 rfl ?_;refine tkV 18 rfl ?_;refine tkV 22 rfl ?_;refine tkV 31 rfl ?_;refine tkV 19 rfl ?_;refine tkV 23 rfl ?_;refine tkV 32 rfl ?_;refine tkV 20 rfl ?_;refine tkV 24 rfl ?_;refine tkV 33 rfl ?_;refine tkV 25 rfl ?_;refine tkV 26 rfl ?_;refine tkV 27 rfl ?_;refine tkV 28 rfl ?_;refine tkV 29 rfl ?_;refine tkV 34 rfl ?_;refine tkS 35 (.bool false) rfl ?_ ?_
          ·(intro w hSw;simp only [gE1,gE2,gE3];(go_simp;first | done | with_reducible rfl | simp | (simp;omega) | omega))
          refine tkS 36 (.bool false) rfl ?_ ?_
          ·(intro w hSw;simp only [gE1,gE2,gE3];(go_simp;first | done | with_reducible rfl | simp | (simp;omega) | omega))
          refine tkR 37 rfl ?_;refine tkR 38 rfl ?_;refine tkR 39 rfl ?_;refine tkR 40 rfl ?_;refine tkR 41 rfl ?_;refine tkS 42 (.bool false) rfl ?_ ?_
          ·(intro w hSw;simp only [gE1,gE2,gE3];(go_simp;first | done | with_reducible rfl | simp | (simp;omega) | omega))
          refine tkS 43 (.bool false) rfl ?_ ?_
          ·(intro w hSw;simp only [gE1,gE2,gE3];(go_simp;first | done | with_reducible rfl | simp | (simp;omega) | omega))
          refine wpAnyH_done (by kernel_rfl) ⟨rfl,?_⟩ _;have HEND:=hid hHeld.2;have HSE:=hid hHeld.1;clear hHeld;clear HSS;go_wp2_with fail;go_meet;exact ⟨_,rfl,rfl,HBE.out⟩
        ·obtain ⟨jm,hjm⟩:∃ i,i=j - 1:=⟨_,rfl⟩
         have hjl:jm<j:=by omega
         obtain ⟨p,hp,hpl⟩:∃ p,lw[jm]? = some p∧p.1=lst:=by
          rcases HLS.out with ⟨h,_⟩ | ⟨p,hp,h⟩
          ·have:=HLJ.out
           rw [h] at this
           simp at this
           omega
          ·rw [HLJ.out,← hjm] at hp
           exact ⟨p,hp,h⟩
         obtain ⟨g,cap3,hv,hc1',hc2',e0,_,_⟩:=HRR3.out.at_ hp;rw [HLJ.out] at hv;obtain ⟨rfl,_,rfl⟩:=Value.slice.inj hv;rw [hpl] at e0;have HE0:=hid e0;have HGV:Hid (g<w3.heap.size):=hid (World.block_lt_of_cell? w3 _ e0);have HJB:Hid (IntKind.i64.wrap ((j:Int) - 1)=(jm:Int)):=hid (by rw [show (j:Int) - 1=(jm:Int) by omega];exact IntWalk.i64_in _ ⟨by omega,by omega⟩);clear hjm hv hp hpl hc1' hc2' e0
         as_aux_lemma =>
          have HSS:Hid (∀ X,Below w3.heap.size w3 X→(X.cell? ⟨g3,1,none⟩=some (.int .u64 (a:Int))∧X.cell? ⟨g3,261,none⟩=some (.int .u64 (b:Int))∧X.cell? ⟨w.heap.size,0,none⟩=some (.slice (some ⟨g,0,none⟩) j cv)∧X.cell? ⟨g,jm * 3,none⟩=some (.int .u64 (lst:Int)))∧Below w3.heap.size w3 X):=hid (fun X hb=>⟨⟨(World.cell?_of_block (hb.block _ (HG3.out))).trans (HK0.out),(World.cell?_of_block (hb.block _ (HG3.out))).trans (HK1.out),(World.cell?_of_block (hb.block _ (HBL.out))).trans (HBC3.out),(World.cell?_of_block (hb.block _ (HGV.out))).trans (HE0.out)⟩,hb⟩)
          refine region_normal (S:=fun X=>(X.cell? ⟨g3,1,none⟩=some (.int .u64 (a:Int))∧X.cell? ⟨g3,261,none⟩=some (.int .u64 (b:Int))∧X.cell? ⟨w.heap.size,0,none⟩=some (.slice (some ⟨g,0,none⟩) j cv)∧X.cell? ⟨g,jm * 3,none⟩=some (.int .u64 (lst:Int)))∧Below w3.heap.size w3 X) (by kernel_rfl) (HSS.out _ (Below.refl _ _).drew) (fun hHeld => ?_);have hbe:Below w3.heap.size w3 w3.drew:=(Below.refl _ _).drew;obtain ⟨wd,hwd⟩:∃ y,w3.drew=y:=⟨_,rfl⟩
          rw [hwd] at hHeld hbe ⊢;have HBE:=hid hbe;have HS0:Hid (w3.heap.size≤wd.heap.size):=hid HBE.out.size;clear hwd hbe;refine tkR 0 rfl ?_;refine tkS 1 (.bool false) rfl ?_ ?_
          ·(intro w hSw;simp only [gE1,gE2,gE3];(go_simp;first | done | with_reducible rfl | simp | (simp;omega) | omega))
          refine tkR 2 rfl ?_;refine tkR 3 rfl ?_;refine tkR 4 rfl ?_;refine tkR 5 rfl ?_;refine tkR 6 rfl ?_;refine tkS 7 (.bool false) rfl ?_ ?_
          ·(intro w hSw;simp only [gE1,gE2,gE3];(go_simp;first | done | with_reducible rfl | simp | (simp;omega) | omega))
          refine tkS 8 (.bool false) rfl ?_ ?_
          ·(intro w hSw;simp only [gE1,gE2,gE3];(go_simp;first | done | with_reducible rfl | simp | (simp;omega) | omega))
          refine tkR 9 rfl ?_;refine tkR 10 rfl ?_;refine tkR 11 rfl ?_;refine tkR 12 rfl ?_;refine tkR 13 rfl ?_;refine tkR 14 rfl ?_;refine tkS 15 (.bool true) rfl ?_ ?_
          ·(intro w hSw;simp only [gE1,gE2,gE3];(go_simp;first | done | with_reducible rfl | simp | (simp;omega) | omega))
          refine tkR 16 rfl ?_;refine tkR 17 rfl ?_;refine tkR 21 rfl ?_;refine tkR 30 rfl ?_;refine tkR 18 rfl ?_;refine tkR 22 rfl ?_;refine tkR 31 rfl ?_;refine tkR 19 rfl ?_;refine tkR 23 rfl ?_;refine tkR 32 rfl ?_;refine tkR 20 rfl ?_;refine tkR 24 rfl ?_;refine tkR 33 rfl ?_;refine tkR 25 rfl ?_;refine tkS 26 (.int .i64 (jm:Int)) rfl ?_ ?_
          ·(intro w hSw;simp only [gE1,gE2,gE3];(have hjb:=HJB.out;go_simp;first | done | exact hjb | (trace_state;with_reducible rfl)))
          refine tkR 27 rfl ?_;refine tkR 28 rfl ?_;refine tkR 29 rfl ?_;refine tkS 34 (.bool false) rfl ?_ ?_
          ·(intro w hSw;simp only [gE1,gE2,gE3];(have hqa:decide ((a:Int)≤(lst:Int))=false:=decide_eq_false (by omega);go_simp;first | done | exact hqa | (simp;omega) | (trace_state;omega)))
          refine tkS 35 (.bool false) rfl ?_ ?_
          ·(intro w hSw;simp only [gE1,gE2,gE3];(go_simp;first | done | with_reducible rfl | simp | (simp;omega) | omega))
          refine tkS 36 (.bool false) rfl ?_ ?_
          ·(intro w hSw;simp only [gE1,gE2,gE3];(go_simp;first | done | with_reducible rfl | simp | (simp;omega) | omega))
          refine tkR 37 rfl ?_;refine tkR 38 rfl ?_;refine tkR 39 rfl ?_;refine tkR 40 rfl ?_;refine tkR 41 rfl ?_;refine tkS 42 (.bool false) rfl ?_ ?_
          ·(intro w hSw;simp only [gE1,gE2,gE3];(go_simp;first | done | with_reducible rfl | simp | (simp;omega) | omega))
          refine tkS 43 (.bool false) rfl ?_ ?_
          ·(intro w hSw;simp only [gE1,gE2,gE3];(go_simp;first | done | with_reducible rfl | simp | (simp;omega) | omega))
          refine wpAnyH_done (by kernel_rfl) ⟨rfl,?_⟩ _;have HEND:=hid hHeld.2;have HSE:=hid hHeld.1;clear hHeld;clear HSS;go_wp2_with fail;go_meet;exact ⟨_,rfl,rfl,HBE.out⟩
       case rest =>
        obtain ⟨w5,rfl,rfl,hbc5⟩:=hcut;have HB35:=hid hbc5;clear hbc5;have HR35:=hid (HRR3.out.below HB35.out);have HBX5:Hid (Below w.heap.size w w5):=hid (bthen HB3.out HB35.out);have HK0x:Hid (w5.cell? ⟨g3,1,none⟩=some (.int .u64 (a:Int))):=hid ((World.cell?_of_block (HB35.out.block g3 HG3.out)).trans HK0.out);have HK1x:Hid (w5.cell? ⟨g3,261,none⟩=some (.int .u64 (b:Int))):=hid ((World.cell?_of_block (HB35.out.block g3 HG3.out)).trans HK1.out);have HG5:Hid (g3<w5.heap.size):=hid (Nat.lt_of_lt_of_le HG3.out HB35.out.size)
        have hat2:at_+12≤m:=by have:=H12.out.1;have:=HLR.out;omega
        have hwb:IntKind.i64.wrap (b:Int)=(b:Int):=IntWalk.i64_in _ ⟨by omega,by omega⟩;go_wp2_with fail
        as_aux_lemma =>
         have HSS:Hid (∀ X,Below w5.heap.size w5 X→(X.cell? ⟨g3,1,none⟩=some (.int .u64 (a:Int))∧X.cell? ⟨g3,261,none⟩=some (.int .u64 (b:Int)))∧Below w5.heap.size w5 X):=hid (fun X hb=>⟨⟨(World.cell?_of_block (hb.block _ (HG5.out))).trans (HK0x.out),(World.cell?_of_block (hb.block _ (HG5.out))).trans (HK1x.out)⟩,hb⟩);refine region_normal (S:=fun X=>(X.cell? ⟨g3,1,none⟩=some (.int .u64 (a:Int))∧X.cell? ⟨g3,261,none⟩=some (.int .u64 (b:Int)))∧Below w5.heap.size w5 X) (by kernel_rfl) (HSS.out _ (Below.refl _ _).drew) (fun hHeld => ?_)
         have hbe:Below w5.heap.size w5 w5.drew:=(Below.refl _ _).drew;obtain ⟨wd,hwd⟩:∃ y,w5.drew=y:=⟨_,rfl⟩
         rw [hwd] at hHeld hbe ⊢;have HBE:=hid hbe;have HS0:Hid (w5.heap.size≤wd.heap.size):=hid HBE.out.size;clear hwd hbe;refine tkR 0 rfl ?_;refine tkR 4 rfl ?_;refine tkR 1 rfl ?_;refine tkR 5 rfl ?_;refine tkR 2 rfl ?_;refine tkR 6 rfl ?_;refine tkR 3 rfl ?_;refine tkR 7 rfl ?_;refine tkS 8 (.int .i64 (b:Int)) rfl ?_ ?_
         ·(intro w hSw;simp only [gE1,gE2,gE3];(go_simp;first | done | with_reducible rfl | (trace_state;simp)))
         refine tkR 9 rfl ?_;refine rd1 10 rfl fun K hK => ?_;simp only [gE1,gE2,gE3];go_simp;obtain ⟨b10,y10,hw10,hy10,hx10,HN10⟩:=al wd (.cells #[.int .u64 0,.int .i64 0,.slice none 0 0] 58);rw [hy10,hw10];have HG10:Hid (w5.heap.size≤b10):=hid (by have:=HBE.out.size;omega);clear hy10 hw10;have HBE:=hid (bthen HBE.out hx10);clear hHeld;refine hK.out _ _ (HSS.out _ HBE.out) fun hHeld => ?_;clear hK K;try simp only [Act.put,pE1,pE2,pE3]
         clear hx10;refine rd1 11 rfl fun K hK => ?_;obtain ⟨hc11_0,hf11_0,hc11_1,hf11_1,hc11_2,hf11_2⟩:=bx3 HN10.out;simp only [gE1,gE2,gE3];go_simp;obtain ⟨y11,hy11,hm11,hv11⟩:=st3 HN10.out (.int .u64 (a:Int)) (.int .i64 (b:Int)) (.slice none 0 0);rw [hy11];clear hy11 hc11_0 hf11_0 hc11_1 hf11_1 hc11_2 hf11_2;have HBE:=hid (bM HBE.out hm11 HG10.out);clear hHeld;refine hK.out _ _ (HSS.out _ HBE.out) fun hHeld => ?_;clear hK K;try simp only [Act.put,pE1,pE2,pE3]
         have HN10:=hid hv11;clear hv11 hm11;refine wpAnyH_done (by kernel_rfl) ⟨rfl,?_⟩ _;have HEND:=hid hHeld.2;have HSE:=hid hHeld.1;clear hHeld;clear HSE HSS;have HQ0:=hid HN10.out;have HGQ:=hid HG10.out;obtain ⟨wq,hwq⟩:∃ W,W=y11:=⟨_,rfl⟩
         subst hwq;have HBQ:=hid HEND.out;have HOJ:Hid (ROJ w w5 wq b10 a b c (at_+12) bs (r.drop 12)):=hid ⟨0,.slice none 0 0,[],-1,World.ownsRow_nil _ _ _ _,rfl,Nat.zero_le _,fun x hx=>(by cases hx),.inl ⟨rfl,rfl⟩,by
          have h1:=VInv.start b c (r.drop 12);rw [← HR.out,List.drop_drop] at h1 ⊢;exact h1,HQ0.out,HBQ.out⟩
         go_wp2_with fail;obtain ⟨wo,rfl⟩:∃ wo:World,wo=wr:=⟨_,rfl⟩
         go_loopw [6] (fun i wr=>∃ at2:Nat,i = .int .i64 (at2:Int)∧at_+12≤at2∧at2≤m∧ROJ w w5 wr b10 a b c at2 bs (r.drop 12)) (fun i _=>m - (Go.Proofs.intOf i).toNat)
         case atStart=>exact ⟨at_+12,by go_num,Nat.le_refl _,hat2,HOJ.out⟩
         case round =>
          obtain ⟨at2,rfl,hat3,hat4,kk,mv,mb,lb,hrow,hkl,hkc,h256,hlb,hvi,hbox,hbw2⟩:=hrel;obtain ⟨am,cm,hmv⟩:=row_slice hrow;rw [hkl] at hmv;subst hmv;have HROW:=hid hrow;have HKL:=hid hkl;have H256:=hid h256;have HLBB:=hid hlb;have HVI:=hid hvi;have HBOX:=hid hbox;have HBW2:=hid hbw2;have HBWX:Hid (Below w.heap.size w wr):=hid (bthen HBX5.out hbw2);have HNV:Hid (ofBlks c b (-1) (r.drop 12)=none→ofD bs=none):=hid (fun h=>by
           have h1:ofVol r=none:=by rw [ofVol_eq H12.out.1 HB.out HC.out hpass.2,h];rfl
           rw [HEQ.out,HIN.out.no hlt (.inl h1)]
           rfl)
          have HB3r:Hid (Below w3.heap.size w3 wr):=hid (bthen HB35.out hbw2);have HK1r:Hid (wr.cell? ⟨g3,261,none⟩=some (.int .u64 (b:Int))):=hid ((World.cell?_of_block (HB3r.out.block g3 HG3.out)).trans HK1.out);have HK2r:Hid (wr.cell? ⟨g3,521,none⟩=some (.int .u64 (c:Int))):=hid ((World.cell?_of_block (HB3r.out.block g3 HG3.out)).trans HK2.out);have HG3r:Hid (g3<wr.heap.size):=hid (Nat.lt_of_lt_of_le HG3.out HB3r.out.size);have HBXL:=hid (hLT HBOX.out);have hwk:IntKind.u64.wrap (kk:Int)=(kk:Int):=by rw [IntKind.wrap_u64];omega
          have HHD:Hid ((r.drop 12).length≤20000):=hid (by rw [List.length_drop];have:=HLR.out;omega);clear hrow hkl h256 hlb hvi hbox hbw2
          by_cases hltk:kk<c
          ·go_wp2_with fail
           as_aux_lemma =>
            have HSS:Hid (∀ X,Below wr.heap.size wr X→(X.cell? ⟨b10,2,none⟩=some (.slice am kk cm)∧X.cell? ⟨g3,521,none⟩=some (.int .u64 (c:Int)))∧Below wr.heap.size wr X):=hid (fun X hb=>⟨⟨(World.cell?_of_block (hb.block _ (HBXL.out))).trans (cellOf HBOX.out 2 rfl),(World.cell?_of_block (hb.block _ (HG3r.out))).trans (HK2r.out)⟩,hb⟩);refine region_normal (S:=fun X=>(X.cell? ⟨b10,2,none⟩=some (.slice am kk cm)∧X.cell? ⟨g3,521,none⟩=some (.int .u64 (c:Int)))∧Below wr.heap.size wr X) (by kernel_rfl) (HSS.out _ (Below.refl _ _).drew) (fun hHeld => ?_)
            have hbe:Below wr.heap.size wr wr.drew:=(Below.refl _ _).drew;obtain ⟨wd,hwd⟩:∃ y,wr.drew=y:=⟨_,rfl⟩
            rw [hwd] at hHeld hbe ⊢;have HBE:=hid hbe;have HS0:Hid (wr.heap.size≤wd.heap.size):=hid HBE.out.size;clear hwd hbe;refine tkR 0 rfl ?_;refine tkR 4 rfl ?_;refine tkR 1 rfl ?_;refine tkR 5 rfl ?_;refine tkR 2 rfl ?_;refine tkR 6 rfl ?_;refine tkS 3 (.int .u64 (kk:Int)) rfl ?_ ?_
            ·(intro w hSw;simp only [gE1,gE2,gE3];(go_simp;first | done | exact hwk | (simp;omega) | omega))
            refine tkR 7 rfl ?_;refine tkS 8 (.bool true) rfl ?_ ?_
            ·(intro w hSw;simp only [gE1,gE2,gE3];(go_simp;first | done | with_reducible rfl | (simp;omega) | omega))
            refine wpAnyH_done (by kernel_rfl) ⟨rfl,?_⟩ _;have HEND:=hid hHeld.2;have HSE:=hid hHeld.1;clear hHeld;clear HSE HSS;obtain ⟨w6,hw6⟩:∃ W,W=wd:=⟨_,rfl⟩
            subst hw6;have HB6:=hid HBE.out;have HBX6:Hid (Below w.heap.size w w6):=hid (bthen HBWX.out HB6.out);clear HBE HEND;have hcut:=fun W=>run_cutT (P:=Tryz.prog) W 33 ao m cap 1 undB8 szB8 (at2:Int) (by omega) (by omega);simp only [Int.toNat_natCast] at hcut;have CU:=runx (HRD.out.mid (l:=at2) (k:=m) hat4 (Nat.le_refl _)) HBX6.out (by omega);go_wp2_with fail;refine CU.mono ?_;rintro e w7 ⟨hb7,hu7⟩;rw [List.take_of_length_le (by rw [List.length_drop,HLB.out];exact Nat.le_refl _)] at hu7;obtain ⟨r2,hr2⟩:∃ x,bs.drop at2=x:=⟨_,rfl⟩
            have HR2x:=hid hr2;rw [hr2] at hu7;have HVI2:=hid HVI.out;rw [hr2] at HVI2;have HLR2:Hid (r2.length=m - at2):=hid (by rw [← hr2,List.length_drop,HLB.out]);have HB7:Hid (Below wr.heap.size wr w7):=hid (bthen HB6.out hb7);have HBX7:Hid (Below w.heap.size w w7):=hid (bthen HBWX.out HB7.out);clear CU hb7 hr2 hcut
            rcases hu7 with ⟨ho,rfl⟩ | ⟨g7,c7,l7,ho,hc7,rfl,ht7,hx7⟩
            ·have HNO:Hid (ofD bs=none):=hid (HNV.out (HVI2.out.no hltk (.inl (by
              split at ho
              ·assumption
              ·cases ho))))
             clear ho;go_wp2_with fail
             as_aux_lemma =>
              have HSS:Hid (∀ X,Below w7.heap.size w7 X→(True)∧Below w7.heap.size w7 X):=hid (fun X hb=>⟨trivial,hb⟩);refine region_normal (S:=fun X=>(True)∧Below w7.heap.size w7 X) (by kernel_rfl) (HSS.out _ (Below.refl _ _).drew) (fun hHeld => ?_);have hbe:Below w7.heap.size w7 w7.drew:=(Below.refl _ _).drew;obtain ⟨wd,hwd⟩:∃ y,w7.drew=y:=⟨_,rfl⟩
              rw [hwd] at hHeld hbe ⊢;have HBE:=hid hbe;have HS0:Hid (w7.heap.size≤wd.heap.size):=hid HBE.out.size;clear hwd hbe;refine tkR 0 rfl ?_;refine tkS 1 (.bool true) rfl ?_ ?_
              ·(intro w hSw;simp only [gE1,gE2,gE3];(go_simp;first | done | with_reducible rfl | simp))
              refine tkR 2 rfl ?_;refine tkV 3 rfl ?_;refine tkV 7 rfl ?_;refine tkV 4 rfl ?_;refine tkV 8 rfl ?_;refine tkV 5 rfl ?_;refine tkV 9 rfl ?_;refine tkV 6 rfl ?_;refine tkV 10 rfl ?_;refine tkV 11 rfl ?_;refine tkS 12 (.bool true) rfl ?_ ?_
              ·(intro w hSw;simp only [gE1,gE2,gE3];(go_simp;first | done | with_reducible rfl | simp))
              refine tkR 13 rfl ?_;refine tkV 14 rfl ?_;refine tkV 15 rfl ?_;refine tkV 16 rfl ?_;refine tkV 17 rfl ?_;refine tkV 18 rfl ?_;refine tkV 19 rfl ?_;refine tkV 21 rfl ?_;refine tkV 28 rfl ?_;refine tkV 20 rfl ?_;refine tkV 22 rfl ?_;refine tkV 29 rfl ?_;refine tkV 23 rfl ?_;refine tkV 30 rfl ?_;refine tkV 24 rfl ?_;refine tkV 31 rfl ?_;refine tkV 25 rfl ?_;refine tkV 32 rfl ?_;refine tkV 26 rfl ?_;refine tkV 27 rfl ?_;refine tkV 33 rfl ?_;refine tkV 34 rfl ?_;refine tkS 35 (.bool true) rfl ?_ ?_
              ·(intro w hSw;simp only [gE1,gE2,gE3];(go_simp;first | done | with_reducible rfl | simp))
              refine wpAnyH_done (by kernel_rfl) ⟨rfl,?_⟩ _;have HEND:=hid hHeld.2;have HSE:=hid hHeld.1;clear hHeld;clear HSE HSS;have HE8:=hid (bthen HBX7.out HBE.out);go_wp2_with fail
              go_ret2
              exact ⟨HE8.out,.inl ⟨HNO.out,_,rfl⟩⟩
            ·obtain ⟨y,hy⟩:∃ x,sum (r2.take 4)=x:=⟨_,rfl⟩
             obtain ⟨XB,hX⟩:∃ x,(r2.drop 4).take 256=x:=⟨_,rfl⟩
             have H260:Hid (260≤r2.length∧l7=[num y,blk XB]):=hid (by
              split at ho
              ·cases ho
              ·rename_i h
               rw [hy,hX] at ho;exact ⟨by omega,(Option.some.inj ho).symm⟩)
             have hyl:y<4294967296:=by rw [← hy];exact sum4_lt _
             have HY:=hid hy;have HX:=hid hX;have HXL:Hid (XB.length=256):=hid (by rw [← hX,List.length_take,List.length_drop];have:=H260.out.1;omega);have HY7:Hid (w7.cell? ⟨g7,1,none⟩=some (.int .u64 (y:Int))):=hid (hx7 0 (num y) (by rw [H260.out.2];rfl)).1;have HX7:Hid (w7.rangeAt g7 264 (bV XB)):=hid (hx7 1 (blk XB) (by rw [H260.out.2];rfl)).2;have HT7:=hid ht7;have HG7:Hid (g7<w7.heap.size):=hid (by obtain ⟨cur,h⟩:=ht7;exact (hLT h))
             have HK17:Hid (w7.cell? ⟨g3,261,none⟩=some (.int .u64 (b:Int))):=hid ((World.cell?_of_block (HB7.out.block g3 HG3r.out)).trans HK1r.out);have HG37:Hid (g3<w7.heap.size):=hid (Nat.lt_of_lt_of_le HG3r.out HB7.out.size);have HBOX7:=hid ((HB7.out.block b10 HBXL.out).trans HBOX.out);have HBXL7:=hid (hLT HBOX7.out);have HRW7:Hid (w7.ownsRow w5.heap.size 107 257 (.slice am kk cm) mb.length (rblkC mb)):=hid (ownsRow_below HROW.out HB7.out);have hat5:at2+260≤m:=by have:=H260.out.1;have:=HLR2.out;omega
             clear ho hy hX hx7 ht7
             by_cases hby:b≤y
             ·have HNO:Hid (ofD bs=none):=hid (HNV.out (HVI2.out.no hltk (.inr (.inr (by rw [HY.out];exact hby)))))
              go_wp2_with fail
              as_aux_lemma =>
               have HSS:Hid (∀ X,Below w7.heap.size w7 X→(X.cell? ⟨g7,1,none⟩=some (.int .u64 (y:Int))∧X.cell? ⟨g3,261,none⟩=some (.int .u64 (b:Int)))∧Below w7.heap.size w7 X):=hid (fun X hb=>⟨⟨(World.cell?_of_block (hb.block _ (HG7.out))).trans (HY7.out),(World.cell?_of_block (hb.block _ (HG37.out))).trans (HK17.out)⟩,hb⟩);refine region_normal (S:=fun X=>(X.cell? ⟨g7,1,none⟩=some (.int .u64 (y:Int))∧X.cell? ⟨g3,261,none⟩=some (.int .u64 (b:Int)))∧Below w7.heap.size w7 X) (by kernel_rfl) (HSS.out _ (Below.refl _ _).drew) (fun hHeld => ?_)
               have hbe:Below w7.heap.size w7 w7.drew:=(Below.refl _ _).drew;obtain ⟨wd,hwd⟩:∃ y,w7.drew=y:=⟨_,rfl⟩
               rw [hwd] at hHeld hbe ⊢;have HBE:=hid hbe;have HS0:Hid (w7.heap.size≤wd.heap.size):=hid HBE.out.size;clear hwd hbe;refine tkR 0 rfl ?_;refine tkS 1 (.bool false) rfl ?_ ?_
               ·(intro w hSw;simp only [gE1,gE2,gE3];(go_simp;first | done | with_reducible rfl | simp))
               refine tkR 2 rfl ?_;refine tkR 3 rfl ?_;refine tkR 7 rfl ?_;refine tkR 4 rfl ?_;refine tkR 8 rfl ?_;refine tkR 5 rfl ?_;refine tkR 9 rfl ?_;refine tkR 6 rfl ?_;refine tkR 10 rfl ?_;refine tkS 11 (.bool true) rfl ?_ ?_
               ·(intro w hSw;simp only [gE1,gE2,gE3];(go_simp;first | done | with_reducible rfl | (simp;omega) | omega))
               refine tkS 12 (.bool true) rfl ?_ ?_
               ·(intro w hSw;simp only [gE1,gE2,gE3];(go_simp;first | done | with_reducible rfl | simp))
               refine tkR 13 rfl ?_;refine tkV 14 rfl ?_;refine tkV 15 rfl ?_;refine tkV 16 rfl ?_;refine tkV 17 rfl ?_;refine tkV 18 rfl ?_;refine tkV 19 rfl ?_;refine tkV 21 rfl ?_;refine tkV 28 rfl ?_;refine tkV 20 rfl ?_;refine tkV 22 rfl ?_;refine tkV 29 rfl ?_;refine tkV 23 rfl ?_;refine tkV 30 rfl ?_;refine tkV 24 rfl ?_;refine tkV 31 rfl ?_;refine tkV 25 rfl ?_;refine tkV 32 rfl ?_;refine tkV 26 rfl ?_;refine tkV 27 rfl ?_;refine tkV 33 rfl ?_;refine tkV 34 rfl ?_;refine tkS 35 (.bool true) rfl ?_ ?_
               ·(intro w hSw;simp only [gE1,gE2,gE3];(go_simp;first | done | with_reducible rfl | simp))
               refine wpAnyH_done (by kernel_rfl) ⟨rfl,?_⟩ _;have HEND:=hid hHeld.2;have HSE:=hid hHeld.1;clear hHeld;clear HSE HSS;have HE8:=hid (bthen HBX7.out HBE.out);go_wp2_with fail
               go_ret2
               exact ⟨HE8.out,.inl ⟨HNO.out,_,rfl⟩⟩
             ·by_cases hly:(y:Int)≤lb
              ·have HNO:Hid (ofD bs=none):=hid (HNV.out (HVI2.out.no hltk (.inr (.inl (by rw [HY.out];exact hly)))))
               obtain ⟨km,hkm,gm,hvm,HE0,HGM,HKMW⟩:∃ km,km<kk∧∃ gm,am=some ⟨gm,0,none⟩∧Hid (w7.cell? ⟨gm,km * 257,none⟩=some (.int .i64 lb))∧Hid (gm<w7.heap.size)∧Hid (IntKind.i64.wrap ((kk:Int) - 1)=(km:Int)):=last_blk HLBB.out HRW7.out H256.out HKL.out hly (by omega);subst hvm;go_wp2_with fail
               as_aux_lemma =>
                have HSS:Hid (∀ X,Below w7.heap.size w7 X→(X.cell? ⟨g7,1,none⟩=some (.int .u64 (y:Int))∧X.cell? ⟨g3,261,none⟩=some (.int .u64 (b:Int))∧X.cell? ⟨b10,2,none⟩=some (.slice (some ⟨gm,0,none⟩) kk cm)∧X.cell? ⟨gm,km * 257,none⟩=some (.int .i64 lb))∧Below w7.heap.size w7 X):=hid (fun X hb=>⟨⟨(World.cell?_of_block (hb.block _ (HG7.out))).trans (HY7.out),(World.cell?_of_block (hb.block _ (HG37.out))).trans (HK17.out),(World.cell?_of_block (hb.block _ (HBXL7.out))).trans (cellOf HBOX7.out 2 rfl),(World.cell?_of_block (hb.block _ (HGM.out))).trans (HE0.out)⟩,hb⟩)
                refine region_normal (S:=fun X=>(X.cell? ⟨g7,1,none⟩=some (.int .u64 (y:Int))∧X.cell? ⟨g3,261,none⟩=some (.int .u64 (b:Int))∧X.cell? ⟨b10,2,none⟩=some (.slice (some ⟨gm,0,none⟩) kk cm)∧X.cell? ⟨gm,km * 257,none⟩=some (.int .i64 lb))∧Below w7.heap.size w7 X) (by kernel_rfl) (HSS.out _ (Below.refl _ _).drew) (fun hHeld => ?_);have hbe:Below w7.heap.size w7 w7.drew:=(Below.refl _ _).drew;obtain ⟨wd,hwd⟩:∃ y,w7.drew=y:=⟨_,rfl⟩
                rw [hwd] at hHeld hbe ⊢;have HBE:=hid hbe;have HS0:Hid (w7.heap.size≤wd.heap.size):=hid HBE.out.size;clear hwd hbe;refine tkR 0 rfl ?_;refine tkS 1 (.bool false) rfl ?_ ?_
                ·(intro w hSw;simp only [gE1,gE2,gE3];(go_simp;first | done | with_reducible rfl | simp))
                refine tkR 2 rfl ?_;refine tkR 3 rfl ?_;refine tkR 7 rfl ?_;refine tkR 4 rfl ?_;refine tkR 8 rfl ?_;refine tkR 5 rfl ?_;refine tkR 9 rfl ?_;refine tkR 6 rfl ?_;refine tkR 10 rfl ?_;refine tkS 11 (.bool false) rfl ?_ ?_
                ·(intro w hSw;simp only [gE1,gE2,gE3];(go_simp;first | done | with_reducible rfl | (simp;omega) | omega))
                refine tkS 12 (.bool false) rfl ?_ ?_
                ·(intro w hSw;simp only [gE1,gE2,gE3];(go_simp;first | done | with_reducible rfl | simp))
                refine tkR 13 rfl ?_;refine tkR 14 rfl ?_;refine tkR 15 rfl ?_;refine tkR 16 rfl ?_;refine tkS 17 (.bool true) rfl ?_ ?_
                ·(intro w hSw;simp only [gE1,gE2,gE3];(go_simp;first | done | with_reducible rfl | (simp;omega) | omega))
                refine tkR 18 rfl ?_;refine tkR 19 rfl ?_;refine tkR 21 rfl ?_;refine tkR 28 rfl ?_;refine tkR 20 rfl ?_;refine tkR 22 rfl ?_;refine tkR 29 rfl ?_;refine tkR 23 rfl ?_;refine tkR 30 rfl ?_;refine tkS 24 (.int .i64 (km:Int)) rfl ?_ ?_
                ·(intro w hSw;simp only [gE1,gE2,gE3];(have hjb:=HKMW.out;go_simp;first | done | exact hjb | (trace_state;with_reducible rfl)))
                refine tkR 31 rfl ?_;refine tkR 25 rfl ?_;refine tkS 32 (.int .i64 (y:Int)) rfl ?_ ?_
                ·(intro w hSw;simp only [gE1,gE2,gE3];(have hjb:IntKind.i64.wrap (y:Int)=(y:Int):=IntWalk.i64_in _ ⟨by omega,by omega⟩;go_simp;first | done | exact hjb | (trace_state;with_reducible rfl)))
                refine tkR 26 rfl ?_;refine tkR 27 rfl ?_;refine tkS 33 (.bool true) rfl ?_ ?_
                ·(intro w hSw;simp only [gE1,gE2,gE3];(have hqa:decide ((y:Int)≤lb)=true:=decide_eq_true hly;go_simp;first | done | exact hqa | (simp;omega) | (trace_state;omega)))
                refine tkS 34 (.bool true) rfl ?_ ?_
                ·(intro w hSw;simp only [gE1,gE2,gE3];(go_simp;first | done | with_reducible rfl | simp))
                refine tkS 35 (.bool true) rfl ?_ ?_
                ·(intro w hSw;simp only [gE1,gE2,gE3];(go_simp;first | done | with_reducible rfl | simp))
                refine wpAnyH_done (by kernel_rfl) ⟨rfl,?_⟩ _;have HEND:=hid hHeld.2;have HSE:=hid hHeld.1;clear hHeld;clear HSE HSS;have HE8:=hid (bthen HBX7.out HBE.out);go_wp2_with fail
                go_ret2
                exact ⟨HE8.out,.inl ⟨HNO.out,_,rfl⟩⟩
              ·have HPS:Hid (¬ (r2.length<260∨(sum (r2.take 4):Int)≤lb∨b≤sum (r2.take 4))):=hid (by rw [HY.out];have:=H260.out.1;omega)
               go_upto_region 14 with fail
               go_cut [155] (fun cc wx=>∃ W,W=wx∧cc = .bool false∧Below w7.heap.size w7 W)
               case first =>
                rcases Nat.eq_zero_or_pos kk with hk0 | hk0
                ·subst hk0
                 as_aux_lemma =>
                  have HSS:Hid (∀ X,Below w7.heap.size w7 X→(X.cell? ⟨g7,1,none⟩=some (.int .u64 (y:Int))∧X.cell? ⟨g3,261,none⟩=some (.int .u64 (b:Int))∧X.cell? ⟨b10,2,none⟩=some (.slice am 0 cm))∧Below w7.heap.size w7 X):=hid (fun X hb=>⟨⟨(World.cell?_of_block (hb.block _ (HG7.out))).trans (HY7.out),(World.cell?_of_block (hb.block _ (HG37.out))).trans (HK17.out),(World.cell?_of_block (hb.block _ (HBXL7.out))).trans (cellOf HBOX7.out 2 rfl)⟩,hb⟩)
                  refine region_normal (S:=fun X=>(X.cell? ⟨g7,1,none⟩=some (.int .u64 (y:Int))∧X.cell? ⟨g3,261,none⟩=some (.int .u64 (b:Int))∧X.cell? ⟨b10,2,none⟩=some (.slice am 0 cm))∧Below w7.heap.size w7 X) (by kernel_rfl) (HSS.out _ (Below.refl _ _).drew) (fun hHeld => ?_);have hbe:Below w7.heap.size w7 w7.drew:=(Below.refl _ _).drew;obtain ⟨wd,hwd⟩:∃ y,w7.drew=y:=⟨_,rfl⟩
                  rw [hwd] at hHeld hbe ⊢;have HBE:=hid hbe;have HS0:Hid (w7.heap.size≤wd.heap.size):=hid HBE.out.size;clear hwd hbe;refine tkR 0 rfl ?_;refine tkS 1 (.bool false) rfl ?_ ?_
                  ·(intro w hSw;simp only [gE1,gE2,gE3];(go_simp;first | done | with_reducible rfl | simp))
                  refine tkR 2 rfl ?_;refine tkR 3 rfl ?_;refine tkR 7 rfl ?_;refine tkR 4 rfl ?_;refine tkR 8 rfl ?_;refine tkR 5 rfl ?_;refine tkR 9 rfl ?_;refine tkR 6 rfl ?_;refine tkR 10 rfl ?_;refine tkS 11 (.bool false) rfl ?_ ?_
                  ·(intro w hSw;simp only [gE1,gE2,gE3];(go_simp;first | done | with_reducible rfl | (simp;omega) | omega))
                  refine tkS 12 (.bool false) rfl ?_ ?_
                  ·(intro w hSw;simp only [gE1,gE2,gE3];(go_simp;first | done | with_reducible rfl | simp))
                  refine tkR 13 rfl ?_;refine tkR 14 rfl ?_;refine tkR 15 rfl ?_;refine tkR 16 rfl ?_;refine tkS 17 (.bool false) rfl ?_ ?_
                  ·(intro w hSw;simp only [gE1,gE2,gE3];(go_simp;first | done | with_reducible rfl | (simp;omega) | omega))
                  refine tkR 18 rfl ?_;refine tkV 19 rfl ?_;refine tkV 21 rfl ?_;refine tkV 28 rfl ?_;refine tkV 20 rfl ?_;refine tkV 22 rfl ?_;refine tkV 29 rfl ?_;refine tkV 23 rfl ?_;refine tkV 30 rfl ?_;refine tkV 24 rfl ?_;refine tkV 31 rfl ?_;refine tkV 25 rfl ?_;refine tkV 32 rfl ?_;refine tkV 26 rfl ?_;refine tkV 27 rfl ?_;refine tkV 33 rfl ?_;refine tkS 34 (.bool false) rfl ?_ ?_
                  ·(intro w hSw;simp only [gE1,gE2,gE3];(go_simp;first | done | with_reducible rfl | simp))
                  refine tkS 35 (.bool false) rfl ?_ ?_
                  ·(intro w hSw;simp only [gE1,gE2,gE3];(go_simp;first | done | with_reducible rfl | simp))
                  refine wpAnyH_done (by kernel_rfl) ⟨rfl,?_⟩ _;have HEND:=hid hHeld.2;have HSE:=hid hHeld.1;clear hHeld;clear HSS;go_wp2_with fail;go_meet;exact ⟨_,rfl,rfl,HBE.out⟩
                ·obtain ⟨km,hkm,gm,hvm,HE0,HGM,HKMW⟩:∃ km,km<kk∧∃ gm,am=some ⟨gm,0,none⟩∧Hid (w7.cell? ⟨gm,km * 257,none⟩=some (.int .i64 lb))∧Hid (gm<w7.heap.size)∧Hid (IntKind.i64.wrap ((kk:Int) - 1)=(km:Int)):=last_blk2 HLBB.out HRW7.out H256.out HKL.out hk0 (by omega)
                 subst hvm
                 as_aux_lemma =>
                  have HSS:Hid (∀ X,Below w7.heap.size w7 X→(X.cell? ⟨g7,1,none⟩=some (.int .u64 (y:Int))∧X.cell? ⟨g3,261,none⟩=some (.int .u64 (b:Int))∧X.cell? ⟨b10,2,none⟩=some (.slice (some ⟨gm,0,none⟩) kk cm)∧X.cell? ⟨gm,km * 257,none⟩=some (.int .i64 lb))∧Below w7.heap.size w7 X):=hid (fun X hb=>⟨⟨(World.cell?_of_block (hb.block _ (HG7.out))).trans (HY7.out),(World.cell?_of_block (hb.block _ (HG37.out))).trans (HK17.out),(World.cell?_of_block (hb.block _ (HBXL7.out))).trans (cellOf HBOX7.out 2 rfl),(World.cell?_of_block (hb.block _ (HGM.out))).trans (HE0.out)⟩,hb⟩)
                  refine region_normal (S:=fun X=>(X.cell? ⟨g7,1,none⟩=some (.int .u64 (y:Int))∧X.cell? ⟨g3,261,none⟩=some (.int .u64 (b:Int))∧X.cell? ⟨b10,2,none⟩=some (.slice (some ⟨gm,0,none⟩) kk cm)∧X.cell? ⟨gm,km * 257,none⟩=some (.int .i64 lb))∧Below w7.heap.size w7 X) (by kernel_rfl) (HSS.out _ (Below.refl _ _).drew) (fun hHeld => ?_);have hbe:Below w7.heap.size w7 w7.drew:=(Below.refl _ _).drew;obtain ⟨wd,hwd⟩:∃ y,w7.drew=y:=⟨_,rfl⟩
                  rw [hwd] at hHeld hbe ⊢;have HBE:=hid hbe;have HS0:Hid (w7.heap.size≤wd.heap.size):=hid HBE.out.size;clear hwd hbe;refine tkR 0 rfl ?_;refine tkS 1 (.bool false) rfl ?_ ?_
                  ·(intro w hSw;simp only [gE1,gE2,gE3];(go_simp;first | done | with_reducible rfl | simp))
                  refine tkR 2 rfl ?_;refine tkR 3 rfl ?_;refine tkR 7 rfl ?_;refine tkR 4 rfl ?_;refine tkR 8 rfl ?_;refine tkR 5 rfl ?_;refine tkR 9 rfl ?_;refine tkR 6 rfl ?_;refine tkR 10 rfl ?_;refine tkS 11 (.bool false) rfl ?_ ?_
                  ·(intro w hSw;simp only [gE1,gE2,gE3];(go_simp;first | done | with_reducible rfl | (simp;omega) | omega))
                  refine tkS 12 (.bool false) rfl ?_ ?_
                  ·(intro w hSw;simp only [gE1,gE2,gE3];(go_simp;first | done | with_reducible rfl | simp))
                  refine tkR 13 rfl ?_;refine tkR 14 rfl ?_;refine tkR 15 rfl ?_;refine tkR 16 rfl ?_;refine tkS 17 (.bool true) rfl ?_ ?_
                  ·(intro w hSw;simp only [gE1,gE2,gE3];(go_simp;first | done | with_reducible rfl | (simp;omega) | omega))
                  refine tkR 18 rfl ?_;refine tkR 19 rfl ?_;refine tkR 21 rfl ?_;refine tkR 28 rfl ?_;refine tkR 20 rfl ?_;refine tkR 22 rfl ?_;refine tkR 29 rfl ?_;refine tkR 23 rfl ?_;refine tkR 30 rfl ?_;refine tkS 24 (.int .i64 (km:Int)) rfl ?_ ?_
                  ·(intro w hSw;simp only [gE1,gE2,gE3];(have hjb:=HKMW.out;go_simp;first | done | exact hjb | (trace_state;with_reducible rfl)))
                  refine tkR 31 rfl ?_;refine tkR 25 rfl ?_;refine tkS 32 (.int .i64 (y:Int)) rfl ?_ ?_
                  ·(intro w hSw;simp only [gE1,gE2,gE3];(have hjb:IntKind.i64.wrap (y:Int)=(y:Int):=IntWalk.i64_in _ ⟨by omega,by omega⟩;go_simp;first | done | exact hjb | (trace_state;with_reducible rfl)))
                  refine tkR 26 rfl ?_;refine tkR 27 rfl ?_;refine tkS 33 (.bool false) rfl ?_ ?_
                  ·(intro w hSw;simp only [gE1,gE2,gE3];(have hqa:decide ((y:Int)≤lb)=false:=decide_eq_false (by omega);go_simp;first | done | exact hqa | (simp;omega) | (trace_state;omega)))
                  refine tkS 34 (.bool false) rfl ?_ ?_
                  ·(intro w hSw;simp only [gE1,gE2,gE3];(go_simp;first | done | with_reducible rfl | simp))
                  refine tkS 35 (.bool false) rfl ?_ ?_
                  ·(intro w hSw;simp only [gE1,gE2,gE3];(go_simp;first | done | with_reducible rfl | simp))
                  refine wpAnyH_done (by kernel_rfl) ⟨rfl,?_⟩ _;have HEND:=hid hHeld.2;have HSE:=hid hHeld.1;clear hHeld;clear HSS;go_wp2_with fail;go_meet;exact ⟨_,rfl,rfl,HBE.out⟩
               case rest =>
                obtain ⟨w8,rfl,rfl,hbc8⟩:=hcut;have HB78:=hid hbc8;clear hbc8;have HB8:Hid (Below wr.heap.size wr w8):=hid (bthen HB7.out HB78.out);have HY8:Hid (w8.cell? ⟨g7,1,none⟩=some (.int .u64 (y:Int))):=hid ((World.cell?_of_block (HB78.out.block g7 HG7.out)).trans HY7.out);have HX8:Hid (w8.rangeAt g7 264 (bV XB)):=hid (rangeStays HX7.out HG7.out HB78.out);have HG8:Hid (g7<w8.heap.size):=hid (Nat.lt_of_lt_of_le HG7.out HB78.out.size);have HBOX8:=hid ((HB78.out.block b10 HBXL7.out).trans HBOX7.out);have HBXL8:=hid (hLT HBOX8.out)
                have HRW8:Hid (w8.ownsRow w5.heap.size 107 257 (.slice am kk cm) kk (rblkC mb)):=hid (by have h1:=ownsRow_below HRW7.out HB78.out;rw [HKL.out] at h1;exact h1);have HWL:Hid (w5.heap.size≤w8.heap.size):=hid (Nat.le_trans HBW2.out.size HB8.out.size);have HNG:Hid (g7∉(b10 :: ob (.slice am kk cm))):=hid (by
                 obtain ⟨cur,h⟩:=HT7.out;have h8:=(HB78.out.block g7 HG7.out).trans h;intro hh
                 rcases List.mem_cons.1 hh with e | hh
                 ·rw [e,HBOX8.out] at h8;exact absurd (Obj.cells.inj (Option.some.inj h8)).2.1 (by decide)
                 ·exact ob_tag HRW8.out h8 (by decide) hh)
                have hwat:IntKind.i64.wrap ((at2:Int)+260)=((at2+260:Nat):Int):=by rw [IntWalk.i64_in _ ⟨by omega,by omega⟩];omega
                have hwy:IntKind.i64.wrap (y:Int)=(y:Int):=IntWalk.i64_in _ ⟨by omega,by omega⟩;have HQB:Hid (w5.heap.size≤b10):=HG10;go_wp2_with fail
                as_aux_lemma =>
                 have HSS:Hid (∀ X,Mods (b10 :: ob (.slice am kk cm)) w8 X→(X.cell? ⟨g7,1,none⟩=some (.int .u64 (y:Int))∧X.rangeAt g7 264 (bV XB))∧Mods (b10 :: ob (.slice am kk cm)) w8 X):=hid (fun X hb=>⟨⟨(World.cell?_of_block (hb.block _ (HG8.out) (HNG.out))).trans (HY8.out),(fun j u hj=>(World.cell?_of_block (a:=⟨g7,264+j,none⟩) (hb.block g7 HG8.out HNG.out)).trans (HX8.out j u hj))⟩,hb⟩)
                 refine region_normal (S:=fun X=>(X.cell? ⟨g7,1,none⟩=some (.int .u64 (y:Int))∧X.rangeAt g7 264 (bV XB))∧Mods (b10 :: ob (.slice am kk cm)) w8 X) (by kernel_rfl) (HSS.out _ (Mods.of_below (Below.refl _ _).drew)) (fun hHeld => ?_);have hbe:Below w8.heap.size w8 w8.drew:=(Below.refl _ _).drew;obtain ⟨wd,hwd⟩:∃ y,w8.drew=y:=⟨_,rfl⟩
                 rw [hwd] at hHeld hbe ⊢;have HBE:=hid hbe;have HS0:Hid (w8.heap.size≤wd.heap.size):=hid HBE.out.size;clear hwd hbe;refine tkR 0 rfl ?_;refine tkR 2 rfl ?_;refine tkR 7 rfl ?_;refine tkR 3 rfl ?_;refine tkR 8 rfl ?_;refine tkR 4 rfl ?_;refine tkR 9 rfl ?_;refine tkR 5 rfl ?_;refine wpAnyH_take (i:=10) (v:=_) rfl (by kernel_rfl) (by kernel_rfl) (by kernel_rfl) (fun _ _ _ h=>(by cases h.1)) (yieldsIf_load_mid (by rfl) 50 _ rfl (g7) (264) rfl (bV XB) _ (fun w hSw=>hSw.1.2) (Tryz.underlying50) rfl (infoB HXL.out)) (by assumption) ?_
                 simp only [gE1,gE2,gE3,Act.put,pE1,pE2,pE3];refine tkS 6 (.int .i64 (y:Int)) rfl ?_ ?_
                 ·(intro w hSw;simp only [gE1,gE2,gE3];(go_simp;first | done | exact hwy | (trace_state;simp)))
                 refine tkS 11 (.agg (rbC (y,XB)).toArray) rfl ?_ ?_
                 ·(intro w hSw;simp only [gE1,gE2,gE3];(have hl:(bV XB).length=256:=(by rw [bV_len,HXL.out]);have hz:=rb_arr y XB HXL.out;go_simp))
                 refine rd2 1 12 rfl rfl (fun K hK => ?_) fun K hK => ?_
                 ·skip
                  have hrd:=(show wd.cell? ⟨b10,2,none⟩=some (.slice am kk cm) from (HBE.out.cell (p:=⟨b10,2,none⟩) HBXL8.out).trans (cellOf HBOX8.out 2 rfl))
                  simp only [gE1,gE2,gE3];go_simp;clear hrd;refine hK.out _ _ ?_ (fun hHeld => ?_)
                  ·exact (by first | exact HSS.out _ (Mods.of_below HBE.out) | exact HSS.out _ HMD.out)
                  clear hK K;try simp only [Act.put,pE1,pE2,pE3]
                  refine rd1 12 rfl fun K hK => ?_;simp only [gE1,gE2,gE3];rw [if_pos (by rfl)];refine wp_build1' _ 56 107 257 _ (rbC (y,XB)) rfl rfl Tryz.underlying56 infoR3 zaggR (rbC_len HXL.out) (by omega) (by omega) ?_;intro W12 hW12;refine hK.out _ _ ?_ (fun hHeld => ?_)
                  ·exact HSS.out _ (Mods.of_below (bthen HBE.out (by rw [hW12];exact balloc (Below.refl _ _) _)))
                  clear hK K;try simp only [Act.put,pE1,pE2,pE3]
                  obtain ⟨b12,hb12⟩:∃ b,wd.heap.size=b:=⟨_,rfl⟩
                  have HN12:Hid (W12.heap[b12]? = some (.cells (rbC (y,XB)).toArray 107 (0,0))):=hid (by rw [hW12,← hb12];exact heap_alloc_new _ _);have HBE:=hid (bthen HBE.out (show Below wd.heap.size wd W12 by rw [hW12];exact balloc (Below.refl _ _) _));rw [hb12];clear hb12 hW12;refine rd1 13 rfl fun K hK => ?_;simp only [gE1,gE2,gE3];rw [if_pos (by rfl)]
                  refine wp_apps _ _ 56 rfl w5.heap.size 107 _ 257 264 Tryz.underlying56 infoR4 zaggR (by decide) (by decide) (.slice am kk cm) kk _ (by rfl) (ownsRow_below HRW8.out HBE.out) _ 1 _ (by rfl) (rd_cells HN12.out (by rw [List.size_toArray,rbC_len HXL.out]) (by omega)) (rbC_one (y,XB)) (by omega) (Nat.le_trans HWL.out HBE.out.size) ?_;intro v13 w13 ho13 hb13 hg13 hs13 hn13;refine hK.out _ _ ?_ (fun hHeld => ?_)
                  ·exact HSS.out _ ((Mods.of_below HBE.out).trans (Chg.of_grown hg13 hs13).1 (fun i hi=>.inl (List.mem_cons_of_mem _ hi)))
                  clear hK K;try simp only [Act.put,pE1,pE2,pE3]
                  have HM13:Hid (Mods (ob (.slice am kk cm)) w8 w13):=hid ((Mods.of_below HBE.out).trans (Chg.of_grown hg13 hs13).1 (fun i hi=>.inl hi));have HB13:Hid (Below w5.heap.size w8 w13):=hid ((HBE.out.mono HWL.out).trans hb13);obtain ⟨a13,c13,hv13⟩:=row_slice ho13;subst hv13;have HO13:=hid ho13;clear ho13 hb13 hg13 hs13 hn13;refine tkR 14 rfl ?_;refine rd1 15 rfl fun K hK => ?_
                  have HX13:Hid (w13.heap[b10]? = some (.cells #[.int .u64 (a:Int),.int .i64 (b:Int),.slice am kk cm] 58 (0,0))):=hid ((HM13.out.block b10 HBXL8.out (ob_tag HRW8.out HBOX8.out (by decide))).trans HBOX8.out);have hc13:=cellOf HX13.out 2 (v:=.slice am kk cm) rfl;have hf13:=frozenOf HX13.out 2;simp only [gE1,gE2,gE3];go_simp;refine hK.out _ _ ?_ (fun hHeld => ?_)
                  ·exact HSS.out _ ((HM13.out.mono (fun i hi=>List.mem_cons_of_mem _ hi)).setCell (p:=⟨b10,2,none⟩) (List.mem_cons_self ..) _)
                  clear hK K;try simp only [Act.put,pE1,pE2,pE3]
                  refine wpAnyH_done (by kernel_rfl) ⟨rfl,?_⟩ _;have HEND:=hid hHeld.2;have HSE:=hid hHeld.1;clear hHeld;clear HSE HSS;have HFN:=hid (roj_next (w:=w) (bs:=bs) HO13.out HKL.out hltk H256.out HXL.out HVI2.out HR2x.out HY.out HX.out HPS.out HX13.out ((HBW2.out.trans (HB8.out.mono HBW2.out.size)).trans HB13.out) HQB.out);go_wp2_with fail;go_roundw
                  case rel=>exact ⟨at2+260,by go_num,by omega,by omega,HFN.out⟩
                  case measure=>simp [Go.Proofs.intOf];omega
                 ·skip
                  simp only [gE1,gE2,gE3];rw [if_pos (by rfl)];refine wp_build1' _ 56 107 257 _ (rbC (y,XB)) rfl rfl Tryz.underlying56 infoR3 zaggR (rbC_len HXL.out) (by omega) (by omega) ?_;intro W12 hW12;refine hK.out _ _ ?_ (fun hHeld => ?_)
                  ·exact HSS.out _ (Mods.of_below (bthen HBE.out (by rw [hW12];exact balloc (Below.refl _ _) _)))
                  clear hK K;try simp only [Act.put,pE1,pE2,pE3]
                  obtain ⟨b12,hb12⟩:∃ b,wd.heap.size=b:=⟨_,rfl⟩
                  have HN12:Hid (W12.heap[b12]? = some (.cells (rbC (y,XB)).toArray 107 (0,0))):=hid (by rw [hW12,← hb12];exact heap_alloc_new _ _);have HBE:=hid (bthen HBE.out (show Below wd.heap.size wd W12 by rw [hW12];exact balloc (Below.refl _ _) _));rw [hb12];clear hb12 hW12;refine rd1 1 rfl fun K hK => ?_;have hrd:=(show W12.cell? ⟨b10,2,none⟩=some (.slice am kk cm) from (HBE.out.cell (p:=⟨b10,2,none⟩) HBXL8.out).trans (cellOf HBOX8.out 2 rfl))
                  simp only [gE1,gE2,gE3];go_simp;clear hrd;refine hK.out _ _ ?_ (fun hHeld => ?_)
                  ·exact (by first | exact HSS.out _ (Mods.of_below HBE.out) | exact HSS.out _ HMD.out)
                  clear hK K;try simp only [Act.put,pE1,pE2,pE3]
                  refine rd1 13 rfl fun K hK => ?_;simp only [gE1,gE2,gE3];rw [if_pos (by rfl)];refine wp_apps _ _ 56 rfl w5.heap.size 107 _ 257 264 Tryz.underlying56 infoR4 zaggR (by decide) (by decide) (.slice am kk cm) kk _ (by rfl) (ownsRow_below HRW8.out HBE.out) _ 1 _ (by rfl) (rd_cells HN12.out (by rw [List.size_toArray,rbC_len HXL.out]) (by omega)) (rbC_one (y,XB)) (by omega) (Nat.le_trans HWL.out HBE.out.size) ?_;intro v13 w13 ho13 hb13 hg13 hs13 hn13;refine hK.out _ _ ?_ (fun hHeld => ?_)
                  ·exact HSS.out _ ((Mods.of_below HBE.out).trans (Chg.of_grown hg13 hs13).1 (fun i hi=>.inl (List.mem_cons_of_mem _ hi)))
                  clear hK K;try simp only [Act.put,pE1,pE2,pE3]
                  have HM13:Hid (Mods (ob (.slice am kk cm)) w8 w13):=hid ((Mods.of_below HBE.out).trans (Chg.of_grown hg13 hs13).1 (fun i hi=>.inl hi));have HB13:Hid (Below w5.heap.size w8 w13):=hid ((HBE.out.mono HWL.out).trans hb13);obtain ⟨a13,c13,hv13⟩:=row_slice ho13;subst hv13;have HO13:=hid ho13;clear ho13 hb13 hg13 hs13 hn13;refine tkR 14 rfl ?_;refine rd1 15 rfl fun K hK => ?_
                  have HX13:Hid (w13.heap[b10]? = some (.cells #[.int .u64 (a:Int),.int .i64 (b:Int),.slice am kk cm] 58 (0,0))):=hid ((HM13.out.block b10 HBXL8.out (ob_tag HRW8.out HBOX8.out (by decide))).trans HBOX8.out);have hc13:=cellOf HX13.out 2 (v:=.slice am kk cm) rfl;have hf13:=frozenOf HX13.out 2;simp only [gE1,gE2,gE3];go_simp;refine hK.out _ _ ?_ (fun hHeld => ?_)
                  ·exact HSS.out _ ((HM13.out.mono (fun i hi=>List.mem_cons_of_mem _ hi)).setCell (p:=⟨b10,2,none⟩) (List.mem_cons_self ..) _)
                  clear hK K;try simp only [Act.put,pE1,pE2,pE3]
                  refine wpAnyH_done (by kernel_rfl) ⟨rfl,?_⟩ _;have HEND:=hid hHeld.2;have HSE:=hid hHeld.1;clear hHeld;clear HSE HSS;have HFN:=hid (roj_next (w:=w) (bs:=bs) HO13.out HKL.out hltk H256.out HXL.out HVI2.out HR2x.out HY.out HX.out HPS.out HX13.out ((HBW2.out.trans (HB8.out.mono HBW2.out.size)).trans HB13.out) HQB.out);go_wp2_with fail;go_roundw
                  case rel=>exact ⟨at2+260,by go_num,by omega,by omega,HFN.out⟩
                  case measure=>simp [Go.Proofs.intOf];omega
          ·obtain rfl:kk=c:=by omega
           go_wp2_with fail
           as_aux_lemma =>
            have HSS:Hid (∀ X,Below wr.heap.size wr X→(X.cell? ⟨b10,2,none⟩=some (.slice am kk cm)∧X.cell? ⟨g3,521,none⟩=some (.int .u64 (kk:Int)))∧Below wr.heap.size wr X):=hid (fun X hb=>⟨⟨(World.cell?_of_block (hb.block _ (HBXL.out))).trans (cellOf HBOX.out 2 rfl),(World.cell?_of_block (hb.block _ (HG3r.out))).trans (HK2r.out)⟩,hb⟩);refine region_normal (S:=fun X=>(X.cell? ⟨b10,2,none⟩=some (.slice am kk cm)∧X.cell? ⟨g3,521,none⟩=some (.int .u64 (kk:Int)))∧Below wr.heap.size wr X) (by kernel_rfl) (HSS.out _ (Below.refl _ _).drew) (fun hHeld => ?_)
            have hbe:Below wr.heap.size wr wr.drew:=(Below.refl _ _).drew;obtain ⟨wd,hwd⟩:∃ y,wr.drew=y:=⟨_,rfl⟩
            rw [hwd] at hHeld hbe ⊢;have HBE:=hid hbe;have HS0:Hid (wr.heap.size≤wd.heap.size):=hid HBE.out.size;clear hwd hbe;refine tkR 0 rfl ?_;refine tkR 4 rfl ?_;refine tkR 1 rfl ?_;refine tkR 5 rfl ?_;refine tkR 2 rfl ?_;refine tkR 6 rfl ?_;refine tkS 3 (.int .u64 (kk:Int)) rfl ?_ ?_
            ·(intro w hSw;simp only [gE1,gE2,gE3];(go_simp;first | done | exact hwk | (simp;omega) | omega))
            refine tkR 7 rfl ?_;refine tkS 8 (.bool false) rfl ?_ ?_
            ·(intro w hSw;simp only [gE1,gE2,gE3];(go_simp;first | done | with_reducible rfl | (simp;omega) | omega))
            refine wpAnyH_done (by kernel_rfl) ⟨rfl,?_⟩ _;have HEND:=hid hHeld.2;have HSE:=hid hHeld.1;clear hHeld;clear HSE HSS;obtain ⟨w6,hw6⟩:∃ W,W=wd:=⟨_,rfl⟩
            subst hw6;have HB6:=hid HBE.out;have HBX6:Hid (Below w.heap.size w w6):=hid (bthen HBWX.out HB6.out);clear HBE HEND;have HFV:Hid (ofVol r=some ((a,⟨b,mb⟩),bs.drop at2)):=hid (by rw [ofVol_eq H12.out.1 HB.out HC.out hpass.2,HVI.out.fin,HA.out];rfl);have HON:=hid (HIN.out.next hlt HFV.out hpass.1);have HB36:Hid (Below w3.heap.size w3 w6):=hid (bthen HB3r.out HB6.out);have HC8:=hid (HRR3.out.below HB36.out);have HRO:Hid (w6.ownsRow w.heap.size 58 3 (.slice av j cv) j (rvolC lw)):=hid (by have h1:=HC8.out.row;rw [HLJ.out] at h1;exact h1)
            have HX8:=hid ((HB6.out.block b10 HBXL.out).trans HBOX.out);have HX8L:=hid (hLT HX8.out);have HWL:Hid (w.heap.size≤w6.heap.size):=hid HBX6.out.size;have HBLx:Hid (w.heap.size<w6.heap.size):=hid HC8.out.lt;have HMV:Hid (w6.ownsRow w.heap.size 107 257 (.slice am kk cm) kk (rblkC mb)):=hid (by have h1:=ownsRow_base (ownsRow_below HROW.out HB6.out) HBX5.out.size;rw [HKL.out] at h1;exact h1);have HNF:Hid (b10∉(w.heap.size :: ob (.slice av j cv))):=hid (fun hh=>by
             rcases List.mem_cons.1 hh with e | hh
             ·have h8:=HX8.out
              rw [e,HC8.out.box] at h8;exact absurd (Obj.cells.inj (Option.some.inj h8)).2.1 (by decide)
             ·have h1:=ownsRow_lt HRR3.out.row b10 hh
              have h2:=HG10.out;have h3:=HB35.out.size
              omega)
            have HCB:Hid (w6.cell? ⟨w.heap.size,0,none⟩=some (.slice av j cv)):=hid HC8.out.cell;have hjb2:j<4294967296:=by omega
            go_wp2_with fail
            as_aux_lemma =>
             have HSS:Hid (∀ X,Mods (w.heap.size :: ob (.slice av j cv)) w6 X→(X.cell? ⟨b10,0,none⟩=some (.int .u64 (a:Int))∧X.cell? ⟨b10,1,none⟩=some (.int .i64 (b:Int))∧X.cell? ⟨b10,2,none⟩=some (.slice am kk cm))∧Mods (w.heap.size :: ob (.slice av j cv)) w6 X):=hid (fun X hb=>⟨⟨(World.cell?_of_block (hb.block _ (HX8L.out) (HNF.out))).trans (cellOf HX8.out 0 rfl),(World.cell?_of_block (hb.block _ (HX8L.out) (HNF.out))).trans (cellOf HX8.out 1 rfl),(World.cell?_of_block (hb.block _ (HX8L.out) (HNF.out))).trans (cellOf HX8.out 2 rfl)⟩,hb⟩)
             refine region_normal (S:=fun X=>(X.cell? ⟨b10,0,none⟩=some (.int .u64 (a:Int))∧X.cell? ⟨b10,1,none⟩=some (.int .i64 (b:Int))∧X.cell? ⟨b10,2,none⟩=some (.slice am kk cm))∧Mods (w.heap.size :: ob (.slice av j cv)) w6 X) (by kernel_rfl) (HSS.out _ (Mods.of_below (Below.refl _ _).drew)) (fun hHeld => ?_);have hbe:Below w6.heap.size w6 w6.drew:=(Below.refl _ _).drew;obtain ⟨wd,hwd⟩:∃ y,w6.drew=y:=⟨_,rfl⟩
             rw [hwd] at hHeld hbe ⊢;have HBE:=hid hbe;have HS0:Hid (w6.heap.size≤wd.heap.size):=hid HBE.out.size;clear hwd hbe;refine tkR 0 rfl ?_;refine tkR 1 rfl ?_;refine tkR 5 rfl ?_;refine tkR 2 rfl ?_;refine tkR 3 rfl ?_;refine rd2 4 6 rfl rfl (fun K hK => ?_) fun K hK => ?_
             ·skip
              have hrd:=(show wd.cell? ⟨w.heap.size,0,none⟩=some (.slice av j cv) from (HBE.out.cell (p:=⟨w.heap.size,0,none⟩) HBLx.out).trans HCB.out)
              simp only [gE1,gE2,gE3];go_simp;clear hrd;refine hK.out _ _ ?_ (fun hHeld => ?_)
              ·exact (by first | exact HSS.out _ (Mods.of_below HBE.out) | exact HSS.out _ HMD.out)
              clear hK K;try simp only [Act.put,pE1,pE2,pE3]
              refine rd1 6 rfl fun K hK => ?_;simp only [gE1,gE2,gE3];go_simp;obtain ⟨b6,y6,hw6,hy6,hx6,HN6⟩:=al wd (.cells #[.int .u64 (a:Int),.int .i64 (b:Int),.slice am kk cm] 58);rw [hy6,hw6];have HG6:Hid (w6.heap.size≤b6):=hid (by have:=HBE.out.size;omega);clear hy6 hw6;have HBE:=hid (bthen HBE.out hx6);clear hHeld;refine hK.out _ _ (HSS.out _ (Mods.of_below HBE.out)) fun hHeld => ?_;clear hK K;try simp only [Act.put,pE1,pE2,pE3]
              clear hx6;refine rd1 7 rfl fun K hK => ?_;simp only [gE1,gE2,gE3];rw [if_pos (by rfl)];refine wp_apps _ _ 28 rfl w.heap.size 58 _ 3 40 Tryz.underlying28 infoVols rfl (by decide) (by decide) (.slice av j cv) j _ (by rfl) (ownsRow_below HRO.out HBE.out) _ 1 _ (by rfl) (rd_cells HN6.out rfl (by omega)) (by simp [Value.oneCell']) (by omega) (Nat.le_trans HWL.out HBE.out.size) ?_;intro v9 w9 ho9 hb9 hg9 hs9 hn9;refine hK.out _ _ ?_ (fun hHeld => ?_)
              ·exact HSS.out _ ((Mods.of_below HBE.out).trans (Chg.of_grown hg9 hs9).1 (fun i hi=>.inl (List.mem_cons_of_mem _ hi)))
              clear hK K;try simp only [Act.put,pE1,pE2,pE3]
              have HM9:Hid (Mods (ob (.slice av j cv)) w6 w9):=hid ((Mods.of_below HBE.out).trans (Chg.of_grown hg9 hs9).1 (fun i hi=>.inl hi));have HB9:Hid (Below w.heap.size w6 w9):=hid ((HBE.out.mono HWL.out).trans hb9);obtain ⟨a9,c9,hv9⟩:=row_slice ho9;subst hv9;have HO9:=hid ho9;clear ho9 hb9 hg9 hs9 hn9;refine tkR 8 rfl ?_;refine tkR 9 rfl ?_;refine rd1 10 rfl fun K hK => ?_;have HX9:Hid (w9.heap[w.heap.size]? = some (.cells #[.slice av j cv] 30 (0,0))):=hid ((HM9.out.block w.heap.size HBLx.out (ob_tag HRO.out HC8.out.box (by decide))).trans HC8.out.box)
              have hc9:=cellOf HX9.out 0 (v:=.slice av j cv) rfl;have hf9:=frozenOf HX9.out 0;simp only [gE1,gE2,gE3];go_simp;refine hK.out _ _ ?_ (fun hHeld => ?_)
              ·exact HSS.out _ ((HM9.out.mono (fun i hi=>List.mem_cons_of_mem _ hi)).setCell (p:=⟨w.heap.size,0,none⟩) (List.mem_cons_self ..) _)
              clear hK K;try simp only [Act.put,pE1,pE2,pE3]
              refine wpAnyH_done (by kernel_rfl) ⟨rfl,?_⟩ _;have HEND:=hid hHeld.2;have HSE:=hid hHeld.1;clear hHeld;clear HSE HSS;have HFN:Hid (ROI w (w9.setCell ⟨w.heap.size,0,none⟩ (.slice a9 (j+1) c9)) n0 at2 bs):=hid ⟨j+1,_,lw ++ [(a,((⟨b,mb⟩:Vl),.slice am kk cm))],a,rof_next HC8.out HX9.out HO9.out HM9.out HLJ.out HMV.out HKL.out,by simp [HLJ.out],by omega,.inr ⟨(a,((⟨b,mb⟩:Vl),Value.slice am kk cm)),by simp,rfl⟩,by
               have h1:=HON.out;rw [show mapA (·.1) (lw ++ [(a,((⟨b,mb⟩:Vl),Value.slice am kk cm))])=mapA (·.1) lw ++ [(a,⟨b,mb⟩)] by simp [mapA]];exact h1,((HBX6.out).trans HB9.out).setCell (p:=⟨w.heap.size,0,none⟩) (Nat.le_refl _) _⟩
              go_wp2_with fail;go_roundw
              case rel=>exact ⟨at2,rfl,by omega,by omega,HFN.out⟩
              case measure=>simp [Go.Proofs.intOf];omega
             ·skip
              simp only [gE1,gE2,gE3];go_simp;obtain ⟨b6,y6,hw6,hy6,hx6,HN6⟩:=al wd (.cells #[.int .u64 (a:Int),.int .i64 (b:Int),.slice am kk cm] 58);rw [hy6,hw6];have HG6:Hid (w6.heap.size≤b6):=hid (by have:=HBE.out.size;omega);clear hy6 hw6;have HBE:=hid (bthen HBE.out hx6);clear hHeld;refine hK.out _ _ (HSS.out _ (Mods.of_below HBE.out)) fun hHeld => ?_;clear hK K;try simp only [Act.put,pE1,pE2,pE3]
              clear hx6;refine rd1 4 rfl fun K hK => ?_;have hrd:=(show y6.cell? ⟨w.heap.size,0,none⟩=some (.slice av j cv) from (HBE.out.cell (p:=⟨w.heap.size,0,none⟩) HBLx.out).trans HCB.out)
              simp only [gE1,gE2,gE3];go_simp;clear hrd;refine hK.out _ _ ?_ (fun hHeld => ?_)
              ·exact (by first | exact HSS.out _ (Mods.of_below HBE.out) | exact HSS.out _ HMD.out)
              clear hK K;try simp only [Act.put,pE1,pE2,pE3]
              refine rd1 7 rfl fun K hK => ?_;simp only [gE1,gE2,gE3];rw [if_pos (by rfl)];refine wp_apps _ _ 28 rfl w.heap.size 58 _ 3 40 Tryz.underlying28 infoVols rfl (by decide) (by decide) (.slice av j cv) j _ (by rfl) (ownsRow_below HRO.out HBE.out) _ 1 _ (by rfl) (rd_cells HN6.out rfl (by omega)) (by simp [Value.oneCell']) (by omega) (Nat.le_trans HWL.out HBE.out.size) ?_;intro v9 w9 ho9 hb9 hg9 hs9 hn9;refine hK.out _ _ ?_ (fun hHeld => ?_)
              ·exact HSS.out _ ((Mods.of_below HBE.out).trans (Chg.of_grown hg9 hs9).1 (fun i hi=>.inl (List.mem_cons_of_mem _ hi)))
              clear hK K;try simp only [Act.put,pE1,pE2,pE3]
              have HM9:Hid (Mods (ob (.slice av j cv)) w6 w9):=hid ((Mods.of_below HBE.out).trans (Chg.of_grown hg9 hs9).1 (fun i hi=>.inl hi));have HB9:Hid (Below w.heap.size w6 w9):=hid ((HBE.out.mono HWL.out).trans hb9);obtain ⟨a9,c9,hv9⟩:=row_slice ho9;subst hv9;have HO9:=hid ho9;clear ho9 hb9 hg9 hs9 hn9;refine tkR 8 rfl ?_;refine tkR 9 rfl ?_;refine rd1 10 rfl fun K hK => ?_;have HX9:Hid (w9.heap[w.heap.size]? = some (.cells #[.slice av j cv] 30 (0,0))):=hid ((HM9.out.block w.heap.size HBLx.out (ob_tag HRO.out HC8.out.box (by decide))).trans HC8.out.box)
              have hc9:=cellOf HX9.out 0 (v:=.slice av j cv) rfl;have hf9:=frozenOf HX9.out 0;simp only [gE1,gE2,gE3];go_simp;refine hK.out _ _ ?_ (fun hHeld => ?_)
              ·exact HSS.out _ ((HM9.out.mono (fun i hi=>List.mem_cons_of_mem _ hi)).setCell (p:=⟨w.heap.size,0,none⟩) (List.mem_cons_self ..) _)
              clear hK K;try simp only [Act.put,pE1,pE2,pE3]
              refine wpAnyH_done (by kernel_rfl) ⟨rfl,?_⟩ _;have HEND:=hid hHeld.2;have HSE:=hid hHeld.1;clear hHeld;clear HSE HSS;have HFN:Hid (ROI w (w9.setCell ⟨w.heap.size,0,none⟩ (.slice a9 (j+1) c9)) n0 at2 bs):=hid ⟨j+1,_,lw ++ [(a,((⟨b,mb⟩:Vl),.slice am kk cm))],a,rof_next HC8.out HX9.out HO9.out HM9.out HLJ.out HMV.out HKL.out,by simp [HLJ.out],by omega,.inr ⟨(a,((⟨b,mb⟩:Vl),Value.slice am kk cm)),by simp,rfl⟩,by
               have h1:=HON.out;rw [show mapA (·.1) (lw ++ [(a,((⟨b,mb⟩:Vl),Value.slice am kk cm))])=mapA (·.1) lw ++ [(a,⟨b,mb⟩)] by simp [mapA]];exact h1,((HBX6.out).trans HB9.out).setCell (p:=⟨w.heap.size,0,none⟩) (Nat.le_refl _) _⟩
              go_wp2_with fail;go_roundw
              case rel=>exact ⟨at2,rfl,by omega,by omega,HFN.out⟩
              case measure=>simp [Go.Proofs.intOf];omega
      ·rcases Nat.eq_zero_or_pos j with hj0 | hj0
       ·have HL0:Hid (lst=0):=hid (by
         rcases HLS.out with ⟨_,h⟩ | ⟨p,hp,_⟩
         ·exact h
         ·have:=(List.getElem?_eq_some_iff.1 hp).1
          have:=HLJ.out
          omega)
        subst hj0
        by_cases hwd:256<b
        ·have HNO:Hid (ofD bs=none):=hid (by
          rw [HEQ.out,HIN.out.no hlt (.inl (ofVol_wide (by rw [HB.out];exact hwd)))]
          rfl)
         go_wp2_with fail
         as_aux_lemma =>
          have HSS:Hid (∀ X,Below w3.heap.size w3 X→(X.cell? ⟨g3,1,none⟩=some (.int .u64 (a:Int))∧X.cell? ⟨g3,261,none⟩=some (.int .u64 (b:Int))∧X.cell? ⟨w.heap.size,0,none⟩=some (.slice av 0 cv))∧Below w3.heap.size w3 X):=hid (fun X hb=>⟨⟨(World.cell?_of_block (hb.block _ (HG3.out))).trans (HK0.out),(World.cell?_of_block (hb.block _ (HG3.out))).trans (HK1.out),(World.cell?_of_block (hb.block _ (HBL.out))).trans (HBC3.out)⟩,hb⟩)
          refine region_normal (S:=fun X=>(X.cell? ⟨g3,1,none⟩=some (.int .u64 (a:Int))∧X.cell? ⟨g3,261,none⟩=some (.int .u64 (b:Int))∧X.cell? ⟨w.heap.size,0,none⟩=some (.slice av 0 cv))∧Below w3.heap.size w3 X) (by kernel_rfl) (HSS.out _ (Below.refl _ _).drew) (fun hHeld => ?_);have hbe:Below w3.heap.size w3 w3.drew:=(Below.refl _ _).drew;obtain ⟨wd,hwd⟩:∃ y,w3.drew=y:=⟨_,rfl⟩
          rw [hwd] at hHeld hbe ⊢;have HBE:=hid hbe;have HS0:Hid (w3.heap.size≤wd.heap.size):=hid HBE.out.size;clear hwd hbe;refine tkR 0 rfl ?_;refine tkS 1 (.bool false) rfl ?_ ?_
          ·(intro w hSw;simp only [gE1,gE2,gE3];(go_simp;first | done | with_reducible rfl | simp | (simp;omega) | omega))
          refine tkR 2 rfl ?_;refine tkR 3 rfl ?_;refine tkR 4 rfl ?_;refine tkR 5 rfl ?_;refine tkR 6 rfl ?_;refine tkS 7 (.bool false) rfl ?_ ?_
          ·(intro w hSw;simp only [gE1,gE2,gE3];(go_simp;first | done | with_reducible rfl | simp | (simp;omega) | omega))
          refine tkS 8 (.bool false) rfl ?_ ?_
          ·(intro w hSw;simp only [gE1,gE2,gE3];(go_simp;first | done | with_reducible rfl | simp | (simp;omega) | omega))
          refine tkR 9 rfl ?_;refine tkR 10 rfl ?_;refine tkR 11 rfl ?_;refine tkR 12 rfl ?_;refine tkR 13 rfl ?_;refine tkR 14 rfl ?_;refine tkS 15 (.bool false) rfl ?_ ?_
          ·(intro w hSw;simp only [gE1,gE2,gE3];(go_simp;first | done | with_reducible rfl | simp | (simp;omega) | omega))
          refine tkR 16 rfl ?_;refine tkV 17 rfl ?_;refine tkV 21 rfl ?_;refine tkV 30 rfl ?_;refine tkV 18 rfl ?_;refine tkV 22 rfl ?_;refine tkV 31 rfl ?_;refine tkV 19 rfl ?_;refine tkV 23 rfl ?_;refine tkV 32 rfl ?_;refine tkV 20 rfl ?_;refine tkV 24 rfl ?_;refine tkV 33 rfl ?_;refine tkV 25 rfl ?_;refine tkV 26 rfl ?_;refine tkV 27 rfl ?_;refine tkV 28 rfl ?_;refine tkV 29 rfl ?_;refine tkV 34 rfl ?_;refine tkS 35 (.bool false) rfl ?_ ?_
          ·(intro w hSw;simp only [gE1,gE2,gE3];(go_simp;first | done | with_reducible rfl | simp | (simp;omega) | omega))
          refine tkS 36 (.bool false) rfl ?_ ?_
          ·(intro w hSw;simp only [gE1,gE2,gE3];(go_simp;first | done | with_reducible rfl | simp | (simp;omega) | omega))
          refine tkR 37 rfl ?_;refine tkR 38 rfl ?_;refine tkR 39 rfl ?_;refine tkR 40 rfl ?_;refine tkR 41 rfl ?_;refine tkS 42 (.bool true) rfl ?_ ?_
          ·(intro w hSw;simp only [gE1,gE2,gE3];(go_simp;first | done | with_reducible rfl | simp | (simp;omega) | omega))
          refine tkS 43 (.bool true) rfl ?_ ?_
          ·(intro w hSw;simp only [gE1,gE2,gE3];(go_simp;first | done | with_reducible rfl | simp | (simp;omega) | omega))
          refine wpAnyH_done (by kernel_rfl) ⟨rfl,?_⟩ _;have HEND:=hid hHeld.2;have HSE:=hid hHeld.1;clear hHeld;clear HSE HSS;have HE8:=hid (bthen HB3.out HBE.out);go_wp2_with fail
          go_ret2
          exact ⟨HE8.out,.inl ⟨HNO.out,_,rfl⟩⟩
        ·exact absurd ⟨by have:=HL0.out;omega,by omega⟩ hpass
       ·obtain ⟨jm,hjm⟩:∃ i,i=j - 1:=⟨_,rfl⟩
        have hjl:jm<j:=by omega
        obtain ⟨p,hp,hpl⟩:∃ p,lw[jm]? = some p∧p.1=lst:=by
         rcases HLS.out with ⟨h,_⟩ | ⟨p,hp,h⟩
         ·have:=HLJ.out
          rw [h] at this
          simp at this
          omega
         ·rw [HLJ.out,← hjm] at hp
          exact ⟨p,hp,h⟩
        obtain ⟨g,cap3,hv,hc1',hc2',e0,_,_⟩:=HRR3.out.at_ hp;rw [HLJ.out] at hv;obtain ⟨rfl,_,rfl⟩:=Value.slice.inj hv;rw [hpl] at e0;have HE0:=hid e0;have HGV:Hid (g<w3.heap.size):=hid (World.block_lt_of_cell? w3 _ e0);have HJB:Hid (IntKind.i64.wrap ((j:Int) - 1)=(jm:Int)):=hid (by rw [show (j:Int) - 1=(jm:Int) by omega];exact IntWalk.i64_in _ ⟨by omega,by omega⟩);clear hjm hv hp hpl hc1' hc2' e0
        by_cases hla:a≤lst
        ·have HNO:Hid (ofD bs=none):=hid (by
          rw [HEQ.out,HIN.out.no hlt (ofVol_key (by rw [HA.out];exact hla))]
          rfl)
         go_wp2_with fail
         as_aux_lemma =>
          have HSS:Hid (∀ X,Below w3.heap.size w3 X→(X.cell? ⟨g3,1,none⟩=some (.int .u64 (a:Int))∧X.cell? ⟨w.heap.size,0,none⟩=some (.slice (some ⟨g,0,none⟩) j cv)∧X.cell? ⟨g,jm * 3,none⟩=some (.int .u64 (lst:Int)))∧Below w3.heap.size w3 X):=hid (fun X hb=>⟨⟨(World.cell?_of_block (hb.block _ (HG3.out))).trans (HK0.out),(World.cell?_of_block (hb.block _ (HBL.out))).trans (HBC3.out),(World.cell?_of_block (hb.block _ (HGV.out))).trans (HE0.out)⟩,hb⟩)
          refine region_normal (S:=fun X=>(X.cell? ⟨g3,1,none⟩=some (.int .u64 (a:Int))∧X.cell? ⟨w.heap.size,0,none⟩=some (.slice (some ⟨g,0,none⟩) j cv)∧X.cell? ⟨g,jm * 3,none⟩=some (.int .u64 (lst:Int)))∧Below w3.heap.size w3 X) (by kernel_rfl) (HSS.out _ (Below.refl _ _).drew) (fun hHeld => ?_);have hbe:Below w3.heap.size w3 w3.drew:=(Below.refl _ _).drew;obtain ⟨wd,hwd⟩:∃ y,w3.drew=y:=⟨_,rfl⟩
          rw [hwd] at hHeld hbe ⊢;have HBE:=hid hbe;have HS0:Hid (w3.heap.size≤wd.heap.size):=hid HBE.out.size;clear hwd hbe;refine tkR 0 rfl ?_;refine tkS 1 (.bool false) rfl ?_ ?_
          ·(intro w hSw;simp only [gE1,gE2,gE3];(go_simp;first | done | with_reducible rfl | simp | (simp;omega) | omega))
          refine tkR 2 rfl ?_;refine tkR 3 rfl ?_;refine tkR 4 rfl ?_;refine tkR 5 rfl ?_;refine tkR 6 rfl ?_;refine tkS 7 (.bool false) rfl ?_ ?_
          ·(intro w hSw;simp only [gE1,gE2,gE3];(go_simp;first | done | with_reducible rfl | simp | (simp;omega) | omega))
          refine tkS 8 (.bool false) rfl ?_ ?_
          ·(intro w hSw;simp only [gE1,gE2,gE3];(go_simp;first | done | with_reducible rfl | simp | (simp;omega) | omega))
          refine tkR 9 rfl ?_;refine tkR 10 rfl ?_;refine tkR 11 rfl ?_;refine tkR 12 rfl ?_;refine tkR 13 rfl ?_;refine tkR 14 rfl ?_;refine tkS 15 (.bool true) rfl ?_ ?_
          ·(intro w hSw;simp only [gE1,gE2,gE3];(go_simp;first | done | with_reducible rfl | simp | (simp;omega) | omega))
          refine tkR 16 rfl ?_;refine tkR 17 rfl ?_;refine tkR 21 rfl ?_;refine tkR 30 rfl ?_;refine tkR 18 rfl ?_;refine tkR 22 rfl ?_;refine tkR 31 rfl ?_;refine tkR 19 rfl ?_;refine tkR 23 rfl ?_;refine tkR 32 rfl ?_;refine tkR 20 rfl ?_;refine tkR 24 rfl ?_;refine tkR 33 rfl ?_;refine tkR 25 rfl ?_;refine tkS 26 (.int .i64 (jm:Int)) rfl ?_ ?_
          ·(intro w hSw;simp only [gE1,gE2,gE3];(have hjb:=HJB.out;go_simp;first | done | exact hjb | (trace_state;with_reducible rfl)))
          refine tkR 27 rfl ?_;refine tkR 28 rfl ?_;refine tkR 29 rfl ?_;refine tkS 34 (.bool true) rfl ?_ ?_
          ·(intro w hSw;simp only [gE1,gE2,gE3];(have hqa:decide ((a:Int)≤(lst:Int))=true:=decide_eq_true (by omega);go_simp;first | done | exact hqa | (simp;omega) | (trace_state;omega)))
          refine tkS 35 (.bool true) rfl ?_ ?_
          ·(intro w hSw;simp only [gE1,gE2,gE3];(go_simp;first | done | with_reducible rfl | simp | (simp;omega) | omega))
          refine tkS 36 (.bool true) rfl ?_ ?_
          ·(intro w hSw;simp only [gE1,gE2,gE3];(go_simp;first | done | with_reducible rfl | simp | (simp;omega) | omega))
          refine tkR 37 rfl ?_;refine tkV 38 rfl ?_;refine tkV 39 rfl ?_;refine tkV 40 rfl ?_;refine tkV 41 rfl ?_;refine tkV 42 rfl ?_;refine tkS 43 (.bool true) rfl ?_ ?_
          ·(intro w hSw;simp only [gE1,gE2,gE3];(go_simp;first | done | with_reducible rfl | simp | (simp;omega) | omega))
          refine wpAnyH_done (by kernel_rfl) ⟨rfl,?_⟩ _;have HEND:=hid hHeld.2;have HSE:=hid hHeld.1;clear hHeld;clear HSE HSS;have HE8:=hid (bthen HB3.out HBE.out);go_wp2_with fail
          go_ret2
          exact ⟨HE8.out,.inl ⟨HNO.out,_,rfl⟩⟩
        ·have hwd:256<b:=by
          rcases Nat.lt_or_ge 256 b with h | h
          ·exact h
          ·exact absurd ⟨by omega,h⟩ hpass
         have HNO:Hid (ofD bs=none):=hid (by
          rw [HEQ.out,HIN.out.no hlt (.inl (ofVol_wide (by rw [HB.out];exact hwd)))]
          rfl)
         go_wp2_with fail
         as_aux_lemma =>
          have HSS:Hid (∀ X,Below w3.heap.size w3 X→(X.cell? ⟨g3,1,none⟩=some (.int .u64 (a:Int))∧X.cell? ⟨g3,261,none⟩=some (.int .u64 (b:Int))∧X.cell? ⟨w.heap.size,0,none⟩=some (.slice (some ⟨g,0,none⟩) j cv)∧X.cell? ⟨g,jm * 3,none⟩=some (.int .u64 (lst:Int)))∧Below w3.heap.size w3 X):=hid (fun X hb=>⟨⟨(World.cell?_of_block (hb.block _ (HG3.out))).trans (HK0.out),(World.cell?_of_block (hb.block _ (HG3.out))).trans (HK1.out),(World.cell?_of_block (hb.block _ (HBL.out))).trans (HBC3.out),(World.cell?_of_block (hb.block _ (HGV.out))).trans (HE0.out)⟩,hb⟩)
          refine region_normal (S:=fun X=>(X.cell? ⟨g3,1,none⟩=some (.int .u64 (a:Int))∧X.cell? ⟨g3,261,none⟩=some (.int .u64 (b:Int))∧X.cell? ⟨w.heap.size,0,none⟩=some (.slice (some ⟨g,0,none⟩) j cv)∧X.cell? ⟨g,jm * 3,none⟩=some (.int .u64 (lst:Int)))∧Below w3.heap.size w3 X) (by kernel_rfl) (HSS.out _ (Below.refl _ _).drew) (fun hHeld => ?_);have hbe:Below w3.heap.size w3 w3.drew:=(Below.refl _ _).drew;obtain ⟨wd,hwd⟩:∃ y,w3.drew=y:=⟨_,rfl⟩
          rw [hwd] at hHeld hbe ⊢;have HBE:=hid hbe;have HS0:Hid (w3.heap.size≤wd.heap.size):=hid HBE.out.size;clear hwd hbe;refine tkR 0 rfl ?_;refine tkS 1 (.bool false) rfl ?_ ?_
          ·(intro w hSw;simp only [gE1,gE2,gE3];(go_simp;first | done | with_reducible rfl | simp | (simp;omega) | omega))
          refine tkR 2 rfl ?_;refine tkR 3 rfl ?_;refine tkR 4 rfl ?_;refine tkR 5 rfl ?_;refine tkR 6 rfl ?_;refine tkS 7 (.bool false) rfl ?_ ?_
          ·(intro w hSw;simp only [gE1,gE2,gE3];(go_simp;first | done | with_reducible rfl | simp | (simp;omega) | omega))
          refine tkS 8 (.bool false) rfl ?_ ?_
          ·(intro w hSw;simp only [gE1,gE2,gE3];(go_simp;first | done | with_reducible rfl | simp | (simp;omega) | omega))
          refine tkR 9 rfl ?_;refine tkR 10 rfl ?_;refine tkR 11 rfl ?_;refine tkR 12 rfl ?_;refine tkR 13 rfl ?_;refine tkR 14 rfl ?_;refine tkS 15 (.bool true) rfl ?_ ?_
          ·(intro w hSw;simp only [gE1,gE2,gE3];(go_simp;first | done | with_reducible rfl | simp | (simp;omega) | omega))
          refine tkR 16 rfl ?_;refine tkR 17 rfl ?_;refine tkR 21 rfl ?_;refine tkR 30 rfl ?_;refine tkR 18 rfl ?_;refine tkR 22 rfl ?_;refine tkR 31 rfl ?_;refine tkR 19 rfl ?_;refine tkR 23 rfl ?_;refine tkR 32 rfl ?_;refine tkR 20 rfl ?_;refine tkR 24 rfl ?_;refine tkR 33 rfl ?_;refine tkR 25 rfl ?_;refine tkS 26 (.int .i64 (jm:Int)) rfl ?_ ?_
          ·(intro w hSw;simp only [gE1,gE2,gE3];(have hjb:=HJB.out;go_simp;first | done | exact hjb | (trace_state;with_reducible rfl)))
          refine tkR 27 rfl ?_;refine tkR 28 rfl ?_;refine tkR 29 rfl ?_;refine tkS 34 (.bool false) rfl ?_ ?_
          ·(intro w hSw;simp only [gE1,gE2,gE3];(have hqa:decide ((a:Int)≤(lst:Int))=false:=decide_eq_false (by omega);go_simp;first | done | exact hqa | (simp;omega) | (trace_state;omega)))
          refine tkS 35 (.bool false) rfl ?_ ?_
          ·(intro w hSw;simp only [gE1,gE2,gE3];(go_simp;first | done | with_reducible rfl | simp | (simp;omega) | omega))
          refine tkS 36 (.bool false) rfl ?_ ?_
          ·(intro w hSw;simp only [gE1,gE2,gE3];(go_simp;first | done | with_reducible rfl | simp | (simp;omega) | omega))
          refine tkR 37 rfl ?_;refine tkR 38 rfl ?_;refine tkR 39 rfl ?_;refine tkR 40 rfl ?_;refine tkR 41 rfl ?_;refine tkS 42 (.bool true) rfl ?_ ?_
          ·(intro w hSw;simp only [gE1,gE2,gE3];(go_simp;first | done | with_reducible rfl | simp | (simp;omega) | omega))
          refine tkS 43 (.bool true) rfl ?_ ?_
          ·(intro w hSw;simp only [gE1,gE2,gE3];(go_simp;first | done | with_reducible rfl | simp | (simp;omega) | omega))
          refine wpAnyH_done (by kernel_rfl) ⟨rfl,?_⟩ _;have HEND:=hid hHeld.2;have HSE:=hid hHeld.1;clear hHeld;clear HSE HSS;have HE8:=hid (bthen HB3.out HBE.out);go_wp2_with fail
          go_ret2
          exact ⟨HE8.out,.inl ⟨HNO.out,_,rfl⟩⟩
   ·obtain rfl:j=n0:=by omega
    have hw64:IntKind.u64.wrap (j:Int)=(j:Int):=by rw [IntKind.wrap_u64];omega
    have q0:decide ((j:Int)<(j:Int))=false:=decide_eq_false (by omega);have hfin:=HINV.out.fin;have HFB:Hid (∀ b,(b=true ↔ bs.drop at_=[])→ROfP w bs (.returned (.tuple #[.pointer (some ⟨w.heap.size,0,none⟩),.bool b])) wr):=hid (fun b hb=>by
     refine ⟨HBW.out,?_⟩;rw [HEQ.out,hfin];simp only [Option.bind_some]
     cases b with
     | true=>exact .inr ⟨_,lw,if_pos (hb.1 rfl),rfl,HRR.out⟩
     | false=>exact .inl ⟨if_neg (fun h=>by have:=hb.2 h;cases this),_,rfl⟩)
    clear hfin;have HDE:Hid (bs.drop at_=[] ↔ at_=m):=hid (by rw [List.drop_eq_nil_iff,HLB.out];omega)
    by_cases hz:at_=m
    ·have q2:decide ((at_:Int)=(m:Int))=true:=decide_eq_true (by omega)
     have HF:=hid (HFB.out true ⟨fun _=>HDE.out.2 hz,fun _=>rfl⟩);clear HFB;go_wp2_with fail
     go_ret2
     exact HF.out
    ·have HQ2:Hid (((at_:Int) == (m:Int))=false):=hid (by simp;omega)
     have HF:=hid (HFB.out false ⟨fun h=>(by cases h),fun h=>absurd (HDE.out.1 h) hz⟩);clear HFB;go_wp2_with fail
     go_ret2
     have h9:=HF.out;rw [← HQ2.out] at h9;exact h9
end Go.Proofs.YthkmihedkddnmaaGreat
