import Derived.Test.YthkmihedkddnmaaGreatUG26
import Derived.Test.YthkmihedkddnmaaGreatUG5
import Derived.Test.YthkmihedkddnmaaGreatUG28
import Derived.Test.YthkmihedkddnmaaGreatUG2
import Derived.Test.YthkmihedkddnmaaGreatUG6
import Derived.Test.YthkmihedkddnmaaGreatUG13
import Derived.Test.YthkmihedkddnmaaGreatUG14
set_option linter.unusedVariables false
set_option linter.unusedSimpArgs false
set_option maxHeartbeats 6400000
set_option maxRecDepth 100000
namespace Go.Proofs.YthkmihedkddnmaaGreat
open Go.RowKit Wire Cmd
theorem rvrow_at {w0 w:World} {B n:Nat} {v:Value} {cs:List (V × Value)} {l:List V} (h:RVrow w0 B w v cs) (hl:cs.map Prod.fst=l) (hn:l.length=n) (h0:0<n) :
  ∃ g cap,v = .slice (some ⟨g,0,none⟩) n cap∧n≤cap∧(∃ cur,w.heap[g]? = some (.cells cur 128 (0,0)))∧∀ (i:Nat) (x:V),l[i]? = some x→w.cell? ⟨g,i * 260+1,none⟩=some (.int .u64 (x.n:Int))∧w.rangeAt g (i * 260+4) (bV x.x):=by
 have hcl:cs.length=n:=by rw [← hn,← hl,List.length_map]
 obtain ⟨ao,cap,e,hlen,_,⟨_,hc1,_⟩,hc⟩:=Rd.of_own h.1;rw [hcl] at e;have h60:∀ q∈cs.map fun p=>rC p.1 p.2,q.length=260:=fun q hq=>by
  obtain ⟨p,hp,rfl⟩:=List.mem_map.1 hq;exact rC_len (h.2 p hp).1.x
 have hgo:∃ g,ao=some ⟨g,0,none⟩∧∃ cur,w.heap[g]? = some (.cells cur 128 (0,0)):=by
  rcases h.1.2 with ⟨he,hz⟩ | ⟨g,cap',cur,he,_,hh,_⟩
  ·rw [e] at he
   have:=(Value.slice.inj he).2.1;omega
  ·rw [e] at he
   exact ⟨g,(Value.slice.inj he).1,cur,hh⟩
 obtain ⟨g,rfl,cur,hcur⟩:=hgo;refine ⟨g,cap,e,by rw [← hcl];exact hc1,⟨cur,hcur⟩,fun i x hx => ?_⟩;rw [← hl,List.getElem?_map] at hx;obtain ⟨p,hp,rfl⟩:=Option.map_eq_some_iff.1 hx;have hrow:(cs.map fun p=>rC p.1 p.2)[i]? = some (rC p.1 p.2):=by rw [List.getElem?_map,hp];rfl
 have cell:∀ (j:Nat) (u:Value),(rC p.1 p.2)[j]? = some u→w.cell? ⟨g,i * 260+j,none⟩=some u:=fun j u hj=>by
  obtain ⟨b,off,e2,_,hh⟩:=hc _ _ (flat_get h60 hrow hj);obtain ⟨rfl,rfl,_⟩:=Addr.mk.inj (Option.some.inj e2)
  simpa using hh
 refine ⟨cell 1 _ rfl,fun t u ht => ?_⟩;have h2:=cell (4+t) u (by
  show (_ :: _ :: _ :: _ :: bV p.1.x)[4+t]? = some u
  rw [show 4+t=t+1+1+1+1 by omega]
  simpa using ht)
 rw [show i * 260+4+t=i * 260+(4+t) by omega];exact h2
theorem unp1 (bs:List UInt8):unpack [52] bs=if bs.length<4 then none else some ([num (sum (bs.take 4))],4):=by
 have hw:wid 52=4:=by decide
 by_cases h:bs.length<4 <;> simp [unpack,lift,hw,h]
theorem unp3 (bs:List UInt8):unpack [52,52,52] bs=if bs.length<12 then none else some ([num (sum (bs.take 4)),num (sum ((bs.drop 4).take 4)),num (sum ((bs.drop 8).take 4))],12):=by
 have hw:wid 52=4:=by decide
 by_cases h:bs.length<12
 ·rw [if_pos h]
  by_cases h1:bs.length<4
  ·simp [unpack,lift,hw,h1]
  ·by_cases h2:bs.length - 4<4
   ·simp [unpack,lift,hw,h1,h2]
   ·have h3:bs.length - (4+4)<4:=by omega
    have h4:bs.length - 8<4:=by omega
    simp [unpack,lift,hw,h1,h2,h3,h4]
 ·rw [if_neg h]
  have h1 : ¬ bs.length<4:=by omega
  have h2 : ¬ bs.length - 4<4:=by omega
  have h4 : ¬ bs.length - 8<4:=by omega
  simp [unpack,lift,hw,h1,h2,h4]
theorem unpx (bs:List UInt8):unpack [52,35] bs=if bs.length<260 then none else some ([num (sum (bs.take 4)),blk ((bs.drop 4).take 256)],260):=by
 have hw:wid 52=4:=by decide
 have hx:wid 35=256:=by decide
 by_cases h:bs.length<260
 ·rw [if_pos h]
  by_cases h1:bs.length<4
  ·simp [unpack,lift,hw,hx,h1]
  ·have h2:bs.length - 4<256:=by omega
   simp [unpack,lift,hw,hx,h1,h2]
 ·rw [if_neg h]
  have h1 : ¬ bs.length<4:=by omega
  have h2 : ¬ bs.length - 4<256:=by omega
  simp [unpack,lift,hw,hx,h1,h2]
def RUn (w:World) (k at_:Nat) (l:Option (List V)) (e:Ending) (w':World):Prop :=
 Below w.heap.size w w'∧((l=none∧e = .returned (.tuple #[.slice none 0 0,.int .i64 0,.int .i64 4])) ∨
  ∃ g cap l',l=some l'∧k≤cap∧e = .returned (.tuple #[.slice (some ⟨g,0,none⟩) k cap,.int .i64 (at_:Int),.int .i64 0])∧(∃ cur,w'.heap[g]? = some (.cells cur 128 (0,0)))∧∀ (i:Nat) (x:V),l'[i]? = some x→w'.cell? ⟨g,i * 260+1,none⟩=some (.int .u64 (x.n:Int))∧w'.rangeAt g (i * 260+4) (bV x.x))
theorem run_of {w0 w:World} {v:Value} {m k at_:Nat} {bs:List UInt8} {s:ByteArray} {o:Option (List V)} (hrd:Rd w0 1 v m (bV bs)) (hb:Below w0.heap.size w0 w) (hm:m≤20000) (hs:s.size≤40) (hy:may (chs s)=true) (hk:0<k)
  (ho:unpack (chs s) bs=o.map (fun l=>(l,at_))) (hl:∀ l,o=some l→l.length=k) :
  Calls Tryz.prog 65 #[.string s,v] w (RUn w k at_ o) :=
 (runpack_any s hrd hb hm hs).mono fun e w' hP=>by
  rw [hy,ho] at hP;refine ⟨hP.1,?_⟩;have h2:=hP.2;rw [if_pos rfl] at h2
  cases o with
  | none=>exact .inl ⟨rfl,h2⟩
  | some l =>
   obtain ⟨v',cs,he,hr,hc⟩:=h2;obtain ⟨g,cap,rfl,h3,h4,h5⟩:=rvrow_at hr hc (hl l rfl) hk;exact .inr ⟨g,cap,l,rfl,h3,he,h4,h5⟩
theorem run1 {w0 w:World} {v:Value} {m:Nat} {bs:List UInt8} (hrd:Rd w0 1 v m (bV bs)) (hb:Below w0.heap.size w0 w) (hm:m≤20000) :
  Calls Tryz.prog 65 #[.string ⟨#[52]⟩,v] w (RUn w 1 4 (if bs.length<4 then none else some [num (sum (bs.take 4))])) :=
 run_of hrd hb hm (by decide) (by decide) (by omega) (by show unpack [52] bs=_;rw [unp1];split <;> rfl) (fun l h=>by split at h <;> simp at h;subst h;rfl)
theorem run3 {w0 w:World} {v:Value} {m:Nat} {bs:List UInt8} (hrd:Rd w0 1 v m (bV bs)) (hb:Below w0.heap.size w0 w) (hm:m≤20000) :
  Calls Tryz.prog 65 #[.string ⟨#[52,52,52]⟩,v] w (RUn w 3 12 (if bs.length<12 then none else some [num (sum (bs.take 4)),num (sum ((bs.drop 4).take 4)),num (sum ((bs.drop 8).take 4))])) :=
 run_of hrd hb hm (by decide) (by decide) (by omega) (by show unpack [52,52,52] bs=_;rw [unp3];split <;> rfl) (fun l h=>by split at h <;> simp at h;subst h;rfl)
theorem runx {w0 w:World} {v:Value} {m:Nat} {bs:List UInt8} (hrd:Rd w0 1 v m (bV bs)) (hb:Below w0.heap.size w0 w) (hm:m≤20000) :
  Calls Tryz.prog 65 #[.string ⟨#[52,35]⟩,v] w (RUn w 2 260 (if bs.length<260 then none else some [num (sum (bs.take 4)),blk ((bs.drop 4).take 256)])) :=
 run_of hrd hb hm (by decide) (by decide) (by omega) (by show unpack [52,35] bs=_;rw [unpx];split <;> rfl) (fun l h=>by split at h <;> simp at h;subst h;rfl)
end Go.Proofs.YthkmihedkddnmaaGreat
namespace Go.Proofs.YthkmihedkddnmaaGreat
open Lib (hid)
open Go.RowKit Go.Maps Wire Cmd
structure OInv (n j:Nat) (b0:List UInt8) (l:List (Nat × Vl)) (last:Nat) (r:List UInt8):Prop where
 le:∀ p∈l,p.1≤last
 bd:last<4294967296
 len:l.length=j
 eq:ofVols n 0 b0=(ofVols (n - j) last r).map fun s=>(l ++ s.1,s.2)
theorem OInv.start (n:Nat) (b0:List UInt8):OInv n 0 b0 [] 0 b0:=⟨fun p hp=>(by cases hp),by omega,rfl,by simp⟩
theorem OInv.no {n j last:Nat} {b0 r:List UInt8} {l:List (Nat × Vl)} (h:OInv n j b0 l last r) (hj:j<n) (hf:ofVol r=none∨∃ s,ofVol r=some s∧s.1.1≤last):ofVols n 0 b0=none:=by
 rw [h.eq,show n - j=(n - j - 1)+1 by omega,ofVols]
 rcases hf with hf | ⟨s,hs,hle⟩
 ·rw [hf];rfl
 ·rw [hs]
  simp only [Option.bind_some];rw [if_pos hle]
  rfl
theorem OInv.fin {n last:Nat} {b0 r:List UInt8} {l:List (Nat × Vl)} (h:OInv n n b0 l last r):ofVols n 0 b0=some (l,r):=by
 rw [h.eq,Nat.sub_self,ofVols]
 simp
theorem OInv.next {n j last:Nat} {b0 r:List UInt8} {l:List (Nat × Vl)} {s:(Nat × Vl) × List UInt8} (h:OInv n j b0 l last r) (hj:j<n) (hs:ofVol r=some s) (hf:last<s.1.1):OInv n (j+1) b0 (l ++ [s.1]) s.1.1 s.2:=by
 refine ⟨fun p hp => ?_,(vol_of hs).2.2,by rw [List.length_append,h.len];rfl,?_⟩
 ·rcases List.mem_append.1 hp with hp | hp
  ·have:=h.le p hp
   omega
  ·rw [List.mem_singleton.1 hp]
   exact Nat.le_refl _
 ·rw [h.eq,show n - j=(n - (j+1))+1 by omega,ofVols,hs]
  simp only [Option.bind_some];rw [if_neg (by omega),Option.map_map]
  congr 1
  funext z
  simp
theorem ofD_eq {bs:List UInt8} {n:Nat} (h:4≤bs.length) (hn:sum (bs.take 4)=n):ofD bs=(ofVols n 0 (bs.drop 4)).bind fun r=>if r.2=[] then some r.1 else none:=by
 unfold ofD;rw [if_neg (by omega),hn]
def OfDP (w:World) (bs:List UInt8) (e:Ending) (w':World):Prop :=
 Below w.heap.size w w'∧((ofD bs=none∧e = .returned (.tuple #[.pointer none,.int .i64 4])) ∨
  ∃ l B Ba,ofD bs=some (strip l)∧e = .returned (.tuple #[.pointer (some ⟨B,0,none⟩),.int .i64 0])∧DevAt w.heap.size w' B Ba l)
def OfR (w:World) (m n:Nat) (bs:List UInt8) (B Ba:Nat) (j:Nat) (v0 v5 v7:Value) (wr:World):Prop :=
 Below w.heap.size w wr∧((v5 = .bool true∧∃ l lst r,v7 = .int .u64 ((lst:Nat):Int)∧Rd w 1 v0 r.length (bV r)∧r.length≤m∧DevAt w.heap.size wr B Ba l∧OInv n j (bs.drop 4) (strip l) lst r)∨(v5 = .bool false∧ofD bs=none))
theorem dof_any (w:World) (v:Value) (m:Nat) (bs:List UInt8) (hrd:Rd w 1 v m (bV bs)) (hm:m≤100000000) :
  Calls Tryz.prog 30 #[v] w fun e w'=>OfDP w bs e w':=by
 have HRD:=hid hrd;have HLB:Hid (bs.length=m):=hid (by obtain ⟨_,_,_,hl,_⟩:=hrd;simpa [bV_len] using hl);have CN:=dnum_any 1 (by omega) w w (Below.refl _ _) v m bs hrd hm;obtain ⟨av,cv,rfl,hcv1,hcv2⟩:=rd_slice' hrd;unfold maxLen at hcv2;clear hrd;change Calls _ _ #[_,.int .i64 1] _ _ at CN
 go_enter Tryz.func30,Tryz.ntmps30
 go_wp2_with fail;refine CN.mono ?_;rintro e w1 ⟨hb1,hcase⟩;have HB1:=hid hb1;have CW:=dnew_any w.heap.size w1 hb1.size;clear CN hb1
 rcases hcase with ⟨hm3,rfl⟩ | ⟨hm3,vl,vr,rfl,hrow,hvr⟩
 ·have HNO:Hid (ofD bs=none):=hid (by unfold ofD;rw [if_pos (by rw [HLB.out];omega)])
  dsimp only;clear hm3;go_wp2_with fail;refine CW.mono ?_;rintro e w2 ⟨B,Ba,rfl,_,hb2,_,_⟩;have HB2:=hid (bthen HB1.out hb2);clear CW hb2;go_wp2_with fail
  go_loopw [5,8] (fun v5 i wr=>v5 = .bool false∧i = .int .i64 0∧wr=w2) (fun _ _ _=>0)
  case atStart=>exact ⟨rfl,rfl,rfl⟩
  case round =>
   obtain ⟨rfl,rfl,rfl⟩:=hrel;go_wp2_with fail
   go_ret2
   exact ⟨HB2.out,.inl ⟨HNO.out,rfl⟩⟩
 ·dsimp only
  obtain ⟨n0,hn0⟩:∃ x,sum (bs.take 4)=x:=⟨_,rfl⟩
  have hnv:numV bs 1=[.int .i64 (n0:Int)]:=by rw [← hn0];rfl
  have hb0:n0<4294967296:=by rw [← hn0];exact sum4_lt _
  have HN0:=hid hn0;rw [hnv] at hrow;obtain ⟨gl,cl,curl,rfl,_,hglh,g0,hcl,_⟩:=row_cell hrow (i:=0) (x:=.int .i64 (n0:Int)) rfl;have HGL:=hid hglh;have HG0:=hid g0;have HVR:=hid hvr;have HM4:Hid (4≤m):=hid (by omega);have HOD:Hid (ofD bs=(ofVols n0 0 (bs.drop 4)).bind fun r=>if r.2=[] then some r.1 else none):=hid (ofD_eq (by rw [HLB.out];exact HM4.out) HN0.out);have HLR:Hid ((bs.drop 4).length=m - 4 * 1):=hid (by rw [List.length_drop,HLB.out]);clear hn0 hnv hrow hglh g0 hvr hm3;go_wp2_with fail;refine CW.mono ?_
  rintro e w2 ⟨B,Ba,rfl,hd2,hb2,hB1,hBa1⟩;have HB2:=hid (bthen HB1.out hb2);have HD2:=hid hd2;have HGLX:Hid (∀ X,Below w1.heap.size w1 X→X.cell? ⟨gl,0,none⟩=some (.int .i64 (n0:Int))):=hid (fun X hX=>cellOf ((hX.block gl (hLT HGL.out)).trans HGL.out) 0 HG0.out);have HB12:=hid hb2;have HBG:Hid (w1.heap.size≤B∧w1.heap.size≤Ba):=hid ⟨hB1,hBa1⟩;clear CW hd2 hb2 hB1 hBa1;go_wp2_with fail
  go_loopw [0,5,7,8] (fun v0 v5 v7 i wr=>∃ j:Nat,j≤n0∧i = .int .i64 (j:Int)∧Below w1.heap.size w1 wr∧OfR w m n0 bs B Ba j v0 v5 v7 wr) (fun _ _ _ i _=>n0 - (Go.Proofs.intOf i).toNat)
  case atStart=>exact ⟨0,Nat.zero_le _,rfl,HB12.out,HB2.out,.inl ⟨rfl,[],0,bs.drop 4,rfl,by rw [HLR.out];exact HVR.out,by rw [HLR.out];omega,HD2.out,OInv.start _ _⟩⟩
  case round =>
   obtain ⟨j,hj,rfl,hb1w,hbw,hc⟩:=hrel;have HBW:=hid hbw;have HB1W:=hid hb1w;have cg:=HGLX.out _ hb1w;clear hbw hb1w
   rcases hc with ⟨rfl,l,lst,r,rfl,hrd0,hrl,hda,hinv⟩ | ⟨rfl,hno⟩
   ·have HDA:=hid hda
    have HINV:=hid hinv;have HRD0:=hid hrd0;obtain ⟨ao,cap,rfl,hc1,hc2⟩:=rd_slice' hrd0;have hlb:=hinv.bd;have HRL:=hid hrl;clear hrd0 hda hinv
    by_cases hlt:j<n0
    ·have q0:decide (j<n0)=true:=decide_eq_true hlt
     obtain ⟨w3,hw3⟩:∃ y,wr.alloc (.cells #[.int .i64 0,.map none] 84)=y:=⟨_,rfl⟩
     have hb3:Below wr.heap.size wr w3:=by rw [← hw3];exact balloc (Below.refl _ _) _
     have HX3:Hid (w3.heap[wr.heap.size]? = some (.cells #[.int .i64 0,.map none] 84 (0,0))):=hid (by rw [← hw3];exact heap_alloc_new _ _);have HB3:=hid (bthen HBW.out hb3);have CV:=dvolOf_any w w3 HB3.out _ r.length r HRD0.out (by omega);have HB13:=hid (bthen HB1W.out hb3);have HBR3:=hid hb3;clear hb3;go_wp2_with fail
     (try rw [hw3])
     clear hw3 q0 cg;refine CV.mono ?_;rintro e w4 ⟨hb4,hcase4⟩;have HB4:=hid (bthen HB3.out hb4);have HB14:=hid (bthen HB13.out hb4);have HBR4:=hid (bthen HBR3.out hb4);have HX4:=hid ((hb4.block _ (hLT HX3.out)).trans HX3.out);have HS34:=hid hb4.size;have HXB:Hid (w1.heap.size≤wr.heap.size∧w.heap.size≤wr.heap.size∧wr.heap.size<w3.heap.size):=hid ⟨HB1W.out.size,HBW.out.size,(hLT HX3.out)⟩;obtain ⟨bx,hbx⟩:∃ b,wr.heap.size=b:=⟨_,rfl⟩
     have HBXE:=hid hbx;rw [hbx] at HX4 HXB ⊢;have c0:=cellOf HX4.out 0 (v:=.int .i64 0) rfl;have c1:=cellOf HX4.out 1 (v:=.map none) rfl;have f0:=frozenOf HX4.out 0;have f1:=frozenOf HX4.out 1;clear CV hb4 hbx
     rcases hcase4 with ⟨hvn,qa,qb,rfl⟩ | ⟨s,blk,vr2,hs,rfl,hml,hblk,hr2⟩
     ·have HNO:Hid (ofD bs=none):=hid (by rw [HOD.out,HINV.out.no hlt (.inl hvn)];rfl)
      dsimp only;clear hvn;go_wp2_with fail;obtain ⟨hx5,hm5⟩:=set2 (x:=.int .i64 qa) (y:=.map qb) HX4.out;have HFB:Hid (Below w1.heap.size w1 ((w4.setCell ⟨bx,0,none⟩ (.int .i64 qa)).setCell ⟨bx,1,none⟩ (.map qb))∧Below w.heap.size w ((w4.setCell ⟨bx,0,none⟩ (.int .i64 qa)).setCell ⟨bx,1,none⟩ (.map qb))):=hid ⟨HB14.out.trans (hm5.below (fun k hk=>by rw [List.mem_singleton.1 hk];exact HXB.out.1) HB14.out.size),HB4.out.trans (hm5.below (fun k hk=>by rw [List.mem_singleton.1 hk];exact HXB.out.2.1) HB4.out.size)⟩;clear c0 c1 f0 f1 hx5 hm5;go_roundw
      case rel=>exact ⟨j+1,by omega,by go_num,HFB.out.1,HFB.out.2,.inr ⟨rfl,HNO.out⟩⟩
      case measure=>simp [Go.Proofs.intOf];omega
     ·dsimp only
      obtain ⟨⟨nn,vl⟩,r2⟩:=s;dsimp only at hml hr2;have HVO:=hid (vol_of hs);have hnb:nn<4294967296:=HVO.out.2.2;have HSV:=hid hs;have HR2:=hid hr2;have HMLB:=hid hml;have HBLK:=hid hblk;obtain ⟨sz,hsz⟩:∃ x,vl.size=x:=⟨_,rfl⟩
      have HSZ:=hid hsz;rw [hsz];obtain ⟨hx5,hm5⟩:=set2 (x:=.int .i64 (sz:Int)) (y:=.map (some blk)) HX4.out;have HX5:=hid hx5;have HM5:=hid hm5;obtain ⟨av2,cv2,rfl,_,_⟩:=rd_slice' hr2;have HRL2:Hid (r2.length≤m):=hid (by
       have h1:(volB (nn,vl) ++ r2).length=r.length:=congrArg List.length HVO.out.2.1;rw [List.length_append] at h1;have h2:=HRL.out
       omega)
      clear hml hblk hr2 hs hsz hx5 hm5
      by_cases hgt:lst<nn
      ·have q1:decide (lst<nn)=true:=decide_eq_true hgt
       have HGT:=hid hgt;clear hgt;go_wp2_with fail;clear c0 c1 f0 f1 q1;obtain ⟨w5,hw5⟩:∃ y,(w4.setCell ⟨bx,0,none⟩ (.int .i64 (sz:Int))).setCell ⟨bx,1,none⟩ (.map (some blk))=y:=⟨_,rfl⟩
       rw [hw5] at HX5 HM5 ⊢;clear hw5;have HDA5:Hid (DevAt w.heap.size w5 B Ba l):=hid ((HDA.out.below HBR4.out).kept HM5.out (fun hh=>by have h1:=HDA.out.lt;rw [List.mem_singleton,← HBXE.out] at hh;omega) (fun k hk hh=>by have h1:=HDA.out.lt_all k hk;rw [List.mem_singleton,← HBXE.out] at hh;omega));have HMLB5:=hid (HMLB.out.mods HM5.out (fun hh=>by have h1:=HBLK.out;have h2:=HXB.out.2.2;rw [List.mem_singleton] at hh;omega))
       have HB5:Hid (Below w1.heap.size w1 w5∧Below w.heap.size w w5):=hid ⟨HB14.out.trans (HM5.out.below (fun k hk=>by rw [List.mem_singleton.1 hk];exact HXB.out.1) HB14.out.size),HB4.out.trans (HM5.out.below (fun k hk=>by rw [List.mem_singleton.1 hk];exact HXB.out.2.1) HB4.out.size)⟩
       have HNBa:Hid (B≠Ba∧bx≠Ba∧blk≠Ba):=hid ⟨HDA.out.B_ne,(fun hh=>by have h1:=HDA.out.lt_all Ba (List.mem_cons_self ..);rw [HBXE.out] at h1;omega),(fun hh=>by have h1:=HDA.out.lt_all Ba (List.mem_cons_self ..);have h2:=HBLK.out;have h3:=HXB.out.2.2;rw [HBXE.out] at h1;omega)⟩;have HBL5:Hid (B<w5.heap.size∧bx<w5.heap.size):=hid ⟨HDA5.out.lt,(hLT HX5.out)⟩
       have HSS:Hid (∀ X,Mods [Ba] w5 X→(X.cell? ⟨B,0,none⟩=some (.map (some Ba))∧X.cell? ⟨bx,0,none⟩=some (.int .i64 (sz:Int))∧X.cell? ⟨bx,1,none⟩=some (.map (some blk)))∧Mods [Ba] w5 X):=hid (fun X hb=>⟨⟨(World.cell?_of_block (hb.block _ (HBL5.out.1) ((fun hh=>HNBa.out.1 (by simpa using hh))))).trans (HDA5.out.cell),(World.cell?_of_block (hb.block _ (HBL5.out.2) ((fun hh=>HNBa.out.2.1 (by simpa using hh))))).trans (cellOf HX5.out 0 rfl),(World.cell?_of_block (hb.block _ (HBL5.out.2) ((fun hh=>HNBa.out.2.1 (by simpa using hh))))).trans (cellOf HX5.out 1 rfl)⟩,hb⟩)
       refine wp_region_held_drew (S:=fun X=>(X.cell? ⟨B,0,none⟩=some (.map (some Ba))∧X.cell? ⟨bx,0,none⟩=some (.int .i64 (sz:Int))∧X.cell? ⟨bx,1,none⟩=some (.map (some blk)))∧Mods [Ba] w5 X) (by kernel_rfl) (HSS.out _ (Mods.of_below (Below.refl _ _).drew)) (fun hHeld => ?_);have hbe:Below w5.heap.size w5 w5.drew:=(Below.refl _ _).drew;obtain ⟨wd,hwd⟩:∃ y,w5.drew=y:=⟨_,rfl⟩
       rw [hwd] at hHeld hbe ⊢;have HBE:=hid hbe;have HS0:Hid (w5.heap.size≤wd.heap.size):=hid HBE.out.size;clear hwd hbe;refine tkP 0 rfl ?_;refine tkP 4 rfl ?_;refine tkP 5 rfl ?_;refine tkP 6 rfl ?_;refine tkP 1 rfl ?_;refine tkP 2 rfl ?_;refine tkP 3 rfl ?_;refine rd1 7 rfl fun K hK => ?_;obtain ⟨v0,st,w11,o1,hme,hmo1,ho1,hnext⟩:=(HDA5.out.below HBE.out).all.entry undU64 undAll zeroVol HDA.out.short (n:=nn) (wfU (by omega));simp only [gE1,gE2,gE3];go_simp;refine hK.out _ _ ?_ (fun hHeld => ?_)
       ·exact HSS.out _ ((Mods.of_below HBE.out).trans hmo1 (fun i hi=>.inl hi))
       clear hK K;try simp only [Act.put,pE1,pE2,pE3]
       obtain ⟨w13,hes,hml13,hmo13⟩:=hnext w11 (.agg #[.int .i64 (sz:Int),.map (some blk)]) (vl,blk) _ ho1 (by rw [← HSZ.out];exact RVol_mk _ _);have HES:=hid hes;have HML13:=hid hml13;have HMD13:Hid (Mods [Ba] wd w13):=hid (hmo1.trans hmo13 (fun i hi=>.inl hi));have HM13:Hid (Mods [Ba] w5 w13):=hid ((Mods.of_below HBE.out).trans HMD13.out (fun i hi=>.inl hi));have HDAD:=hid (HDA5.out.below HBE.out);have HMLBD:=hid (HMLB5.out.below HBE.out);clear hme hmo1 ho1 hnext hes hml13 hmo13;refine tkP 8 rfl ?_;refine rd1 9 rfl fun K hK => ?_;have hes:=HES.out
       simp only [gE1,gE2,gE3];go_simp;refine hK.out _ _ ?_ (fun hHeld => ?_)
       ·exact HSS.out _ HM13.out
       clear hK K;try simp only [Act.put,pE1,pE2,pE3]
       clear hes;refine tkP 10 rfl ?_;refine wpAnyH_done (by kernel_rfl) ?_ _;have HEND:=hid hHeld.2;have HSE:=hid hHeld.1;clear hHeld;clear HSE HSS HEND;have HSP:Hid (strip (putA nn (vl,blk) l)=strip l ++ [(nn,vl)]):=hid (by
        have h1:strip (putA nn (vl,blk) l)=putA nn vl (strip l):=(putA_map (fun x:Vl × Nat=>x.1) nn (vl,blk) l).symm;rw [h1];exact putA_end (fun q hq=>by have h2:=HINV.out.le q hq;have h3:=HGT.out;omega))
       have HNX:Hid (OInv n0 (j+1) (bs.drop 4) (strip (putA nn (vl,blk) l)) nn r2):=hid (by
        have h1:=HINV.out.next hlt HSV.out HGT.out;rw [HSP.out];exact h1)
       have HD13:Hid (DevAt w.heap.size w13 B Ba (putA nn (vl,blk) l)):=hid (HDAD.out.putAt (n:=nn) (v:=vl) (b:=blk) HML13.out (HMLBD.out.mods HMD13.out (fun hh=>HNBa.out.2.2 (by simpa using hh))) HMD13.out (by have:=HGT.out;omega) HVO.out.1 (by have h1:=HBLK.out;have h2:=HXB.out.2;omega) HNBa.out.2.2 (fun p hp e=>by
        have h1:=HDA.out.lt_all p.2.2 (List.mem_cons_of_mem _ (List.mem_map.2 ⟨p,hp,rfl⟩));have h2:=HBLK.out;have h3:=HXB.out.2.2;rw [HBXE.out] at h1
        omega))
       have HFB:Hid (Below w1.heap.size w1 w13∧Below w.heap.size w w13):=hid ⟨HB5.out.1.trans (HM13.out.below (fun k hk=>by rw [List.mem_singleton.1 hk];exact HBG.out.2) HB5.out.1.size),HB5.out.2.trans (HM13.out.below (fun k hk=>by rw [List.mem_singleton.1 hk];exact HDA.out.ge.2.1) HB5.out.2.size)⟩;go_wp2_with fail;go_roundw
       case rel=>exact ⟨j+1,by omega,by go_num,HFB.out.1,HFB.out.2,.inl ⟨rfl,_,nn,r2,rfl,HR2.out,HRL2.out,HD13.out,HNX.out⟩⟩
       case measure=>simp [Go.Proofs.intOf];omega
      ·have q1:decide (lst<nn)=false:=decide_eq_false hgt
       have HNO:Hid (ofD bs=none):=hid (by rw [HOD.out,HINV.out.no hlt (.inr ⟨_,HSV.out,Nat.le_of_not_lt hgt⟩)];rfl);clear hgt;go_wp2_with fail;clear c0 c1 f0 f1 q1;obtain ⟨w5,hw5⟩:∃ y,(w4.setCell ⟨bx,0,none⟩ (.int .i64 (sz:Int))).setCell ⟨bx,1,none⟩ (.map (some blk))=y:=⟨_,rfl⟩
       rw [hw5] at HX5 HM5 ⊢;clear hw5;have HDA5:Hid (DevAt w.heap.size w5 B Ba l):=hid ((HDA.out.below HBR4.out).kept HM5.out (fun hh=>by have h1:=HDA.out.lt;rw [List.mem_singleton,← HBXE.out] at hh;omega) (fun k hk hh=>by have h1:=HDA.out.lt_all k hk;rw [List.mem_singleton,← HBXE.out] at hh;omega));have HMLB5:=hid (HMLB.out.mods HM5.out (fun hh=>by have h1:=HBLK.out;have h2:=HXB.out.2.2;rw [List.mem_singleton] at hh;omega))
       have HB5:Hid (Below w1.heap.size w1 w5∧Below w.heap.size w w5):=hid ⟨HB14.out.trans (HM5.out.below (fun k hk=>by rw [List.mem_singleton.1 hk];exact HXB.out.1) HB14.out.size),HB4.out.trans (HM5.out.below (fun k hk=>by rw [List.mem_singleton.1 hk];exact HXB.out.2.1) HB4.out.size)⟩
       have HNBa:Hid (B≠Ba∧bx≠Ba∧blk≠Ba):=hid ⟨HDA.out.B_ne,(fun hh=>by have h1:=HDA.out.lt_all Ba (List.mem_cons_self ..);rw [HBXE.out] at h1;omega),(fun hh=>by have h1:=HDA.out.lt_all Ba (List.mem_cons_self ..);have h2:=HBLK.out;have h3:=HXB.out.2.2;rw [HBXE.out] at h1;omega)⟩;have HBL5:Hid (B<w5.heap.size∧bx<w5.heap.size):=hid ⟨HDA5.out.lt,(hLT HX5.out)⟩
       have HSS:Hid (∀ X,Mods [Ba] w5 X→(X.cell? ⟨B,0,none⟩=some (.map (some Ba))∧X.cell? ⟨bx,0,none⟩=some (.int .i64 (sz:Int))∧X.cell? ⟨bx,1,none⟩=some (.map (some blk)))∧Mods [Ba] w5 X):=hid (fun X hb=>⟨⟨(World.cell?_of_block (hb.block _ (HBL5.out.1) ((fun hh=>HNBa.out.1 (by simpa using hh))))).trans (HDA5.out.cell),(World.cell?_of_block (hb.block _ (HBL5.out.2) ((fun hh=>HNBa.out.2.1 (by simpa using hh))))).trans (cellOf HX5.out 0 rfl),(World.cell?_of_block (hb.block _ (HBL5.out.2) ((fun hh=>HNBa.out.2.1 (by simpa using hh))))).trans (cellOf HX5.out 1 rfl)⟩,hb⟩)
       refine wp_region_held_drew (S:=fun X=>(X.cell? ⟨B,0,none⟩=some (.map (some Ba))∧X.cell? ⟨bx,0,none⟩=some (.int .i64 (sz:Int))∧X.cell? ⟨bx,1,none⟩=some (.map (some blk)))∧Mods [Ba] w5 X) (by kernel_rfl) (HSS.out _ (Mods.of_below (Below.refl _ _).drew)) (fun hHeld => ?_);have hbe:Below w5.heap.size w5 w5.drew:=(Below.refl _ _).drew;obtain ⟨wd,hwd⟩:∃ y,w5.drew=y:=⟨_,rfl⟩
       rw [hwd] at hHeld hbe ⊢;have HBE:=hid hbe;have HS0:Hid (w5.heap.size≤wd.heap.size):=hid HBE.out.size;clear hwd hbe;refine tkP 0 rfl ?_;refine tkP 4 rfl ?_;refine tkP 5 rfl ?_;refine tkP 6 rfl ?_;refine tkP 1 rfl ?_;refine tkP 2 rfl ?_;refine tkP 3 rfl ?_;refine rd1 7 rfl fun K hK => ?_;obtain ⟨v0,st,w11,o1,hme,hmo1,ho1,hnext⟩:=(HDA5.out.below HBE.out).all.entry undU64 undAll zeroVol HDA.out.short (n:=nn) (wfU (by omega));simp only [gE1,gE2,gE3];go_simp;refine hK.out _ _ ?_ (fun hHeld => ?_)
       ·exact HSS.out _ ((Mods.of_below HBE.out).trans hmo1 (fun i hi=>.inl hi))
       clear hK K;try simp only [Act.put,pE1,pE2,pE3]
       obtain ⟨w13,hes,hml13,hmo13⟩:=hnext w11 (.agg #[.int .i64 (sz:Int),.map (some blk)]) (vl,blk) _ ho1 (by rw [← HSZ.out];exact RVol_mk _ _);have HES:=hid hes;have HML13:=hid hml13;have HMD13:Hid (Mods [Ba] wd w13):=hid (hmo1.trans hmo13 (fun i hi=>.inl hi));have HM13:Hid (Mods [Ba] w5 w13):=hid ((Mods.of_below HBE.out).trans HMD13.out (fun i hi=>.inl hi));have HDAD:=hid (HDA5.out.below HBE.out);have HMLBD:=hid (HMLB5.out.below HBE.out);clear hme hmo1 ho1 hnext hes hml13 hmo13;refine tkP 8 rfl ?_;refine rd1 9 rfl fun K hK => ?_;have hes:=HES.out
       simp only [gE1,gE2,gE3];go_simp;refine hK.out _ _ ?_ (fun hHeld => ?_)
       ·exact HSS.out _ HM13.out
       clear hK K;try simp only [Act.put,pE1,pE2,pE3]
       clear hes;refine tkP 10 rfl ?_;refine wpAnyH_done (by kernel_rfl) ?_ _;have HEND:=hid hHeld.2;have HSE:=hid hHeld.1;clear hHeld;clear HSE HSS HEND;have HFB:Hid (Below w1.heap.size w1 w13∧Below w.heap.size w w13):=hid ⟨HB5.out.1.trans (HM13.out.below (fun k hk=>by rw [List.mem_singleton.1 hk];exact HBG.out.2) HB5.out.1.size),HB5.out.2.trans (HM13.out.below (fun k hk=>by rw [List.mem_singleton.1 hk];exact HDA.out.ge.2.1) HB5.out.2.size)⟩;go_wp2_with fail;go_roundw
       case rel=>exact ⟨j+1,by omega,by go_num,HFB.out.1,HFB.out.2,.inr ⟨rfl,HNO.out⟩⟩
       case measure=>simp [Go.Proofs.intOf];omega
    ·obtain rfl:j=n0:=by omega
     have q0:decide (j<j)=false:=decide_eq_false (by omega)
     by_cases hr0:r=[]
     ·subst hr0
      have HYES:Hid (ofD bs=some (strip l)):=hid (by rw [HOD.out,HINV.out.fin];rfl);go_wp2_with fail
      go_ret2
      exact ⟨HBW.out,.inr ⟨l,B,Ba,HYES.out,rfl,HDA.out⟩⟩
     ·have HNO:Hid (ofD bs=none):=hid (by rw [HOD.out,HINV.out.fin];simp [hr0])
      have hrp:0<r.length:=List.length_pos_iff.2 hr0;have q1:decide (0<r.length)=true:=decide_eq_true hrp;have q2:decide ((0:Int)<(r.length:Int))=true:=decide_eq_true (by omega);clear hr0;go_wp2_with fail
      go_ret2
      exact ⟨HBW.out,.inl ⟨HNO.out,rfl⟩⟩
   ·have HNO:=hid hno
    clear hno;go_wp2_with fail
    go_ret2
    exact ⟨HBW.out,.inl ⟨HNO.out,rfl⟩⟩
end Go.Proofs.YthkmihedkddnmaaGreat
