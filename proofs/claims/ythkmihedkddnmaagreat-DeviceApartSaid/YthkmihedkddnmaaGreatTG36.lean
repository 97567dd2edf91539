import Derived.Test.YthkmihedkddnmaaGreatTG29
import Derived.Test.YthkmihedkddnmaaGreatTG19
import Derived.Test.YthkmihedkddnmaaGreatTG35
import Derived.Test.YthkmihedkddnmaaGreatTG6
import Derived.Test.YthkmihedkddnmaaGreatTG2
import Derived.Test.YthkmihedkddnmaaGreatTG24
import Derived.Test.YthkmihedkddnmaaGreatTG1
import Derived.Test.YthkmihedkddnmaaGreatTG3
import Derived.Test.YthkmihedkddnmaaGreatTG15
import Derived.Test.YthkmihedkddnmaaGreatTG9
import Derived.WideKeyEntry
set_option linter.unusedVariables false
set_option linter.unusedSimpArgs false
set_option maxHeartbeats 6400000
set_option maxRecDepth 100000
namespace Go.Proofs.YthkmihedkddnmaaGreat
open Go.RowKit Go.Maps Wire Cmd
theorem own_tagR {W:World} {B n size:Nat} {e:TypeId} {v:Value} {xs:List Value} (h:W.ownsRow B e size v n xs):∀ k∈ob v,∃ cs,W.heap[k]? = some (.cells cs e (0,0)):=by
 intro k hk
 rcases h.2 with ⟨rfl,_⟩ | ⟨g,cap,cur,rfl,_,hh,_⟩
 ·cases hk
 ·rw [ob_some] at hk
  rw [List.mem_singleton.1 hk];exact ⟨cur,hh⟩
theorem DevAt.isMap {n0:Nat} {w:World} {B Ba:Nat} {l:List (Nat × (Vl × Nat))} (h:DevAt n0 w B Ba l):∀ k∈dF Ba l,∃ es c,w.heap[k]? = some (.map es c):=by
 intro k hk
 rcases List.mem_cons.1 hk with rfl | hk
 ·obtain ⟨es,c,hb,_⟩:=h.all
  exact ⟨es,c,hb⟩
 ·obtain ⟨p,hp,rfl⟩:=List.mem_map.1 hk
  obtain ⟨es,c,hb,_⟩:=h.vol p hp;exact ⟨es,c,hb⟩
theorem DevAt.geF {n0:Nat} {w:World} {B Ba:Nat} {l:List (Nat × (Vl × Nat))} (h:DevAt n0 w B Ba l):∀ k∈dF Ba l,n0≤k:=by
 intro k hk
 rcases List.mem_cons.1 hk with rfl | hk
 ·exact h.ge.2.1
 ·obtain ⟨p,hp,rfl⟩:=List.mem_map.1 hk
  exact h.ge.2.2 p hp
theorem RDevAt.geF {n0:Nat} {w:World} {C:Nat} {sv:Value} {l:List (Nat × (Vl × Value))} (h:RDevAt n0 w C sv l):∀ k∈C :: ob sv,n0≤k:=by
 intro k hk
 rcases List.mem_cons.1 hk with rfl | hk
 ·exact h.ge
 ·exact ownsRow_ge h.row k hk
theorem RDevAt.isCells {n0:Nat} {w:World} {C:Nat} {sv:Value} {l:List (Nat × (Vl × Value))} (h:RDevAt n0 w C sv l):∀ k∈C :: ob sv,∃ cs t,w.heap[k]? = some (.cells cs t (0,0))∧(t=30∨t=58):=by
 intro k hk
 rcases List.mem_cons.1 hk with rfl | hk
 ·exact ⟨_,_,h.box,.inl rfl⟩
 ·obtain ⟨cs,hc⟩:=own_tagR h.row k hk
  exact ⟨cs,_,hc,.inr rfl⟩
theorem RDevAt.keptMap {n0:Nat} {w w':World} {C:Nat} {sv:Value} {l:List (Nat × (Vl × Value))} (h:RDevAt n0 w C sv l) {F:List Nat} (hm:Mods F w w') (hF:∀ k∈F,∃ es c,w.heap[k]? = some (.map es c)):RDevAt n0 w' C sv l:=by
 have no:∀ (k:Nat) (cs:Array Value) (t:TypeId) (f:Nat × Nat),w.heap[k]? = some (.cells cs t f)→k∉F:=fun k cs t f h1 h2=>by
  obtain ⟨es,c,h3⟩:=hF k h2;rw [h1] at h3
  cases h3
 refine ⟨(hm.block C h.lt (no _ _ _ _ h.box)).trans h.box,ownsRow_at h.row (fun j hj => ?_),fun p hp=>ownsRow_at (h.blk p hp) (fun j hj => ?_),h.ge⟩
 ·obtain ⟨cs,hc⟩:=own_tagR h.row j hj
  exact hm.block j (ownsRow_lt h.row j hj) (no _ _ _ _ hc)
 ·obtain ⟨cs,hc⟩:=own_tagR (h.blk p hp) j hj
  exact hm.block j (ownsRow_lt (h.blk p hp) j hj) (no _ _ _ _ hc)
theorem DevAt.keptCells {n0:Nat} {w w':World} {B Ba:Nat} {l:List (Nat × (Vl × Nat))} (h:DevAt n0 w B Ba l) {F:List Nat} (hm:Mods F w w') (hF:∀ k∈F,∃ cs t,w.heap[k]? = some (.cells cs t (0,0))∧(t=30∨t=58)):DevAt n0 w' B Ba l:=by
 refine h.kept hm (fun hB => ?_) (fun k hk hkF => ?_)
 ·obtain ⟨cs,t,h1,h2⟩:=hF B hB
  rw [h.box] at h1;obtain ⟨_,rfl,_⟩:=Obj.cells.inj (Option.some.inj h1)
  rcases h2 with h2 | h2 <;> exact absurd h2 (by decide)
 ·obtain ⟨cs,t,h1,_⟩:=hF k hkF
  obtain ⟨es,c,h3⟩:=h.isMap k hk;rw [h1] at h3
  cases h3
structure DuoD (n0:Nat) (w:World) (B Ba:Nat) (l:List (Nat × (Vl × Nat))) (C:Nat) (sv:Value) (lw:List (Nat × (Vl × Value))):Prop where
 a:DevAt n0 w B Ba l
 b:RDevAt n0 w C sv lw
 eq:mapA (·.1) lw=strip l
theorem DuoD.below {n0:Nat} {w w':World} {B Ba:Nat} {l:List (Nat × (Vl × Nat))} {C:Nat} {sv:Value} {lw:List (Nat × (Vl × Value))} (h:DuoD n0 w B Ba l C sv lw) (hb:Below w.heap.size w w'):DuoD n0 w' B Ba l C sv lw:=⟨h.a.below hb,h.b.below hb,h.eq⟩
theorem devS_len {l:List (Nat × Vl)} (h:DevOk l):(devS l).length≤1+515 * l.length:=by
 have e:∀ l:List (Nat × Vl),(∀ p∈l,p.2.Ok)→(volsS l).length≤515 * l.length:=by
  intro l
  induction l with
  | nil=>intro _;exact Nat.le_refl _
  | cons p l ih =>
   intro h;have h1:=ih (fun q hq=>h q (List.mem_cons_of_mem _ hq));have h2:=(h p (List.mem_cons_self ..)).len;have e1:volsS (p :: l)=volS p ++ volsS l:=rfl;rw [e1,List.length_append,List.length_cons];unfold volS;rw [List.length_append,blksS_len];simp only [List.length_cons,List.length_nil];omega
 have h1:=e l h.vol;unfold devS;rw [List.length_cons];omega
theorem spans_le {a c:Int} {size:Nat} (h:a+c≤4 * (size:Int)):(pSpansI a c).length≤size:=by
 unfold pSpansI
 split
 ·rename_i ho
  simp only [pOk,Bool.and_eq_true,decide_eq_true_eq] at ho;simp only [pSpans,List.length_map,List.length_range];unfold pM
  split <;> omega
 ·simp
theorem stepD_big {l:List (Nat × Vl)} (h:DevOk l) (o:Op0) (b:Int) (hb:1024≤b):stepD l o b=stepD l o 1024:=by
 unfold stepD
 by_cases h0:refD l o=0
 ·have hn : ¬ refD l o≠0:=by simp [h0]
  simp only [if_neg hn]
  by_cases k1:o.k=1
  ·simp only [if_pos k1]
  ·by_cases k2:o.k=2
   ·simp only [if_neg k1,if_pos k2]
   ·simp only [if_neg k1,if_neg k2]
    cases hg:getA o.vol l with
    | none=>rfl
    | some v =>
     dsimp only
     by_cases k5:o.k=5∨o.k=6
     ·have hr:=ref0_row h0 (by rcases k5 with k | k;exact .inl k;exact .inr (.inl k)) hg
      have hv:=(h.vol _ (getA_some hg)).size;have hl:=spans_le hr;dsimp only at hv;have e1:∀ b:Int,1024≤b→(pSpansI o.pl (rowC o)).take b.toNat=pSpansI o.pl (rowC o):=fun b hb=>List.take_of_length_le (by omega);have e2:∀ b:Int,1024≤b→((pSpansI o.pl (rowC o)).length:Int)≤b:=fun b hb=>by omega
      simp only [e1 b hb,e1 1024 (by omega),if_pos (e2 b hb),if_pos (e2 1024 (by omega))]
     ·simp only [if_neg k5]
 ·simp only [if_pos (show refD l o≠0 from h0)]
theorem delA_le {α:Type} (k:Nat) (l:List (Nat × α)):(delA k l).length≤l.length:=by unfold delA;exact List.length_filter_le _ _
theorem putA_le {α:Type} (k:Nat) (a:α) (l:List (Nat × α)):(putA k a l).length≤l.length+1:=by
 unfold putA;rw [insA_len];have:=delA_le k l;omega
theorem stepD_len (l:List (Nat × Vl)) (o:Op0) (b:Int):(stepD l o b).2.length≤l.length+1:=by
 unfold stepD
 by_cases h0:refD l o=0
 ·rw [if_neg (show ¬ refD l o≠0 by simp [h0])]
  by_cases k1:o.k=1
  ·rw [if_pos k1];exact putA_le _ _ _
  ·by_cases k2:o.k=2
   ·rw [if_neg k1,if_pos k2];exact Nat.le_succ_of_le (delA_le _ _)
   ·rw [if_neg k1,if_neg k2]
    cases hg:getA o.vol l with
    | none=>exact Nat.le_succ _
    | some v =>
     dsimp only
     by_cases k3:o.k=3
     ·rw [if_pos k3];exact putA_le _ _ _
     ·rw [if_neg k3]
      by_cases k4:o.k=4
      ·rw [if_pos k4];exact putA_le _ _ _
      ·rw [if_neg k4]
       by_cases k5:o.k=5∨o.k=6
       ·rw [if_pos k5];exact putA_le _ _ _
       ·rw [if_neg k5]
        by_cases k7:o.k=7
        ·rw [if_pos k7];exact putA_le _ _ _
        ·rw [if_neg k7]
         by_cases k9:o.k=9
         ·rw [if_pos k9];exact Nat.le_succ _
         ·rw [if_neg k9];exact Nat.le_succ _
 ·rw [if_pos (show refD l o≠0 from h0)];exact Nat.le_succ _
end Go.Proofs.YthkmihedkddnmaaGreat
namespace Go.Proofs.YthkmihedkddnmaaGreat
open Go.RowKit Go.Maps Wire Cmd
theorem DevAt.tagged {n0:Nat} {w w':World} {B Ba k:Nat} {l:List (Nat × (Vl × Nat))} {cs:Array Value} {t:TypeId} (h:DevAt n0 w B Ba l) (hk:w.heap[k]? = some (.cells cs t (0,0))) (h1:t≠63) (hm:Mods [k] w w'):DevAt n0 w' B Ba l:=by
 refine h.kept hm (fun hB => ?_) (fun j hj hjF => ?_)
 ·rw [List.mem_singleton] at hB
  subst hB;rw [h.box] at hk;obtain ⟨_,rfl,_⟩:=Obj.cells.inj (Option.some.inj hk);exact h1 rfl
 ·rw [List.mem_singleton] at hjF
  subst hjF;obtain ⟨es,c,h3⟩:=h.isMap j hj;rw [hk] at h3
  cases h3
def PlMeet (w:World) (B Ba C:Nat) (k:Nat) (r:Ans0 × List (Nat × Vl)) (W:World) (b12 b13:Nat):Prop :=
 ∃ (a5:Option Addr) (c5:Nat) (a11:Option Addr) (c11:Nat) (l5:List (Nat × (Vl × Nat))) (sv:Value) (lw:List (Nat × (Vl × Value))),
  W.heap[b12]? = some (.cells #[.int .i64 r.1.code,.int .i64 r.1.done,.slice a5 r.1.data.length c5] 35 (0,0)) ∧
  W.heap[b13]? = some (.cells #[.int .i64 r.1.code,.int .i64 r.1.done,.slice a11 r.1.data.length c11] 35 (0,0)) ∧
  Rd W 1 (.slice a5 r.1.data.length c5) r.1.data.length (bV r.1.data)∧Rd W 1 (.slice a11 r.1.data.length c11) r.1.data.length (bV r.1.data) ∧
  DuoD w.heap.size W B Ba l5 C sv lw∧l5.length≤k∧Below w.heap.size w W
end Go.Proofs.YthkmihedkddnmaaGreat
namespace Go.Proofs.YthkmihedkddnmaaGreat
open Lib (hid)
open Go.RowKit Wire Cmd
theorem infoIntD:(Tryz.prog.info? 3).map (fun i=>(i.zero,i.size,i.bytes))=some (some (.int .i64 0),1,8):=by kernel_rfl
theorem rd_cell {X:World} {g:Nat} {t:TypeId} {x:Value} (h:X.heap[g]? = some (.cells #[x] t (0,0))):Rd X 1 (.slice (some ⟨g,0,none⟩) 1 1) 1 [x] :=
 ⟨_,1,rfl,rfl,by unfold maxLen;omega,⟨by simp,Nat.le_refl _,by unfold maxLen;omega⟩,fun j u hj=>⟨g,0,rfl,(hLT h),by
  match j with
  | 0=>obtain rfl:=Option.some.inj hj;exact cellOf h 0 rfl
  | j+1=>simp at hj⟩⟩
theorem rd_slice' {w:World} {size n:Nat} {v:Value} {xs:List Value} (h:Rd w size v n xs):∃ a c,v = .slice a n c∧n≤c∧c≤maxLen:=by
 obtain ⟨a,c,rfl,_,_,⟨_,h1,h2⟩,_⟩:=h;exact ⟨a,c,rfl,h1,h2⟩
theorem un4_no {w:World} {v:Value} {m:Nat} {bs:List UInt8} (hrd:Rd w 1 v m (bV bs)) (hm:m<4) :
  Calls Tryz.prog 86 #[.string ⟨#[52]⟩,v] w fun e w'=>e = .returned (.tuple #[.slice none 0 0,.int .i64 0,.int .i64 4])∧Below w.heap.size w w':=by
 have hl:bs.length=m:=by obtain ⟨_,_,_,hl,_⟩:=hrd;simpa [bV_len] using hl
 refine (unpack_any ⟨#[52]⟩ hrd (by omega) (by decide)).mono fun e w' hP => ?_;have hy:may (chs ⟨#[52]⟩)=true:=by decide
 have ho:unpack (chs ⟨#[52]⟩) bs=none:=by
  show unpack [52] bs=none
  have hw:wid 52=4:=by decide
  simp [unpack,lift,hw,hl,hm]
 rw [hy,ho] at hP;exact ⟨hP.2,hP.1⟩
theorem un4_yes {w:World} {v:Value} {m:Nat} {bs:List UInt8} (hrd:Rd w 1 v m (bV bs)) (hm:4≤m) (hb:m≤100000000) :
  Calls Tryz.prog 86 #[.string ⟨#[52]⟩,v] w fun e w'=>∃ g cap,e = .returned (.tuple #[.slice (some ⟨g,0,none⟩) 1 cap,.int .i64 4,.int .i64 0])∧w'.cell? ⟨g,0,none⟩=some (.iface 38 (.int .u64 (sum (bs.take 4):Int)))∧(∃ cur,w'.heap[g]? = some (.cells cur 20 (0,0)))∧1≤cap∧Below w.heap.size w w':=by
 have hl:bs.length=m:=by obtain ⟨_,_,_,hl,_⟩:=hrd;simpa [bV_len] using hl
 refine (unpack_any ⟨#[52]⟩ hrd hb (by decide)).mono fun e w' hP => ?_;have hy:may (chs ⟨#[52]⟩)=true:=by decide
 have ho:unpack (chs ⟨#[52]⟩) bs=some ([num (sum (bs.take 4))],4):=by
  show unpack [52] bs=_
  have hw:wid 52=4:=by decide
  have h4 : ¬ bs.length<4:=by omega
  simp [unpack,lift,hw,h4]
 rw [hy,ho] at hP;obtain ⟨h1,v',he,xs,hrow,hx⟩:=hP;obtain ⟨u,hu,ha⟩:=hx 0 _ rfl;obtain ⟨g,cap,cur,rfl,_,hg,hc,hcap,_⟩:=row_cell hrow hu;refine ⟨g,cap,he,?_,⟨_,hg⟩,hcap,h1⟩
 rcases ha with ⟨_,e,_⟩ | ⟨h,_⟩ | ⟨h,_⟩ | ⟨h,_⟩
 ·subst e;exact cellOf hg 0 hc
 ·have h2:(num 0).letter=63:=h
  exact absurd h2 (by decide)
 ·have h2:(num 0).letter=42:=h
  exact absurd h2 (by decide)
 ·have h2:(num 0).letter=35:=h
  exact absurd h2 (by decide)
def numV (bs:List UInt8) (k:Nat):List Value:=(List.range k).map fun j=>.int .i64 (sum ((bs.drop (4 * j)).take 4):Int)
theorem numV_succ (bs:List UInt8) (k:Nat):numV bs (k+1)=numV bs k ++ [.int .i64 (sum ((bs.drop (4 * k)).take 4):Int)]:=by unfold numV;rw [List.range_succ,List.map_append];rfl
def NumP (u w:World) (k m:Nat) (bs:List UInt8) (e:Ending) (w':World):Prop :=
 Below w.heap.size w w'∧((m<4 * k∧e = .returned (.tuple #[.slice none 0 0,.slice none 0 0,.bool false])) ∨
  (4 * k≤m∧∃ vl vr,e = .returned (.tuple #[vl,vr,.bool true])∧w'.ownsRow w.heap.size 3 1 vl k (numV bs k)∧Rd u 1 vr (m - 4 * k) (bV (bs.drop (4 * k)))))
theorem dnum_any (k:Nat) (hk:k≤3) (u w:World) (hu:Below u.heap.size u w) (v:Value) (m:Nat) (bs:List UInt8) (hrd:Rd u 1 v m (bV bs)) (hm:m≤100000000) :
  Calls Tryz.prog 63 #[v,.int .i64 (k:Int)] w fun e w'=>NumP u w k m bs e w':=by
 have HU:=hid hu;clear hu;have HRD:=hid hrd;have HLB:Hid (bs.length=m):=hid (by obtain ⟨_,_,_,hl,_⟩:=hrd;simpa [bV_len] using hl);obtain ⟨av,cv,rfl,hcv1,hcv2⟩:=rd_slice' hrd;unfold maxLen at hcv2;clear hrd
 go_enter Tryz.func63,Tryz.ntmps63
 go_wp2_with fail
 go_loopw [0,4,11] (fun v0 v4 i wr=>∃ j:Nat,j≤k∧i = .int .i64 (j:Int)∧4 * j≤m∧Rd u 1 v0 (m - 4 * j) (bV (bs.drop (4 * j)))∧wr.ownsRow w.heap.size 3 1 v4 j (numV bs j)∧Below w.heap.size w wr) (fun _ _ i _=>k - (Go.Proofs.intOf i).toNat)
 case atStart=>exact ⟨0,Nat.zero_le _,rfl,by omega,by simpa using HRD.out,by simpa [numV] using World.ownsRow_nil w w.heap.size _ _,Below.refl _ _⟩
 case round =>
  obtain ⟨j,hj,rfl,hjm,hr0,hrow,hbw⟩:=hrel;obtain ⟨ao,cap,rfl,hc1,hc2⟩:=rd_slice' hr0;unfold maxLen at hc2;obtain ⟨a4,c4,rfl⟩:=row_slice hrow;have HR0:=hid hr0;have HRW:=hid hrow;have HBW:=hid hbw;clear hr0 hrow hbw
  by_cases hlt:j<k
  ·have q0:decide (j<k)=true:=decide_eq_true hlt
   by_cases h4:m - 4 * j<4
   ·have CU:=un4_no (HR0.out.below (bthen HU.out HBW.out)) h4
    have HNO:Hid (m<4 * k):=hid (by omega);clear h4;go_wp2_with fail;refine CU.mono ?_;rintro e w2 ⟨rfl,hb2⟩;have HB2:=hid (bthen HBW.out hb2);clear CU hb2;go_wp2_with fail
    go_ret3
    exact ⟨HB2.out,.inl ⟨HNO.out,rfl⟩⟩
   ·have CU:=un4_yes (HR0.out.below (bthen HU.out HBW.out)) (by omega) (by omega)
    obtain ⟨nn,hnn⟩:∃ x,sum ((bs.drop (4 * j)).take 4)=x:=⟨_,rfl⟩
    have HNN:=hid hnn;rw [hnn] at CU;have hnb:nn<4294967296:=by rw [← hnn];exact sum4_lt _
    have HRT:Hid (Rd u 1 (.slice (cutA ao cap 4 1) (m - 4 * j - 4) (cap - 4)) (m - 4 * j - 4) (bV (bs.drop (4 * (j+1))))):=hid (by
     have h1:=HR0.out.mid (l:=4) (k:=m - 4 * j) (by omega) (Nat.le_refl _);rw [List.drop_drop,List.take_of_length_le (by rw [List.length_drop,HLB.out];omega),show 4 * j+4=4 * (j+1) from by omega] at h1;exact h1)
    have HM4:Hid (4 * (j+1)≤m):=hid (by omega);have HHC:Hid (4≤m - 4 * j∧m - 4 * j≤cap):=hid ⟨by omega,hc1⟩;have HSLC:Hid (∀ X,(Instr.slice 33 (.slice ao (m - 4 * j) cap) (some (.int .i64 4)) none none).run Tryz.prog X = .ok (.slice (cutA ao cap 4 1) (m - 4 * j - 4) (cap - 4)) X):=hid (fun X=>run_cutL X _ ao _ cap 1 undBytes szBytes 4 (by omega) (by have:=HHC.out.1;omega));clear h4 hnn;go_wp2_with fail;refine CU.mono ?_;rintro e w2 ⟨g,cg,rfl,hcg,⟨gcs,hgh⟩,hcg1,hb2⟩;dsimp only;have HB2:=hid (bthen HBW.out hb2);have HBX:=hid hb2;have HCG:=hid hcg
    have HGL:=hid (hLT hgh);have HGN:Hid (g∉ob (.slice a4 j c4)):=hid (ob_tag (ownsRow_below HRW.out hb2) hgh (by decide));have HR2:=hid (ownsRow_below HRW.out hb2);clear CU hb2 hcg hgh;go_wp2_with fail;have HSS:Hid (∀ X,Mods (ob (.slice a4 j c4)) w2 X→(X.cell? ⟨g,0,none⟩=some (.iface 38 (.int .u64 (nn:Int))))∧Mods (ob (.slice a4 j c4)) w2 X):=hid (fun X hb=>⟨(World.cell?_of_block (hb.block _ (HGL.out) (HGN.out))).trans (HCG.out),hb⟩)
    refine wp_region_held_drew (S:=fun X=>(X.cell? ⟨g,0,none⟩=some (.iface 38 (.int .u64 (nn:Int))))∧Mods (ob (.slice a4 j c4)) w2 X) (by kernel_rfl) (HSS.out _ (Mods.of_below (Below.refl _ _).drew)) (fun hHeld => ?_);have hbe:Below w2.heap.size w2 w2.drew:=(Below.refl _ _).drew;obtain ⟨wd,hwd⟩:∃ y,w2.drew=y:=⟨_,rfl⟩
    rw [hwd] at hHeld hbe ⊢;have HBE:=hid hbe;have HS0:Hid (w2.heap.size≤wd.heap.size):=hid HBE.out.size;clear hwd hbe;refine tkP 0 rfl ?_;refine tkP 1 rfl ?_;refine tkP 8 rfl ?_;refine tkP 9 rfl ?_;refine tkP 2 rfl ?_;refine tkQ 10 (.slice (cutA ao cap 4 1) (m - 4 * j - 4) (cap - 4)) rfl ?_ ?_
    ·(intro w hSw;simp only [gE1,gE2,gE3];(have h10:=HSLC.out w;go_simp;first | done | with_reducible rfl))
    refine tkP 3 rfl ?_;refine tkQ 4 (.int .u64 (nn:Int)) rfl ?_ ?_
    ·(intro w hSw;simp only [gE1,gE2,gE3];(have h4:=run_assert_one (P:=Tryz.prog) (t:=38) (xT:=20) Tryz.underlying38 rfl (.int .u64 (nn:Int)) w;go_simp;first | done | with_reducible rfl))
    refine tkQ 5 (.int .i64 (nn:Int)) rfl ?_ ?_
    ·(intro w hSw;simp only [gE1,gE2,gE3];(have hw64:IntKind.i64.wrap (nn:Int)=(nn:Int):=(IntWalk.i64_in _ (by omega));go_simp;first | done | with_reducible rfl))
    refine rd1 6 rfl fun K hK => ?_;simp only [gE1,gE2,gE3];go_simp;obtain ⟨b6,y6,hw6,hy6,hx6,HN6⟩:=al wd (.cells #[.int .i64 (nn:Int)] 3);rw [hy6,hw6];have HG6:Hid (w2.heap.size≤b6):=hid (by have:=HBE.out.size;omega);clear hy6 hw6;have HBE:=hid (bthen HBE.out hx6);clear hHeld;refine hK.out _ _ (HSS.out _ (Mods.of_below HBE.out)) fun hHeld => ?_;clear hK K;try simp only [Act.put,pE1,pE2,pE3]
    clear hx6;refine rd1 7 rfl fun K hK => ?_;simp only [gE1,gE2,gE3];rw [if_pos (by rfl)];refine wp_apps _ _ 44 rfl w.heap.size 3 _ 1 8 Tryz.underlying44 infoIntD rfl (by decide) (by decide) (.slice a4 j c4) j _ (by rfl) (ownsRow_below HR2.out HBE.out) _ 1 _ (by rfl) (rd_cell HN6.out) (by intro u hu;rw [List.mem_singleton.1 hu];rfl) (by omega) (Nat.le_trans HB2.out.size HBE.out.size) ?_;intro v7 w7 ho7 hb7 hg7 hs7 hn7;refine hK.out _ _ ?_ (fun hHeld => ?_)
    ·exact HSS.out _ ((Mods.of_below HBE.out).trans (Chg.of_grown hg7 hs7).1 (fun i hi=>.inl hi))
    clear hK K;try simp only [Act.put,pE1,pE2,pE3]
    have HB7:Hid (Below w.heap.size w w7):=hid ((bthen HB2.out HBE.out).trans hb7);have HO7:Hid (w7.ownsRow w.heap.size 3 1 v7 (j+1) (numV bs j ++ [.int .i64 (sum ((bs.drop (4 * j)).take 4):Int)])):=hid (by rw [HNN.out];exact ho7);refine tkP 11 rfl ?_;refine tkP 12 rfl ?_;refine wpAnyH_done (by kernel_rfl) ?_ _;have HEND:=hid hHeld.2;have HSE:=hid hHeld.1;clear hHeld;clear HSE HSS HEND
    have HFIN:Hid (Rd u 1 (.slice (cutA ao cap 4 1) (m - 4 * j - 4) (cap - 4)) (m - 4 * (j+1)) (bV (bs.drop (4 * (j+1))))∧w7.ownsRow w.heap.size 3 1 v7 (j+1) (numV bs (j+1))∧Below w.heap.size w w7):=hid (by
     have e:m - 4 * (j+1)=m - 4 * j - 4:=by omega
     refine ⟨?_,by rw [numV_succ];exact HO7.out,HB7.out⟩;rw [e];exact HRT.out)
    go_wp2_with fail;go_roundw
    case rel=>exact ⟨j+1,by omega,by go_num,HM4.out,HFIN.out.1,HFIN.out.2.1,HFIN.out.2.2⟩
    case measure=>simp [Go.Proofs.intOf];omega
  ·obtain rfl:j=k:=by omega
   have q0:decide (j<j)=false:=decide_eq_false (by omega);go_wp2_with fail
   go_ret3
   exact ⟨HBW.out,.inr ⟨hjm,_,_,rfl,HRW.out,HR0.out⟩⟩
end Go.Proofs.YthkmihedkddnmaaGreat
namespace Go.Proofs.YthkmihedkddnmaaGreat
open Go.RowKit Go.Maps Go.WideElems Go.ChangeMaps Go.ChangeShapes Go.WideShapes
section
variable {P:Program} {w:World} {t k e:TypeId} {b:Nat} {es:Array MapEntry} {clock:Nat}
theorem entry_new (K:Keyed P k) (ht:P.underlying t=some (.map k e)) {z:Value} (hz:∀ u:World,(zeroValue e).run P u = .ok z u) (hb:w.heap[b]? = some (.map es clock)) {key:Value} {kl:Lit} (hkey:keyOf P k key=some kl)
  (hf:(Instr.findKey k key es.toList).run P w = .ok none w) (hs:∀ x∈es.toList,x.born<clock) (hn:(es.toList.map (·.born)).Nodup) :
  (Instr.mapEntry t (.map (some b)) key).run P w = .ok (.tuple #[z,goInt clock]) (setBlock w b (.map (es.push ⟨key,z,clock⟩) (clock+1))) ∧
  ∀ (w2:World) (val:Value),w2.heap[b]? = some (.map (es.push ⟨key,z,clock⟩) (clock+1))→(Instr.entryStore t (.map (some b)) (goInt clock) val).run P w2 = .ok () (setBlock w2 b (.map (es.push ⟨key,val,clock⟩) (clock+1))) ∧
   (Instr.mapUpdate t (.map (some b)) key val).run P w = .ok () (setBlock w b (.map (es.push ⟨key,val,clock⟩) (clock+1))):=by
 have hidx:(es.push ⟨key,z,clock⟩).findIdx? (fun e=>((e.born:Nat):Int) == ((clock:Nat):Int))=some es.size:=by
  rw [findIdx_arr];refine findIdx_born (j:=es.size) (e0:=⟨key,z,clock⟩) ?_ (by simp);rw [Array.toList_push,List.map_append,List.nodup_append];refine ⟨hn,by simp,fun a ha c hc => ?_⟩;obtain ⟨x,hx,rfl⟩:=List.mem_map.1 ha;have h1:=hs x hx;have h2:c=clock:=by simpa using hc
  omega
 have hmod:∀ val,(es.push ⟨key,z,clock⟩).modify es.size (fun e=>{ e with val:=val })=es.push ⟨key,val,clock⟩:=fun val=>by
  apply Array.ext'
  rw [Array.toList_modify,Array.toList_push,Array.toList_push,← Array.length_toList,modify_last]
 refine ⟨?_,fun w2 val hw2=>⟨?_,?_⟩⟩
 ·simp [Instr.mapEntry,run_underlying ht,MapKept.run_getObj_map hb,K.check w false hkey,hf,hz,MapKept.run_setObj_map _ hb,Result.andThen,setBlock]
 ·simp [Instr.entryStore,MapKept.run_getObj_map hw2,asInt,asIntOf,goInt,hidx,hmod,MapKept.run_setObj_map _ hw2,Result.andThen,setBlock]
 ·simp [Instr.mapUpdate,run_underlying ht,MapKept.run_getObj_map hb,K.check w false hkey,hf,MapKept.run_setObj_map _ hb,Result.andThen,setBlock]
theorem entry_old (K:Keyed P k) (ht:P.underlying t=some (.map k e)) (hb:w.heap[b]? = some (.map es clock)) {key:Value} {kl:Lit} (hkey:keyOf P k key=some kl) {j:Nat} {x:MapEntry}
  (hf:(Instr.findKey k key es.toList).run P w = .ok (some (j,x.val)) w) (hj:es.toList[j]? = some x) (hx:x.key=key) (hn:(es.toList.map (·.born)).Nodup) :
  (Instr.mapEntry t (.map (some b)) key).run P w = .ok (.tuple #[x.val,goInt x.born]) (setBlock w b (.map es clock)) ∧
  ∀ (w2:World) (val:Value),w2.heap[b]? = some (.map es clock)→(Instr.entryStore t (.map (some b)) (goInt x.born) val).run P w2 = .ok () (setBlock w2 b (.map (es.modify j (fun e'=>{ e' with key:=key,val:=val })) clock)) ∧
   (Instr.mapUpdate t (.map (some b)) key val).run P w = .ok () (setBlock w b (.map (es.modify j (fun e'=>{ e' with key:=key,val:=val })) clock)):=by
 have hj2:es[j]? = some x:=by simpa using hj
 have hself:es.modify j (fun e=>{ e with key:=key })=es:=by
  apply Array.ext'
  rw [Array.toList_modify,modify_eq_set _ _ _ _ hj];have:({ x with key:=key }:MapEntry)=x:=by rw [← hx]
  rw [this,Go.WideElems.set_self _ _ _ hj]
 have hidx:es.findIdx? (fun e=>((e.born:Nat):Int) == ((x.born:Nat):Int))=some j:=by
  rw [findIdx_arr];exact findIdx_born hn hj
 have hmod:∀ val,es.modify j (fun e=>{ e with val:=val })=es.modify j (fun e'=>{ e' with key:=key,val:=val }):=fun val=>by
  apply Array.ext'
  rw [Array.toList_modify,Array.toList_modify,modify_eq_set _ _ _ _ hj,modify_eq_set _ _ _ _ hj,← hx]
 refine ⟨?_,fun w2 val hw2=>⟨?_,?_⟩⟩
 ·simp [Instr.mapEntry,run_underlying ht,MapKept.run_getObj_map hb,K.check w false hkey,hf,hj2,hx,K.stays w hkey,hself,MapKept.run_setObj_map _ hb,Result.andThen,setBlock]
 ·simp [Instr.entryStore,MapKept.run_getObj_map hw2,asInt,asIntOf,goInt,hidx,hmod,MapKept.run_setObj_map _ hw2,Result.andThen,setBlock]
 ·simp [Instr.mapUpdate,run_underlying ht,MapKept.run_getObj_map hb,K.check w false hkey,hf,hj2,hx,K.stays w hkey,MapKept.run_setObj_map _ hb,Result.andThen,setBlock]
end
theorem mods_setBlock {w:World} {b:Nat} {es:Array MapEntry} {clock:Nat} (hb:w.heap[b]? = some (.map es clock)) (o:Obj):Mods [b] w (setBlock w b o) :=
 ⟨rfl,rfl,rfl,by simp [setBlock],fun i hi hne=>heap_setBlock_other hb _ (fun e=>hne (by simp [e]))⟩
theorem setBlock_at {w w2:World} {b:Nat} {o o1:Obj} (h:w.heap[b]? = some o) (h2:w2.heap[b]? = some o1) (x:Obj):(setBlock w2 b x).heap[b]? = (setBlock w b x).heap[b]?:=by
 have h3:=(hLT h)
 have h4:=(hLT h2)
 simp [setBlock,h3,h4]
theorem MapL.entry {α:Type} {P:Program} {k:TypeId} {R:Value→Option (DataW Unit × List MemPlace)} {q:IntKind} {f:α→DataW Unit} {w:World} {b:Nat} {l:List (Nat × α)} (h:MapL w P k R q f b l) (hk:P.underlying k=some (.int q)) {t e:TypeId} (ht:P.underlying t=some (.map k e))
  {z:Value} (hz:∀ u:World,(zeroValue e).run P u = .ok z u) (hn:l.length<maxLen) {n:Nat} (hw:(Lit.int q (n:Int)).wf=true) :
  ∃ (v0:Value) (st:Nat) (w1:World) (o1:Obj),(Instr.mapEntry t (.map (some b)) (.int q (n:Int))).run P w = .ok (.tuple #[v0,.int .i64 (st:Int)]) w1∧Mods [b] w w1∧w1.heap[b]? = some o1 ∧
   ∀ (w2:World) (v:Value) (a:α) (ps:List MemPlace),w2.heap[b]? = some o1→R v=some (f a,ps) →
    ∃ w',(Instr.entryStore t (.map (some b)) (.int .i64 (st:Int)) v).run P w2 = .ok () w'∧MapL w' P k R q f b (putA n a l)∧Mods [b] w2 w':=by
 have hm:=h;obtain ⟨es,clock,hb,F,hs,hD⟩:=h;obtain ⟨s1,s2,_⟩:=F.stamped;have hkey:=keyL hk hw;have fin:∀ (w2:World) (o1 o':Obj) (v:Value) (a:α) (ps:List MemPlace),w2.heap[b]? = some o1→(∃ es' c',o1 = .map es' c')→R v=some (f a,ps)→(Instr.mapUpdate t (.map (some b)) (.int q (n:Int)) v).run P w = .ok () (setBlock w b o')→MapL (setBlock w2 b o') P k R q f b (putA n a l):=by
  intro w2 o1 o' v a ps h2 _ hv hu;obtain ⟨w',h3,h4,_⟩:=hm.put hk ht hn hw hv;rw [hu] at h3
  injection h3 with _ h5
  subst h5;exact h4.at_ (setBlock_at hb h2 o')
 rcases (int_keyed hk).find w hkey es.toList F.keys with ⟨h1,h2⟩ | ⟨j,x,h1,h2,h3⟩
 ·obtain ⟨e1,e2⟩:=entry_new (int_keyed hk) ht hz hb hkey h1 s1 s2
  refine ⟨z,clock,_,_,e1,mods_setBlock hb _,heap_setBlock_same hb _,fun w2 v a ps hw2 hv => ?_⟩;obtain ⟨e3,e4⟩:=e2 w2 v hw2;exact ⟨_,e3,fin w2 _ _ v a ps hw2 ⟨_,_,rfl⟩ hv e4,mods_setBlock hw2 _⟩
 ·obtain ⟨e1,e2⟩:=entry_old (int_keyed hk) ht hb hkey h1 h2 h3 s2
  refine ⟨x.val,x.born,_,_,e1,mods_setBlock hb _,heap_setBlock_same hb _,fun w2 v a ps hw2 hv => ?_⟩;obtain ⟨e3,e4⟩:=e2 w2 v hw2;exact ⟨_,e3,fin w2 _ _ v a ps hw2 ⟨_,_,rfl⟩ hv e4,mods_setBlock hw2 _⟩
end Go.Proofs.YthkmihedkddnmaaGreat
