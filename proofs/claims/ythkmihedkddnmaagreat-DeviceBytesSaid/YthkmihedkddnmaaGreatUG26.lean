import Derived.Test.YthkmihedkddnmaaGreatUG2
import Derived.Test.YthkmihedkddnmaaGreatUG6
import Derived.Test.YthkmihedkddnmaaGreatUG23
import Derived.Test.YthkmihedkddnmaaGreatUG24
import Derived.Test.YthkmihedkddnmaaGreatUG22
import Derived.Test.YthkmihedkddnmaaGreatUG25
import Derived.Test.YthkmihedkddnmaaGreatUG21
import Derived.Test.YthkmihedkddnmaaGreatUG10
import Derived.Test.YthkmihedkddnmaaGreatUG1
import Derived.Test.YthkmihedkddnmaaGreatUG3
import Derived.Test.YthkmihedkddnmaaGreatUG18
set_option linter.unusedVariables false
set_option linter.unusedSimpArgs false
set_option maxHeartbeats 12800000
set_option maxRecDepth 100000
namespace Go.Proofs.YthkmihedkddnmaaGreat
open Lib (hid)
open Go.RowKit Go.Maps Go.Shelf Wire Cmd
theorem run_textL (w:World) (v:Value) (n:Nat) (bs:List UInt8) (h:Rd w 1 v n (bV bs)):((convert 33 9 v).run Tryz.prog w).andThen (fun a w'=>Result.ok (Next.value a) w') = .ok (.value (.string (strB bs))) w:=by
 rw [run_text w v n bs h];rfl
theorem zszL:Tryz.zeroCells50.size=256:=by kernel_rfl
theorem both_at {l:List (Nat × (Vl × Nat))} {lw:List (Nat × (Vl × Value))} (hs:mapA (·.1) lw=strip l) {k:Nat} {p:Nat × (Vl × Value)} (hp:lw[k]? = some p) (hr:Ris (strip l)) :
  (∃ b,l[k]? = some (p.1,(p.2.1,b))∧getA p.1 l=some (p.2.1,b))∧(strip l)[k]? = some (p.1,p.2.1):=by
 have h1:(mapA (·.1) lw)[k]? = some (p.1,p.2.1):=by unfold mapA;rw [List.getElem?_map,hp];rfl
 rw [hs] at h1;have h2:=h1;unfold strip mapA at h2;rw [List.getElem?_map] at h2;obtain ⟨q,hq,e⟩:=Option.map_eq_some_iff.1 h2;have hrl:Ris l:=by
  have:=hr;unfold Ris strip mapA at this;rw [List.pairwise_map] at this;exact this
 have e1:q.1=p.1:=(Prod.mk.inj e).1;have e2:q.2.1=p.2.1:=(Prod.mk.inj e).2;have e3:q=(p.1,(p.2.1,q.2.2)):=by rw [← e1,← e2]
 refine ⟨⟨q.2.2,?_,?_⟩,h1⟩
 ·rw [hq];exact congrArg some e3
 ·have h4:=getA_at hrl hq
  rw [e1] at h4;rw [h4,← e2]
theorem both_len {l:List (Nat × (Vl × Nat))} {lw:List (Nat × (Vl × Value))} (hs:mapA (·.1) lw=strip l):l.length=lw.length:=by
 have h1:=congrArg List.length hs;unfold strip at h1;rw [mapA_len,mapA_len] at h1;exact h1.symm
theorem getI_len {m:List (Nat × List UInt8)} (h:∀ q∈m,q.2.length=256) (j:Int):((getI j m).getD zeroB).length=256:=by
 unfold getI
 split
 ·exact List.length_replicate
 ·exact blkAt_len h j.toNat
theorem looks_any (n0 n1:Nat) (w:World) (B Ba:Nat) (l:List (Nat × (Vl × Nat))) (h:DevAt n0 w B Ba l) (C:Nat) (sv:Value) (lw:List (Nat × (Vl × Value))) (hr:RDevAt n1 w C sv lw) (hs:mapA (·.1) lw=strip l) (hsh:(devS (strip l)).length≤100000) (hl:l.length≤100000) (leave:Int) :
  Calls Tryz.prog 11 #[.pointer (some ⟨B,0,none⟩),.pointer (some ⟨C,0,none⟩),.int .i64 leave] w fun e w'=>e = .returned (.bool true)∧Below w.heap.size w w':=by
 have hlen:=both_len hs;obtain ⟨n,hn⟩:∃ n,lw.length=n:=⟨_,rfl⟩
 obtain ⟨av,cv,rfl⟩:=row_slice hr.row;have HDO:Hid (DevOk (strip l)):=hid h.ok;have CV:=dvolumes_at n0 w B Ba l h (by omega);have CS:Hid (∀ (m:Int) X,Below w.heap.size w X→Calls Tryz.prog 34 #[.pointer (some ⟨B,0,none⟩),.pointer (some ⟨C,0,none⟩),.int .i64 m] X fun e w'=>e = .returned (.bool true)∧Below X.heap.size X w') :=
  hid (fun m X hX=>callsIn_wide.1 (spots_in n0 n1 X B Ba l (h.below hX) C _ lw (hr.below hX) hs (by omega) m))
 have CB:Hid (∀ X,Below w.heap.size w X→Calls Tryz.prog 29 #[.pointer (some ⟨B,0,none⟩)] X fun e w'=>∃ v,e = .returned v∧w'.ownsRow X.heap.size 5 1 v (devB (strip l)).length (bV (devB (strip l)))∧Below X.heap.size X w') :=
  hid (fun X hX=>dbytes_at n0 X B Ba l (h.below hX) hsh hl)
 have CRB:Hid (∀ X,Below w.heap.size w X→Calls Tryz.prog 35 #[.pointer (some ⟨C,0,none⟩)] X fun e w'=>∃ v,e = .returned v∧w'.ownsRow X.heap.size 5 1 v (devB (strip l)).length (bV (devB (strip l)))∧Below X.heap.size X w') :=
  hid (fun X hX=>by
   have h1:=rbytes_any n1 X C _ lw (hr.below hX) (by rw [hs];exact h.ok) (by omega);rw [hs] at h1;exact h1.mono fun e w' ⟨v,he,hv⟩=>⟨v,he,hv.1,hv.2⟩)
 have HH:=hid h;have HR:=hid hr;have HS:=hid hs;have HN:=hid hn;have HNL:Hid (l.length=n):=hid (by omega);rw [show l.length=n from HNL.out] at CV;rw [hn] at HR;have hn1:n≤100000:=by rw [← HNL.out];exact hl
 clear h hr hs hlen hn hsh hl
 go_enter Tryz.func11,Tryz.ntmps11
 go_wp2_with fail;refine CV.mono ?_;rintro e w1 ⟨v1,rfl,ho1,hb1⟩;obtain ⟨a1,c1,rfl⟩:=row_slice ho1;have HO1:=hid ho1;have HB1:=hid hb1;have HD1:=hid (HR.out.below hb1);clear CV ho1 hb1;obtain ⟨TX,hTX⟩:∃ x,devB (strip l)=x:=⟨_,rfl⟩
 rw [hTX] at CB CRB;obtain ⟨SX,hSX⟩:∃ x,strB TX=x:=⟨_,rfl⟩
 have HSX:=hid hSX;have HTX:=hid hTX;clear hSX hTX
 go_upto_region 2 with fail
 go_cut [48] (fun c wx=>∃ W,W=wx∧c = .bool false∧Below w1.heap.size w1 W)
 case first =>
  have HSS:Hid (∀ X,Below w1.heap.size w1 X→(X.cell? ⟨C,0,none⟩=some (.slice av n cv))∧Below w1.heap.size w1 X):=hid (fun X hb=>⟨(World.cell?_of_block (hb.block _ (HD1.out.lt))).trans (HD1.out.cell),hb⟩);refine region_normal (S:=fun X=>(X.cell? ⟨C,0,none⟩=some (.slice av n cv))∧Below w1.heap.size w1 X) (by kernel_rfl) (HSS.out _ (Below.refl _ _).drew) (fun hHeld => ?_);have hbe:Below w1.heap.size w1 w1.drew:=(Below.refl _ _).drew;obtain ⟨wd,hwd⟩:∃ y,w1.drew=y:=⟨_,rfl⟩
  rw [hwd] at hHeld hbe ⊢;have HBE:=hid hbe;have HS0:Hid (w1.heap.size≤wd.heap.size):=hid HBE.out.size;clear hwd hbe;refine tkR 0 rfl ?_;refine tkR 2 rfl ?_;refine tkR 1 rfl ?_;refine tkR 3 rfl ?_;refine tkR 4 rfl ?_;refine tkR 5 rfl ?_;refine tkR 6 rfl ?_;refine tkS 7 (.bool false) rfl ?_ ?_
  ·(intro w hSw;simp only [gE1,gE2,gE3];(go_simp;first | done | with_reducible rfl | simp))
  refine tkR 8 rfl ?_;refine tkR 9 rfl ?_;refine tkR 10 rfl ?_;refine rd1 11 rfl fun K hK => ?_;simp only [gE1,gE2,gE3];go_simp;refine (CS.out 0 _ (bthen HB1.out HBE.out)).mono ?_;rintro e w11 ⟨rfl,hb11⟩;dsimp only;have HBE:=hid (bthen HBE.out hb11);clear hHeld;refine hK.out _ _ (HSS.out _ HBE.out) fun hHeld => ?_;clear hK K;try simp only [Act.put,pE1,pE2,pE3]
  have HC11:=hid hb11;clear hb11;refine tkR 12 rfl ?_;refine tkS 13 (.bool false) rfl ?_ ?_
  ·(intro w hSw;simp only [gE1,gE2,gE3];(go_simp;first | done | with_reducible rfl | simp))
  refine tkR 14 rfl ?_;refine tkR 15 rfl ?_;refine tkR 16 rfl ?_;refine tkR 17 rfl ?_;refine rd1 18 rfl fun K hK => ?_;simp only [gE1,gE2,gE3];go_simp;refine (CS.out leave _ (bthen HB1.out HBE.out)).mono ?_;rintro e w18 ⟨rfl,hb18⟩;dsimp only;have HBE:=hid (bthen HBE.out hb18);clear hHeld;refine hK.out _ _ (HSS.out _ HBE.out) fun hHeld => ?_;clear hK K;try simp only [Act.put,pE1,pE2,pE3]
  have HC18:=hid hb18;clear hb18;refine tkR 19 rfl ?_;refine tkS 20 (.bool false) rfl ?_ ?_
  ·(intro w hSw;simp only [gE1,gE2,gE3];(go_simp;first | done | with_reducible rfl | simp))
  refine tkR 21 rfl ?_;refine tkR 22 rfl ?_;refine tkR 25 rfl ?_;refine rd1 23 rfl fun K hK => ?_;simp only [gE1,gE2,gE3];go_simp;refine (CB.out _ (bthen HB1.out HBE.out)).mono ?_;rintro e w23 ⟨v23,rfl,ho23,hb23⟩;dsimp only;refine hK.out _ _ ?_ (fun hHeld => ?_)
  ·exact HSS.out _ (bthen HBE.out hb23)
  clear hK K;try simp only [Act.put,pE1,pE2,pE3]
  have HBE:=hid (bthen HBE.out hb23);obtain ⟨a23,c23,e23⟩:=row_slice ho23;subst e23;have HT23:Hid (∀ X,Below w23.heap.size w23 X→((convert 33 9 (.slice a23 TX.length c23)).run Tryz.prog X).andThen (fun a w'=>Result.ok (Next.value a) w') = .ok (.value (.string SX)) X):=hid (fun X hX=>by rw [← HSX.out];exact run_textL X _ _ _ ((Rd.of_own ho23).below hX));clear ho23 hb23;refine rd2 24 26 rfl rfl (fun K hK => ?_) fun K hK => ?_
  ·skip
   have hrd:=HT23.out w23 (by first | exact Below.refl _ _ | exact HC26.out);simp only [gE1,gE2,gE3];go_simp;clear hrd;refine hK.out _ _ ?_ (fun hHeld => ?_)
   ·exact (by first | exact HSS.out _ HBE.out | exact HSS.out _ HMD.out)
   clear hK K;try simp only [Act.put,pE1,pE2,pE3]
   refine rd1 26 rfl fun K hK => ?_;simp only [gE1,gE2,gE3];go_simp;refine (CRB.out _ (bthen HB1.out HBE.out)).mono ?_;rintro e w26 ⟨v26,rfl,ho26,hb26⟩;dsimp only;refine hK.out _ _ ?_ (fun hHeld => ?_)
   ·exact HSS.out _ (bthen HBE.out hb26)
   clear hK K;try simp only [Act.put,pE1,pE2,pE3]
   have HBE:=hid (bthen HBE.out hb26);have HC26:=hid hb26;obtain ⟨a26,c26,e26⟩:=row_slice ho26;subst e26;have HT26:Hid (∀ X,Below w26.heap.size w26 X→((convert 33 9 (.slice a26 TX.length c26)).run Tryz.prog X).andThen (fun a w'=>Result.ok (Next.value a) w') = .ok (.value (.string SX)) X):=hid (fun X hX=>by rw [← HSX.out];exact run_textL X _ _ _ ((Rd.of_own ho26).below hX));clear ho26 hb26;refine rd1 27 rfl fun K hK => ?_;have hrd:=HT26.out w26 (Below.refl _ _);simp only [gE1,gE2,gE3];go_simp;clear hrd;refine hK.out _ _ ?_ (fun hHeld => ?_)
   ·exact (by first | exact HSS.out _ HBE.out | exact HSS.out _ HMD.out)
   clear hK K;try simp only [Act.put,pE1,pE2,pE3]
   refine tkS 28 (.bool false) rfl ?_ ?_
   ·(intro w hSw;simp only [gE1,gE2,gE3];(go_simp;first | done | with_reducible rfl | simp))
   refine tkS 29 (.bool false) rfl ?_ ?_
   ·(intro w hSw;simp only [gE1,gE2,gE3];(go_simp;first | done | with_reducible rfl | simp))
   refine wpAnyH_done (by kernel_rfl) ⟨rfl,?_⟩ _;have HEND:=hid hHeld.2;have HSE:=hid hHeld.1;clear hHeld;clear HSE HSS HEND;go_wp2_with fail;go_meet;exact ⟨_,rfl,rfl,HBE.out⟩
  ·skip
   simp only [gE1,gE2,gE3];go_simp;refine (CRB.out _ (bthen HB1.out HBE.out)).mono ?_;rintro e w26 ⟨v26,rfl,ho26,hb26⟩;dsimp only;refine hK.out _ _ ?_ (fun hHeld => ?_)
   ·exact HSS.out _ (bthen HBE.out hb26)
   clear hK K;try simp only [Act.put,pE1,pE2,pE3]
   have HBE:=hid (bthen HBE.out hb26);have HC26:=hid hb26;obtain ⟨a26,c26,e26⟩:=row_slice ho26;subst e26;have HT26:Hid (∀ X,Below w26.heap.size w26 X→((convert 33 9 (.slice a26 TX.length c26)).run Tryz.prog X).andThen (fun a w'=>Result.ok (Next.value a) w') = .ok (.value (.string SX)) X):=hid (fun X hX=>by rw [← HSX.out];exact run_textL X _ _ _ ((Rd.of_own ho26).below hX));clear ho26 hb26;refine rd2 24 27 rfl rfl (fun K hK => ?_) fun K hK => ?_
   ·skip
    have hrd:=HT23.out w26 (by first | exact Below.refl _ _ | exact HC26.out);simp only [gE1,gE2,gE3];go_simp;clear hrd;refine hK.out _ _ ?_ (fun hHeld => ?_)
    ·exact (by first | exact HSS.out _ HBE.out | exact HSS.out _ HMD.out)
    clear hK K;try simp only [Act.put,pE1,pE2,pE3]
    refine rd1 27 rfl fun K hK => ?_;have hrd:=HT26.out w26 (Below.refl _ _);simp only [gE1,gE2,gE3];go_simp;clear hrd;refine hK.out _ _ ?_ (fun hHeld => ?_)
    ·exact (by first | exact HSS.out _ HBE.out | exact HSS.out _ HMD.out)
    clear hK K;try simp only [Act.put,pE1,pE2,pE3]
    refine tkS 28 (.bool false) rfl ?_ ?_
    ·(intro w hSw;simp only [gE1,gE2,gE3];(go_simp;first | done | with_reducible rfl | simp))
    refine tkS 29 (.bool false) rfl ?_ ?_
    ·(intro w hSw;simp only [gE1,gE2,gE3];(go_simp;first | done | with_reducible rfl | simp))
    refine wpAnyH_done (by kernel_rfl) ⟨rfl,?_⟩ _;have HEND:=hid hHeld.2;have HSE:=hid hHeld.1;clear hHeld;clear HSE HSS HEND;go_wp2_with fail;go_meet;exact ⟨_,rfl,rfl,HBE.out⟩
   ·skip
    have hrd:=HT26.out w26 (Below.refl _ _);simp only [gE1,gE2,gE3];go_simp;clear hrd;refine hK.out _ _ ?_ (fun hHeld => ?_)
    ·exact (by first | exact HSS.out _ HBE.out | exact HSS.out _ HMD.out)
    clear hK K;try simp only [Act.put,pE1,pE2,pE3]
    refine rd1 24 rfl fun K hK => ?_;have hrd:=HT23.out w26 (by first | exact Below.refl _ _ | exact HC26.out);simp only [gE1,gE2,gE3];go_simp;clear hrd;refine hK.out _ _ ?_ (fun hHeld => ?_)
    ·exact (by first | exact HSS.out _ HBE.out | exact HSS.out _ HMD.out)
    clear hK K;try simp only [Act.put,pE1,pE2,pE3]
    refine tkS 28 (.bool false) rfl ?_ ?_
    ·(intro w hSw;simp only [gE1,gE2,gE3];(go_simp;first | done | with_reducible rfl | simp))
    refine tkS 29 (.bool false) rfl ?_ ?_
    ·(intro w hSw;simp only [gE1,gE2,gE3];(go_simp;first | done | with_reducible rfl | simp))
    refine wpAnyH_done (by kernel_rfl) ⟨rfl,?_⟩ _;have HEND:=hid hHeld.2;have HSE:=hid hHeld.1;clear hHeld;clear HSE HSS HEND;go_wp2_with fail;go_meet;exact ⟨_,rfl,rfl,HBE.out⟩
 case rest =>
  obtain ⟨w3,rfl,rfl,hbc⟩:=hcut;have HBC:=hid hbc;clear hbc;have HB3:Hid (Below w.heap.size w w3):=hid (bthen HB1.out HBC.out);have HDX:Hid (∀ X,Below w3.heap.size w3 X→RDevAt n1 X C (.slice av n cv) lw):=hid (fun X hX=>HD1.out.below (bthen HBC.out hX));have HOX:Hid (∀ X,Below w3.heap.size w3 X→X.ownsRow w.heap.size 38 1 (.slice a1 n c1) n (l.map fun p=>.int .u64 (p.1:Int))):=hid (fun X hX=>ownsRow_below HO1.out (bthen HBC.out hX));have HAX:Hid (∀ X,Below w3.heap.size w3 X→DevAt n0 X B Ba l):=hid (fun X hX=>HH.out.below (bthen HB3.out hX))
  go_wp2_with fail
  go_loopw [8] (fun i wr=>∃ k:Nat,k≤n∧i = .int .i64 (k:Int)∧Below w3.heap.size w3 wr) (fun i _=>n - (Go.Proofs.intOf i).toNat)
  case atStart=>exact ⟨0,Nat.zero_le _,rfl,Below.refl _ _⟩
  case round =>
   obtain ⟨k,hk,rfl,hbw⟩:=hrel;have HBW:=hid hbw;clear hbw
   by_cases hlt:k<n
   ·have q0:decide ((k:Int)<(n:Int))=true:=decide_eq_true (by omega)
    obtain ⟨p,hp⟩:∃ p,lw[k]? = some p:=⟨_,List.getElem?_eq_getElem (by rw [HN.out];exact hlt)⟩
    obtain ⟨⟨b,hlk,hgk⟩,hsk⟩:=both_at HS.out hp HDO.out.ris;have hvo:=HDO.out.vol _ (List.mem_of_getElem? hsk);have hnat:=HDO.out.nat _ (List.mem_of_getElem? hsk);dsimp only at hvo hnat;obtain ⟨g1,cap1,cur1,e1,_,hh1,hcur,_,_⟩:=row_cell (HOX.out _ (Below.refl _ _)) (i:=k) (x:=.int .u64 (p.1:Int)) (by rw [List.getElem?_map,hlk];rfl);obtain ⟨rfl,_,rfl⟩:=Value.slice.inj e1;obtain ⟨g,cap,hv,_⟩:=(HDX.out _ (Below.refl _ _)).at_ hp;obtain ⟨rfl,hnl2,rfl⟩:=Value.slice.inj hv;clear hnl2
    obtain ⟨am,cm,hm⟩:=row_slice ((HDX.out _ (Below.refl _ _)).blk p (List.mem_of_getElem? hp));obtain ⟨ml,hml⟩:∃ x,p.2.1.m.length=x:=⟨_,rfl⟩
    rw [hml] at hm;have HSM:=hid hm;have HML:=hid hml;have HCX:Hid (∀ X,Below w3.heap.size w3 X→X.cell? ⟨C,0,none⟩=some (.slice (some ⟨g,0,none⟩) n cv)∧X.cell? ⟨g,k * 3,none⟩=some (.int .u64 (p.1:Int))∧X.cell? ⟨g,k * 3+1,none⟩=some (.int .i64 (p.2.1.size:Int))∧X.cell? ⟨g,k * 3+2,none⟩=some (.slice am ml cm)∧X.cell? ⟨g1,k,none⟩=some (.int .u64 (p.1:Int))∧C<X.heap.size∧g<X.heap.size∧g1<X.heap.size):=hid (fun X hX=>by
     obtain ⟨g',cap',hv',_,_,h1,h2,h3⟩:=(HDX.out X hX).at_ hp;obtain ⟨e4,_,_⟩:=Value.slice.inj hv';obtain ⟨rfl,_,_⟩:=Addr.mk.inj (Option.some.inj e4);obtain ⟨g1',cap1',cur1',e1',_,hh1',hcur',_,_⟩:=row_cell (HOX.out X hX) (i:=k) (x:=.int .u64 (p.1:Int)) (by rw [List.getElem?_map,hlk];rfl);obtain ⟨e5,_,_⟩:=Value.slice.inj e1';obtain ⟨rfl,_,_⟩:=Addr.mk.inj (Option.some.inj e5);refine ⟨(HDX.out X hX).cell,h1,h2,by rw [← HSM.out];exact h3,?_,(HDX.out X hX).lt,ownsRow_lt (HDX.out X hX).row _ (by rw [ob_some];simp),(hLT hh1')⟩
     exact cellOf hh1' k (by simpa using hcur'))
    have CSZ:Hid (∀ X,Below w3.heap.size w3 X→Calls Tryz.prog 15 #[.pointer (some ⟨B,0,none⟩),.int .u64 (p.1:Int)] X fun e w'=>e = .returned (.tuple #[.int .i64 (p.2.1.size:Int),.bool true])∧Below X.heap.size X w') :=
     hid (fun X hX=>dsize_in n0 X B Ba l (HAX.out X hX) p.1 (by omega) _ hgk)
    have CMP:Hid (∀ X,Below w3.heap.size w3 X→Calls Tryz.prog 16 #[.pointer (some ⟨B,0,none⟩),.int .u64 (p.1:Int)] X fun e w'=>∃ a c,e = .returned (.slice a ml c)∧Below X.heap.size X w') :=
     hid (fun X hX=>(dmapped_in n0 X B Ba l (HAX.out X hX) p.1 (by omega) _ hgk).mono fun e w' ⟨v,he,ho,_,hb⟩=>by
      obtain ⟨a,c,rfl⟩:=row_slice ho;dsimp only at he;rw [hml] at he;exact ⟨a,c,he,hb⟩)
    have CBK:Hid (∀ (j:Int) X,-9223372036854775808≤j∧j≤9223372036854775807→Below w3.heap.size w3 X→Calls Tryz.prog 24 #[.pointer (some ⟨B,0,none⟩),.int .u64 (p.1:Int),.int .i64 j] X fun e w'=>e = .returned (.tuple #[bA ((getI j p.2.1.m).getD zeroB),.bool (getI j p.2.1.m).isSome])∧Below X.heap.size X w') :=
     hid (fun j X hj hX=>dblock_in n0 X B Ba l (HAX.out X hX) p.1 (by omega) _ hgk j hj)
    have CGT:Hid (∀ (j:Int) X,Below w3.heap.size w3 X→Calls Tryz.prog 36 #[.pointer (some ⟨g,k * 3,none⟩),.int .i64 j] X fun e w'=>e = .returned (.tuple #[bA ((getI j p.2.1.m).getD zeroB),.bool (getI j p.2.1.m).isSome])∧Below X.heap.size X w') :=
     hid (fun j X hX=>rget_any n1 X g (k * 3) p.2.2 p.2.1.m ((HDX.out X hX).vol hp) hvo.blk hvo.ris (by have:=hvo.len;omega) j)
    have HBL:Hid (∀ j:Int,((getI j p.2.1.m).getD zeroB).length=256):=hid (getI_len hvo.blk);have hps:p.2.1.size≤256:=hvo.size;have hmlb:ml≤256:=by rw [← HML.out];exact hvo.len
    obtain ⟨pn,hpn⟩:∃ x,p.1=x:=⟨_,rfl⟩
    obtain ⟨ps,hps2⟩:∃ x,p.2.1.size=x:=⟨_,rfl⟩
    rw [hpn] at HCX CSZ CMP CBK;rw [hps2] at HCX CSZ hps;have hpnb:pn<4294967296:=by rw [← hpn];exact hnat.2
    clear hp hlk hgk hsk hvo hnat e1 hh1 hcur hv hm hml hpn hps2;obtain ⟨c0,c1',c2,c3,c4,_,_,_⟩:=HCX.out _ HBW.out;go_wp2_with fail;refine (CSZ.out _ HBW.out).mono ?_;rintro e w7 ⟨rfl,hb7⟩;dsimp only;have HB7:=hid (bthen HBW.out hb7);clear hb7 c0 c1' c2 c3 c4;obtain ⟨c0,c1',c2,c3,c4,_,_,_⟩:=HCX.out _ HB7.out;go_wp2_with fail;refine (CMP.out _ HB7.out).mono ?_;rintro e w8 ⟨a8,c8,rfl,hb8⟩;dsimp only;have HB8:=hid (bthen HB7.out hb8);clear hb8 c0 c1' c2 c3 c4;go_wp2_with fail
    have HSS:Hid (∀ X,Below w8.heap.size w8 X→(X.cell? ⟨C,0,none⟩=some (.slice (some ⟨g,0,none⟩) n cv)∧X.cell? ⟨g,k * 3,none⟩=some (.int .u64 (pn:Int))∧X.cell? ⟨g,k * 3+1,none⟩=some (.int .i64 (ps:Int))∧X.cell? ⟨g,k * 3+2,none⟩=some (.slice am ml cm)∧X.cell? ⟨g1,k,none⟩=some (.int .u64 (pn:Int)))∧Below w8.heap.size w8 X):=hid (fun X hb=>⟨⟨(World.cell?_of_block (hb.block _ ((HCX.out _ HB8.out).2.2.2.2.2.1))).trans ((HCX.out _ HB8.out).1),(World.cell?_of_block (hb.block _ ((HCX.out _ HB8.out).2.2.2.2.2.2.1))).trans ((HCX.out _ HB8.out).2.1),(World.cell?_of_block (hb.block _ ((HCX.out _ HB8.out).2.2.2.2.2.2.1))).trans ((HCX.out _ HB8.out).2.2.1),(World.cell?_of_block (hb.block _ ((HCX.out _ HB8.out).2.2.2.2.2.2.1))).trans ((HCX.out _ HB8.out).2.2.2.1),(World.cell?_of_block (hb.block _ ((HCX.out _ HB8.out).2.2.2.2.2.2.2))).trans ((HCX.out _ HB8.out).2.2.2.2.1)⟩,hb⟩)
    refine wp_region_held_drew (S:=fun X=>(X.cell? ⟨C,0,none⟩=some (.slice (some ⟨g,0,none⟩) n cv)∧X.cell? ⟨g,k * 3,none⟩=some (.int .u64 (pn:Int))∧X.cell? ⟨g,k * 3+1,none⟩=some (.int .i64 (ps:Int))∧X.cell? ⟨g,k * 3+2,none⟩=some (.slice am ml cm)∧X.cell? ⟨g1,k,none⟩=some (.int .u64 (pn:Int)))∧Below w8.heap.size w8 X) (by kernel_rfl) (HSS.out _ (Below.refl _ _).drew) (fun hHeld => ?_);have hbe:Below w8.heap.size w8 w8.drew:=(Below.refl _ _).drew;obtain ⟨wd,hwd⟩:∃ y,w8.drew=y:=⟨_,rfl⟩
    rw [hwd] at hHeld hbe ⊢;have HBE:=hid hbe;have HS0:Hid (w8.heap.size≤wd.heap.size):=hid HBE.out.size;clear hwd hbe;refine tkP 0 rfl ?_;refine tkP 1 rfl ?_;refine tkP 4 rfl ?_;refine tkP 8 rfl ?_;refine tkP 2 rfl ?_;refine tkP 5 rfl ?_;refine tkP 3 rfl ?_;refine tkP 6 rfl ?_;refine tkP 7 rfl ?_;refine tkP 9 rfl ?_;refine tkP 10 rfl ?_;refine tkP 11 rfl ?_;refine tkQ 12 (.bool false) rfl ?_ ?_
    ·(intro w hSw;simp only [gE1,gE2,gE3];(go_simp;first | done | with_reducible rfl | simp))
    refine tkP 13 rfl ?_;refine tkP 14 rfl ?_;refine tkP 15 rfl ?_;refine tkQ 16 (.bool false) rfl ?_ ?_
    ·(intro w hSw;simp only [gE1,gE2,gE3];(go_simp;first | done | with_reducible rfl | simp))
    refine tkQ 17 (.bool false) rfl ?_ ?_
    ·(intro w hSw;simp only [gE1,gE2,gE3];(go_simp;first | done | with_reducible rfl | simp))
    refine tkP 18 rfl ?_;refine tkP 19 rfl ?_;refine tkP 23 rfl ?_;refine tkP 20 rfl ?_;refine tkP 21 rfl ?_;refine tkP 22 rfl ?_;refine tkP 24 rfl ?_;refine tkP 25 rfl ?_;refine tkP 26 rfl ?_;refine tkQ 27 (.bool false) rfl ?_ ?_
    ·(intro w hSw;simp only [gE1,gE2,gE3];(go_simp;first | done | with_reducible rfl | simp))
    refine tkQ 28 (.bool false) rfl ?_ ?_
    ·(intro w hSw;simp only [gE1,gE2,gE3];(go_simp;first | done | with_reducible rfl | simp))
    refine tkQ 29 (.bool false) rfl ?_ ?_
    ·(intro w hSw;simp only [gE1,gE2,gE3];(go_simp;first | done | with_reducible rfl | simp))
    refine tkP 30 rfl ?_;refine tkP 32 rfl ?_;refine tkP 36 rfl ?_;refine tkP 31 rfl ?_;refine tkP 33 rfl ?_;refine tkP 34 rfl ?_;refine tkP 35 rfl ?_;refine tkP 37 rfl ?_;refine tkP 38 rfl ?_;refine tkP 39 rfl ?_;refine tkP 40 rfl ?_;refine tkQ 41 (.bool false) rfl ?_ ?_
    ·(intro w hSw;simp only [gE1,gE2,gE3];(go_simp;first | done | with_reducible rfl | simp))
    refine tkQ 42 (.bool false) rfl ?_ ?_
    ·(intro w hSw;simp only [gE1,gE2,gE3];(go_simp;first | done | with_reducible rfl | simp))
    refine wpAnyH_done (by kernel_rfl) ?_ _;have HEND:=hid hHeld.2;have HSE:=hid hHeld.1;clear hHeld;clear HSE HSS HEND;have HBD:Hid (Below w3.heap.size w3 wd):=hid (bthen HB8.out HBE.out);go_wp2_with fail;have HZ:Hid (∀ (X:World) (c:List UInt8),c.length=256→(storeCells ⟨X.heap.size,0,none⟩ (bV c)).run Tryz.prog (X.alloc (.cells Tryz.zeroCells50 50)) = .ok () (X.alloc (.cells (bV c).toArray 50))):=hid (fun X c hc=>by
     have:=run_storeNew (P:=Tryz.prog) X 50 Tryz.zeroCells50 (bV c).toArray (by rw [zszL];simp [bV_len,hc]) (by simpa using bV_one c)
     simpa using this)
    have HEQ:Hid (∀ (X:World) (c d:List UInt8),c.length=256→d.length=256→(Op.equalIn 10000 50 (.agg (bV c).toArray) (.agg (bV d).toArray)).run Tryz.prog X = .ok (c == d) X):=hid (fun X c d hc hd=>run_equalIn_bytes (P:=Tryz.prog) X (t:=50) (e:=5) (n:=256) Tryz.underlying50 Tryz.underlying5 rfl rfl 9998 c d hc hd);obtain ⟨wo,rfl⟩:∃ wo:World,wo=wr:=⟨_,rfl⟩
    go_loopw [12] (fun i wx=>∃ j:Int,-1≤j∧j≤(ps:Int)+1∧i = .int .i64 j∧Below w3.heap.size w3 wx) (fun i _=>((ps:Int)+1 - Go.Proofs.intOf i).toNat)
    case atStart=>exact ⟨-1,by omega,by omega,rfl,HBD.out⟩
    case round =>
     obtain ⟨j,hj1,hj2,rfl,hbx⟩:=hrel;have HBX:=hid hbx;clear hbx
     by_cases hlt5:j≤(ps:Int)
     rotate_left
     ·have q5:decide (j≤(ps:Int))=false:=decide_eq_false hlt5
      go_wp2_with fail;go_roundw
      case rel=>exact ⟨k+1,by omega,by go_num,HBX.out⟩
      case measure=>simp [Go.Proofs.intOf];omega
     have q5:decide (j≤(ps:Int))=true:=decide_eq_true hlt5;obtain ⟨c,hc⟩:∃ c,(getI j p.2.1.m).getD zeroB=c:=⟨_,rfl⟩
     obtain ⟨z,hz⟩:∃ z,(getI j p.2.1.m).isSome=z:=⟨_,rfl⟩
     have hcl:c.length=256:=by rw [← hc];exact HBL.out j
     have CB1:=CBK.out j wr (by omega) HBX.out;have CB2:Hid (∀ X,Below w3.heap.size w3 X→Calls Tryz.prog 36 #[.pointer (some ⟨g,k * 3,none⟩),.int .i64 j] X fun e w'=>e = .returned (.tuple #[bA c,.bool z])∧Below X.heap.size X w'):=hid (fun X hX=>by
      have h:=CGT.out j X hX;rw [hc,hz] at h;exact h)
     rw [hc,hz] at CB1;have HCL:=hid hcl;clear hc hz;obtain ⟨c0,c1',c2,c3,c4,_,_,_⟩:=HCX.out _ HBX.out;go_wp2_with fail;refine CB1.mono ?_;rintro e w20 ⟨rfl,hb20⟩;unfold bA;dsimp only;have hst1:=HZ.out w20 c hcl;have hcs:(bV c).toArray.size=256:=by simp [bV_len,hcl]
     obtain ⟨w21,hw21⟩:∃ W,w20.alloc (.cells (bV c).toArray 50)=W:=⟨_,rfl⟩
     have hb21:Below w20.heap.size w20 w21:=by rw [← hw21];exact balloc (Below.refl _ _) _
     have hx21:w21.heap[w20.heap.size]? = some (.cells (bV c).toArray 50 (0,0)):=by rw [← hw21];exact heap_alloc_new w20 _
     have HB21:=hid (bthen HBX.out (bthen hb20 hb21));have HX21:=hid hx21;clear CB1 hb20 hb21 hx21 c0 c1' c2 c3 c4;obtain ⟨c0,c1',c2,c3,c4,_,_,_⟩:=HCX.out _ HB21.out;have CB2b:=CB2.out w21 HB21.out;go_wp2_with fail;clear c0 c1' c2 c3 c4 hst1;refine CB2b.mono ?_;rintro e w22 ⟨rfl,hb22⟩;unfold bA;dsimp only;have hst2:=HZ.out w22 c hcl;obtain ⟨w23,hw23⟩:∃ W,w22.alloc (.cells (bV c).toArray 50)=W:=⟨_,rfl⟩
     have hb23:Below w22.heap.size w22 w23:=by rw [← hw23];exact balloc (Below.refl _ _) _
     have hx23:w23.heap[w22.heap.size]? = some (.cells (bV c).toArray 50 (0,0)):=by rw [← hw23];exact heap_alloc_new w22 _
     have HB23:=hid (bthen HB21.out (bthen hb22 hb23));have HX23:=hid (And.intro (((bthen hb22 hb23).block _ (hLT HX21.out)).trans HX21.out) hx23);have hne:=HEQ.out w23 c c hcl hcl;rw [beq_self_eq_true] at hne;have HI:=hid (infoB hcl);have hzz:(z != z)=false:=by simp
     clear CB2b hb22 hb23 hx23 hw21
     go_wp2_with (first
      | (refine wpList_load_mid rfl 50 _ rfl w20.heap.size 0 rfl (bV c) _ (blkBox HX23.out.1) Tryz.underlying50 rfl HI.out ?_)
      | (refine wpList_load_mid rfl 50 _ rfl w22.heap.size 0 rfl (bV c) _ (blkBox HX23.out.2) Tryz.underlying50 rfl HI.out ?_))
     go_roundw
     case rel=>exact ⟨j+1,by omega,by omega,by go_num,HB23.out⟩
     case measure=>simp [Go.Proofs.intOf];omega
   ·obtain rfl:k=n:=by omega
    have hcc:=(HDX.out _ HBW.out).cell;have q0:decide ((k:Int)<(k:Int))=false:=decide_eq_false (by omega);go_wp2_with fail;go_ret;exact ⟨rfl,bthen HB3.out HBW.out⟩
end Go.Proofs.YthkmihedkddnmaaGreat
namespace Go.Proofs.YthkmihedkddnmaaGreat
open Go.RowKit Wire Cmd
theorem row_blocks {W:World} {B n size:Nat} {e:TypeId} {v:Value} {xs:List Value} (h:W.ownsRow B e size v n xs):∀ k∈ob v,∃ cs,W.heap[k]? = some (.cells cs e (0,0)):=by
 intro k hk
 rcases h.2 with ⟨rfl,_⟩ | ⟨g,cap,cur,rfl,_,hh,_⟩
 ·cases hk
 ·rw [ob_some] at hk
  rw [List.mem_singleton.1 hk];exact ⟨cur,hh⟩
theorem RDevAt.taken {n0:Nat} {W:World} {B:Nat} {sv sv':Value} {l:List (Nat × (Vl × Value))} (hbox:W.heap[B]? = some (.cells #[sv] 30 (0,0))) (hn:n0≤B) (hr:W.ownsRow n0 58 3 sv' l.length (rvolC l))
  (hb:∀ p∈l,W.ownsRow n0 107 257 p.2.2 p.2.1.m.length (rblkC p.2.1.m)):RDevAt n0 (W.setCell ⟨B,0,none⟩ sv') B sv' l:=by
 have hs:=setOf hbox 0 sv';refine ⟨by simpa using hs,ownsRow_at hr (fun k hk=>Below.heap_setCell W ⟨B,0,none⟩ sv' k (fun e => ?_)),fun p hp=>ownsRow_at (hb p hp) (fun k hk=>Below.heap_setCell W ⟨B,0,none⟩ sv' k (fun e => ?_)),hn⟩
 ·have e2:k=B:=e
  subst e2;exact ob_tag hr hbox (by decide) hk
 ·have e2:k=B:=e
  subst e2;exact ob_tag (hb p hp) hbox (by decide) hk
def RCop (w:World) (vs:List (Nat × Vl)) (e:Ending) (w':World):Prop :=
 ∃ sv l,e = .returned (.pointer (some ⟨w.heap.size,0,none⟩))∧RDevAt w.heap.size w' w.heap.size sv l∧mapA (·.1) l=vs∧Below w.heap.size w w'
def RCi (w wr:World) (sv:Value) (l':List (Nat × (Vl × Value))) (vs:List (Nat × Vl)):Prop:=RDevAt w.heap.size wr w.heap.size sv l'∧mapA (·.1) l'=vs∧Below w.heap.size w wr
end Go.Proofs.YthkmihedkddnmaaGreat
namespace Go.Proofs.YthkmihedkddnmaaGreat
open Go.RowKit Wire Cmd
end Go.Proofs.YthkmihedkddnmaaGreat
namespace Go.Proofs.YthkmihedkddnmaaGreat
open Lib (hid)
open Go.RowKit Wire Cmd
theorem infoIntD:(Tryz.prog.info? 3).map (fun i=>(i.zero,i.size,i.bytes))=some (some (.int .i64 0),1,8):=by kernel_rfl
theorem rd_cell {X:World} {g:Nat} {t:TypeId} {x:Value} (h:X.heap[g]? = some (.cells #[x] t (0,0))):Rd X 1 (.slice (some ⟨g,0,none⟩) 1 1) 1 [x] :=
 ⟨_,1,rfl,rfl,by unfold maxLen;omega,⟨by simp,Nat.le_refl _,by unfold maxLen;omega⟩,fun j u hj=>⟨g,0,rfl,(hLT h),by
  match j with
  | 0=>obtain rfl:=Option.some.inj hj;exact cellOf h 0 rfl
  | j+1=>simp at hj⟩⟩
theorem rd_slice' {w:World} {size n:Nat} {v:Value} {xs:List Value} (h:Rd w size v n xs):∃ a c,v = .slice a n c∧n≤c∧c≤maxLen:=by
 obtain ⟨a,c,rfl,_,_,⟨_,h1,h2⟩,_⟩:=h;exact ⟨a,c,rfl,h1,h2⟩
theorem un4_no {w:World} {v:Value} {m:Nat} {bs:List UInt8} (hrd:Rd w 1 v m (bV bs)) (hm:m<4) :
  Calls Tryz.prog 86 #[.string ⟨#[52]⟩,v] w fun e w'=>e = .returned (.tuple #[.slice none 0 0,.int .i64 0,.int .i64 4])∧Below w.heap.size w w':=by
 have hl:bs.length=m:=by obtain ⟨_,_,_,hl,_⟩:=hrd;simpa [bV_len] using hl
 refine (unpack_any ⟨#[52]⟩ hrd (by omega) (by decide)).mono fun e w' hP => ?_;have hy:may (chs ⟨#[52]⟩)=true:=by decide
 have ho:unpack (chs ⟨#[52]⟩) bs=none:=by
  show unpack [52] bs=none
  have hw:wid 52=4:=by decide
  simp [unpack,lift,hw,hl,hm]
 rw [hy,ho] at hP;exact ⟨hP.2,hP.1⟩
theorem un4_yes {w:World} {v:Value} {m:Nat} {bs:List UInt8} (hrd:Rd w 1 v m (bV bs)) (hm:4≤m) (hb:m≤100000000) :
  Calls Tryz.prog 86 #[.string ⟨#[52]⟩,v] w fun e w'=>∃ g cap,e = .returned (.tuple #[.slice (some ⟨g,0,none⟩) 1 cap,.int .i64 4,.int .i64 0])∧w'.cell? ⟨g,0,none⟩=some (.iface 38 (.int .u64 (sum (bs.take 4):Int)))∧(∃ cur,w'.heap[g]? = some (.cells cur 20 (0,0)))∧1≤cap∧Below w.heap.size w w':=by
 have hl:bs.length=m:=by obtain ⟨_,_,_,hl,_⟩:=hrd;simpa [bV_len] using hl
 refine (unpack_any ⟨#[52]⟩ hrd hb (by decide)).mono fun e w' hP => ?_;have hy:may (chs ⟨#[52]⟩)=true:=by decide
 have ho:unpack (chs ⟨#[52]⟩) bs=some ([num (sum (bs.take 4))],4):=by
  show unpack [52] bs=_
  have hw:wid 52=4:=by decide
  have h4 : ¬ bs.length<4:=by omega
  simp [unpack,lift,hw,h4]
 rw [hy,ho] at hP;obtain ⟨h1,v',he,xs,hrow,hx⟩:=hP;obtain ⟨u,hu,ha⟩:=hx 0 _ rfl;obtain ⟨g,cap,cur,rfl,_,hg,hc,hcap,_⟩:=row_cell hrow hu;refine ⟨g,cap,he,?_,⟨_,hg⟩,hcap,h1⟩
 rcases ha with ⟨_,e,_⟩ | ⟨h,_⟩ | ⟨h,_⟩ | ⟨h,_⟩
 ·subst e;exact cellOf hg 0 hc
 ·have h2:(num 0).letter=63:=h
  exact absurd h2 (by decide)
 ·have h2:(num 0).letter=42:=h
  exact absurd h2 (by decide)
 ·have h2:(num 0).letter=35:=h
  exact absurd h2 (by decide)
def numV (bs:List UInt8) (k:Nat):List Value:=(List.range k).map fun j=>.int .i64 (sum ((bs.drop (4 * j)).take 4):Int)
theorem numV_succ (bs:List UInt8) (k:Nat):numV bs (k+1)=numV bs k ++ [.int .i64 (sum ((bs.drop (4 * k)).take 4):Int)]:=by unfold numV;rw [List.range_succ,List.map_append];rfl
def NumP (u w:World) (k m:Nat) (bs:List UInt8) (e:Ending) (w':World):Prop :=
 Below w.heap.size w w'∧((m<4 * k∧e = .returned (.tuple #[.slice none 0 0,.slice none 0 0,.bool false])) ∨
  (4 * k≤m∧∃ vl vr,e = .returned (.tuple #[vl,vr,.bool true])∧w'.ownsRow w.heap.size 3 1 vl k (numV bs k)∧Rd u 1 vr (m - 4 * k) (bV (bs.drop (4 * k)))))
theorem dnum_any (k:Nat) (hk:k≤3) (u w:World) (hu:Below u.heap.size u w) (v:Value) (m:Nat) (bs:List UInt8) (hrd:Rd u 1 v m (bV bs)) (hm:m≤100000000) :
  Calls Tryz.prog 63 #[v,.int .i64 (k:Int)] w fun e w'=>NumP u w k m bs e w':=by
 have HU:=hid hu;clear hu;have HRD:=hid hrd;have HLB:Hid (bs.length=m):=hid (by obtain ⟨_,_,_,hl,_⟩:=hrd;simpa [bV_len] using hl);obtain ⟨av,cv,rfl,hcv1,hcv2⟩:=rd_slice' hrd;unfold maxLen at hcv2;clear hrd
 go_enter Tryz.func63,Tryz.ntmps63
 go_wp2_with fail
 go_loopw [0,4,11] (fun v0 v4 i wr=>∃ j:Nat,j≤k∧i = .int .i64 (j:Int)∧4 * j≤m∧Rd u 1 v0 (m - 4 * j) (bV (bs.drop (4 * j)))∧wr.ownsRow w.heap.size 3 1 v4 j (numV bs j)∧Below w.heap.size w wr) (fun _ _ i _=>k - (Go.Proofs.intOf i).toNat)
 case atStart=>exact ⟨0,Nat.zero_le _,rfl,by omega,by simpa using HRD.out,by simpa [numV] using World.ownsRow_nil w w.heap.size _ _,Below.refl _ _⟩
 case round =>
  obtain ⟨j,hj,rfl,hjm,hr0,hrow,hbw⟩:=hrel;obtain ⟨ao,cap,rfl,hc1,hc2⟩:=rd_slice' hr0;unfold maxLen at hc2;obtain ⟨a4,c4,rfl⟩:=row_slice hrow;have HR0:=hid hr0;have HRW:=hid hrow;have HBW:=hid hbw;clear hr0 hrow hbw
  by_cases hlt:j<k
  ·have q0:decide (j<k)=true:=decide_eq_true hlt
   by_cases h4:m - 4 * j<4
   ·have CU:=un4_no (HR0.out.below (bthen HU.out HBW.out)) h4
    have HNO:Hid (m<4 * k):=hid (by omega);clear h4;go_wp2_with fail;refine CU.mono ?_;rintro e w2 ⟨rfl,hb2⟩;have HB2:=hid (bthen HBW.out hb2);clear CU hb2;go_wp2_with fail
    go_ret3
    exact ⟨HB2.out,.inl ⟨HNO.out,rfl⟩⟩
   ·have CU:=un4_yes (HR0.out.below (bthen HU.out HBW.out)) (by omega) (by omega)
    obtain ⟨nn,hnn⟩:∃ x,sum ((bs.drop (4 * j)).take 4)=x:=⟨_,rfl⟩
    have HNN:=hid hnn;rw [hnn] at CU;have hnb:nn<4294967296:=by rw [← hnn];exact sum4_lt _
    have HRT:Hid (Rd u 1 (.slice (cutA ao cap 4 1) (m - 4 * j - 4) (cap - 4)) (m - 4 * j - 4) (bV (bs.drop (4 * (j+1))))):=hid (by
     have h1:=HR0.out.mid (l:=4) (k:=m - 4 * j) (by omega) (Nat.le_refl _);rw [List.drop_drop,List.take_of_length_le (by rw [List.length_drop,HLB.out];omega),show 4 * j+4=4 * (j+1) from by omega] at h1;exact h1)
    have HM4:Hid (4 * (j+1)≤m):=hid (by omega);have HHC:Hid (4≤m - 4 * j∧m - 4 * j≤cap):=hid ⟨by omega,hc1⟩;have HSLC:Hid (∀ X,(Instr.slice 33 (.slice ao (m - 4 * j) cap) (some (.int .i64 4)) none none).run Tryz.prog X = .ok (.slice (cutA ao cap 4 1) (m - 4 * j - 4) (cap - 4)) X):=hid (fun X=>run_cutL X _ ao _ cap 1 undBytes szBytes 4 (by omega) (by have:=HHC.out.1;omega));clear h4 hnn;go_wp2_with fail;refine CU.mono ?_;rintro e w2 ⟨g,cg,rfl,hcg,⟨gcs,hgh⟩,hcg1,hb2⟩;dsimp only;have HB2:=hid (bthen HBW.out hb2);have HBX:=hid hb2;have HCG:=hid hcg
    have HGL:=hid (hLT hgh);have HGN:Hid (g∉ob (.slice a4 j c4)):=hid (ob_tag (ownsRow_below HRW.out hb2) hgh (by decide));have HR2:=hid (ownsRow_below HRW.out hb2);clear CU hb2 hcg hgh;go_wp2_with fail;have HSS:Hid (∀ X,Mods (ob (.slice a4 j c4)) w2 X→(X.cell? ⟨g,0,none⟩=some (.iface 38 (.int .u64 (nn:Int))))∧Mods (ob (.slice a4 j c4)) w2 X):=hid (fun X hb=>⟨(World.cell?_of_block (hb.block _ (HGL.out) (HGN.out))).trans (HCG.out),hb⟩)
    refine wp_region_held_drew (S:=fun X=>(X.cell? ⟨g,0,none⟩=some (.iface 38 (.int .u64 (nn:Int))))∧Mods (ob (.slice a4 j c4)) w2 X) (by kernel_rfl) (HSS.out _ (Mods.of_below (Below.refl _ _).drew)) (fun hHeld => ?_);have hbe:Below w2.heap.size w2 w2.drew:=(Below.refl _ _).drew;obtain ⟨wd,hwd⟩:∃ y,w2.drew=y:=⟨_,rfl⟩
    rw [hwd] at hHeld hbe ⊢;have HBE:=hid hbe;have HS0:Hid (w2.heap.size≤wd.heap.size):=hid HBE.out.size;clear hwd hbe;refine tkP 0 rfl ?_;refine tkP 1 rfl ?_;refine tkP 8 rfl ?_;refine tkP 9 rfl ?_;refine tkP 2 rfl ?_;refine tkQ 10 (.slice (cutA ao cap 4 1) (m - 4 * j - 4) (cap - 4)) rfl ?_ ?_
    ·(intro w hSw;simp only [gE1,gE2,gE3];(have h10:=HSLC.out w;go_simp;first | done | with_reducible rfl))
    refine tkP 3 rfl ?_;refine tkQ 4 (.int .u64 (nn:Int)) rfl ?_ ?_
    ·(intro w hSw;simp only [gE1,gE2,gE3];(have h4:=run_assert_one (P:=Tryz.prog) (t:=38) (xT:=20) Tryz.underlying38 rfl (.int .u64 (nn:Int)) w;go_simp;first | done | with_reducible rfl))
    refine tkQ 5 (.int .i64 (nn:Int)) rfl ?_ ?_
    ·(intro w hSw;simp only [gE1,gE2,gE3];(have hw64:IntKind.i64.wrap (nn:Int)=(nn:Int):=(IntWalk.i64_in _ (by omega));go_simp;first | done | with_reducible rfl))
    refine rd1 6 rfl fun K hK => ?_;simp only [gE1,gE2,gE3];go_simp;obtain ⟨b6,y6,hw6,hy6,hx6,HN6⟩:=al wd (.cells #[.int .i64 (nn:Int)] 3);rw [hy6,hw6];have HG6:Hid (w2.heap.size≤b6):=hid (by have:=HBE.out.size;omega);clear hy6 hw6;have HBE:=hid (bthen HBE.out hx6);clear hHeld;refine hK.out _ _ (HSS.out _ (Mods.of_below HBE.out)) fun hHeld => ?_;clear hK K;try simp only [Act.put,pE1,pE2,pE3]
    clear hx6;refine rd1 7 rfl fun K hK => ?_;simp only [gE1,gE2,gE3];rw [if_pos (by rfl)];refine wp_apps _ _ 44 rfl w.heap.size 3 _ 1 8 Tryz.underlying44 infoIntD rfl (by decide) (by decide) (.slice a4 j c4) j _ (by rfl) (ownsRow_below HR2.out HBE.out) _ 1 _ (by rfl) (rd_cell HN6.out) (by intro u hu;rw [List.mem_singleton.1 hu];rfl) (by omega) (Nat.le_trans HB2.out.size HBE.out.size) ?_;intro v7 w7 ho7 hb7 hg7 hs7 hn7;refine hK.out _ _ ?_ (fun hHeld => ?_)
    ·exact HSS.out _ ((Mods.of_below HBE.out).trans (Chg.of_grown hg7 hs7).1 (fun i hi=>.inl hi))
    clear hK K;try simp only [Act.put,pE1,pE2,pE3]
    have HB7:Hid (Below w.heap.size w w7):=hid ((bthen HB2.out HBE.out).trans hb7);have HO7:Hid (w7.ownsRow w.heap.size 3 1 v7 (j+1) (numV bs j ++ [.int .i64 (sum ((bs.drop (4 * j)).take 4):Int)])):=hid (by rw [HNN.out];exact ho7);refine tkP 11 rfl ?_;refine tkP 12 rfl ?_;refine wpAnyH_done (by kernel_rfl) ?_ _;have HEND:=hid hHeld.2;have HSE:=hid hHeld.1;clear hHeld;clear HSE HSS HEND
    have HFIN:Hid (Rd u 1 (.slice (cutA ao cap 4 1) (m - 4 * j - 4) (cap - 4)) (m - 4 * (j+1)) (bV (bs.drop (4 * (j+1))))∧w7.ownsRow w.heap.size 3 1 v7 (j+1) (numV bs (j+1))∧Below w.heap.size w w7):=hid (by
     have e:m - 4 * (j+1)=m - 4 * j - 4:=by omega
     refine ⟨?_,by rw [numV_succ];exact HO7.out,HB7.out⟩;rw [e];exact HRT.out)
    go_wp2_with fail;go_roundw
    case rel=>exact ⟨j+1,by omega,by go_num,HM4.out,HFIN.out.1,HFIN.out.2.1,HFIN.out.2.2⟩
    case measure=>simp [Go.Proofs.intOf];omega
  ·obtain rfl:j=k:=by omega
   have q0:decide (j<j)=false:=decide_eq_false (by omega);go_wp2_with fail
   go_ret3
   exact ⟨HBW.out,.inr ⟨hjm,_,_,rfl,HRW.out,HR0.out⟩⟩
end Go.Proofs.YthkmihedkddnmaaGreat
