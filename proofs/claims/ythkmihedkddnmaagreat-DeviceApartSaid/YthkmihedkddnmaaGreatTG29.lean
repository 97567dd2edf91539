import Derived.Test.YthkmihedkddnmaaGreatTG2
import Derived.Test.YthkmihedkddnmaaGreatTG19
import Derived.Test.YthkmihedkddnmaaGreatTG24
import Derived.Test.YthkmihedkddnmaaGreatTG25
import Derived.Test.YthkmihedkddnmaaGreatTG28
set_option linter.unusedVariables false
set_option linter.unusedSimpArgs false
set_option maxHeartbeats 12800000
set_option maxRecDepth 100000
namespace Go.Proofs.YthkmihedkddnmaaGreat
open Lib (hid)
open Go.RowKit Go.Maps Go.Shelf Wire Cmd
theorem run_textL (w:World) (v:Value) (n:Nat) (bs:List UInt8) (h:Rd w 1 v n (bV bs)):((convert 33 9 v).run Tryz.prog w).andThen (fun a w'=>Result.ok (Next.value a) w') = .ok (.value (.string (strB bs))) w:=by
 rw [run_text w v n bs h];rfl
theorem zszL:Tryz.zeroCells50.size=256:=by kernel_rfl
theorem both_at {l:List (Nat × (Vl × Nat))} {lw:List (Nat × (Vl × Value))} (hs:mapA (·.1) lw=strip l) {k:Nat} {p:Nat × (Vl × Value)} (hp:lw[k]? = some p) (hr:Ris (strip l)) :
  (∃ b,l[k]? = some (p.1,(p.2.1,b))∧getA p.1 l=some (p.2.1,b))∧(strip l)[k]? = some (p.1,p.2.1):=by
 have h1:(mapA (·.1) lw)[k]? = some (p.1,p.2.1):=by unfold mapA;rw [List.getElem?_map,hp];rfl
 rw [hs] at h1;have h2:=h1;unfold strip mapA at h2;rw [List.getElem?_map] at h2;obtain ⟨q,hq,e⟩:=Option.map_eq_some_iff.1 h2;have hrl:Ris l:=by
  have:=hr;unfold Ris strip mapA at this;rw [List.pairwise_map] at this;exact this
 have e1:q.1=p.1:=(Prod.mk.inj e).1;have e2:q.2.1=p.2.1:=(Prod.mk.inj e).2;have e3:q=(p.1,(p.2.1,q.2.2)):=by rw [← e1,← e2]
 refine ⟨⟨q.2.2,?_,?_⟩,h1⟩
 ·rw [hq];exact congrArg some e3
 ·have h4:=getA_at hrl hq
  rw [e1] at h4;rw [h4,← e2]
theorem both_len {l:List (Nat × (Vl × Nat))} {lw:List (Nat × (Vl × Value))} (hs:mapA (·.1) lw=strip l):l.length=lw.length:=by
 have h1:=congrArg List.length hs;unfold strip at h1;rw [mapA_len,mapA_len] at h1;exact h1.symm
theorem getI_len {m:List (Nat × List UInt8)} (h:∀ q∈m,q.2.length=256) (j:Int):((getI j m).getD zeroB).length=256:=by
 unfold getI
 split
 ·exact List.length_replicate
 ·exact blkAt_len h j.toNat
theorem looks_any (n0 n1:Nat) (w:World) (B Ba:Nat) (l:List (Nat × (Vl × Nat))) (h:DevAt n0 w B Ba l) (C:Nat) (sv:Value) (lw:List (Nat × (Vl × Value))) (hr:RDevAt n1 w C sv lw) (hs:mapA (·.1) lw=strip l) (hsh:(devS (strip l)).length≤100000) (hl:l.length≤100000) (leave:Int) :
  Calls Tryz.prog 11 #[.pointer (some ⟨B,0,none⟩),.pointer (some ⟨C,0,none⟩),.int .i64 leave] w fun e w'=>e = .returned (.bool true)∧Below w.heap.size w w':=by
 have hlen:=both_len hs;obtain ⟨n,hn⟩:∃ n,lw.length=n:=⟨_,rfl⟩
 obtain ⟨av,cv,rfl⟩:=row_slice hr.row;have HDO:Hid (DevOk (strip l)):=hid h.ok;have CV:=dvolumes_at n0 w B Ba l h (by omega);have CS:Hid (∀ (m:Int) X,Below w.heap.size w X→Calls Tryz.prog 34 #[.pointer (some ⟨B,0,none⟩),.pointer (some ⟨C,0,none⟩),.int .i64 m] X fun e w'=>e = .returned (.bool true)∧Below X.heap.size X w') :=
  hid (fun m X hX=>callsIn_wide.1 (spots_in n0 n1 X B Ba l (h.below hX) C _ lw (hr.below hX) hs (by omega) m))
 have CB:Hid (∀ X,Below w.heap.size w X→Calls Tryz.prog 29 #[.pointer (some ⟨B,0,none⟩)] X fun e w'=>∃ v,e = .returned v∧w'.ownsRow X.heap.size 5 1 v (devB (strip l)).length (bV (devB (strip l)))∧Below X.heap.size X w') :=
  hid (fun X hX=>dbytes_at n0 X B Ba l (h.below hX) hsh hl)
 have CRB:Hid (∀ X,Below w.heap.size w X→Calls Tryz.prog 35 #[.pointer (some ⟨C,0,none⟩)] X fun e w'=>∃ v,e = .returned v∧w'.ownsRow X.heap.size 5 1 v (devB (strip l)).length (bV (devB (strip l)))∧Below X.heap.size X w') :=
  hid (fun X hX=>by
   have h1:=rbytes_any n1 X C _ lw (hr.below hX) (by rw [hs];exact h.ok) (by omega);rw [hs] at h1;exact h1.mono fun e w' ⟨v,he,hv⟩=>⟨v,he,hv.1,hv.2⟩)
 have HH:=hid h;have HR:=hid hr;have HS:=hid hs;have HN:=hid hn;have HNL:Hid (l.length=n):=hid (by omega);rw [show l.length=n from HNL.out] at CV;rw [hn] at HR;have hn1:n≤100000:=by rw [← HNL.out];exact hl
 clear h hr hs hlen hn hsh hl
 go_enter Tryz.func11,Tryz.ntmps11
 go_wp2_with fail;refine CV.mono ?_;rintro e w1 ⟨v1,rfl,ho1,hb1⟩;obtain ⟨a1,c1,rfl⟩:=row_slice ho1;have HO1:=hid ho1;have HB1:=hid hb1;have HD1:=hid (HR.out.below hb1);clear CV ho1 hb1;obtain ⟨TX,hTX⟩:∃ x,devB (strip l)=x:=⟨_,rfl⟩
 rw [hTX] at CB CRB;obtain ⟨SX,hSX⟩:∃ x,strB TX=x:=⟨_,rfl⟩
 have HSX:=hid hSX;have HTX:=hid hTX;clear hSX hTX
 go_upto_region 2 with fail
 go_cut [48] (fun c wx=>∃ W,W=wx∧c = .bool false∧Below w1.heap.size w1 W)
 case first =>
  have HSS:Hid (∀ X,Below w1.heap.size w1 X→(X.cell? ⟨C,0,none⟩=some (.slice av n cv))∧Below w1.heap.size w1 X):=hid (fun X hb=>⟨(World.cell?_of_block (hb.block _ (HD1.out.lt))).trans (HD1.out.cell),hb⟩);refine region_normal (S:=fun X=>(X.cell? ⟨C,0,none⟩=some (.slice av n cv))∧Below w1.heap.size w1 X) (by kernel_rfl) (HSS.out _ (Below.refl _ _).drew) (fun hHeld => ?_);have hbe:Below w1.heap.size w1 w1.drew:=(Below.refl _ _).drew;obtain ⟨wd,hwd⟩:∃ y,w1.drew=y:=⟨_,rfl⟩
  rw [hwd] at hHeld hbe ⊢;have HBE:=hid hbe;have HS0:Hid (w1.heap.size≤wd.heap.size):=hid HBE.out.size;clear hwd hbe;refine tkR 0 rfl ?_;refine tkR 2 rfl ?_;refine tkR 1 rfl ?_;refine tkR 3 rfl ?_;refine tkR 4 rfl ?_;refine tkR 5 rfl ?_;refine tkR 6 rfl ?_;refine tkS 7 (.bool false) rfl ?_ ?_
  ·(intro w hSw;simp only [gE1,gE2,gE3];(go_simp;first | done | with_reducible rfl | simp))
  refine tkR 8 rfl ?_;refine tkR 9 rfl ?_;refine tkR 10 rfl ?_;refine rd1 11 rfl fun K hK => ?_;simp only [gE1,gE2,gE3];go_simp;refine (CS.out 0 _ (bthen HB1.out HBE.out)).mono ?_;rintro e w11 ⟨rfl,hb11⟩;dsimp only;have HBE:=hid (bthen HBE.out hb11);clear hHeld;refine hK.out _ _ (HSS.out _ HBE.out) fun hHeld => ?_;clear hK K;try simp only [Act.put,pE1,pE2,pE3]
  have HC11:=hid hb11;clear hb11;refine tkR 12 rfl ?_;refine tkS 13 (.bool false) rfl ?_ ?_
  ·(intro w hSw;simp only [gE1,gE2,gE3];(go_simp;first | done | with_reducible rfl | simp))
  refine tkR 14 rfl ?_;refine tkR 15 rfl ?_;refine tkR 16 rfl ?_;refine tkR 17 rfl ?_;refine rd1 18 rfl fun K hK => ?_;simp only [gE1,gE2,gE3];go_simp;refine (CS.out leave _ (bthen HB1.out HBE.out)).mono ?_;rintro e w18 ⟨rfl,hb18⟩;dsimp only;have HBE:=hid (bthen HBE.out hb18);clear hHeld;refine hK.out _ _ (HSS.out _ HBE.out) fun hHeld => ?_;clear hK K;try simp only [Act.put,pE1,pE2,pE3]
  have HC18:=hid hb18;clear hb18;refine tkR 19 rfl ?_;refine tkS 20 (.bool false) rfl ?_ ?_
  ·(intro w hSw;simp only [gE1,gE2,gE3];(go_simp;first | done | with_reducible rfl | simp))
  refine tkR 21 rfl ?_;refine tkR 22 rfl ?_;refine tkR 25 rfl ?_;refine rd1 23 rfl fun K hK => ?_;simp only [gE1,gE2,gE3];go_simp;refine (CB.out _ (bthen HB1.out HBE.out)).mono ?_;rintro e w23 ⟨v23,rfl,ho23,hb23⟩;dsimp only;refine hK.out _ _ ?_ (fun hHeld => ?_)
  ·exact HSS.out _ (bthen HBE.out hb23)
  clear hK K;try simp only [Act.put,pE1,pE2,pE3]
  have HBE:=hid (bthen HBE.out hb23);obtain ⟨a23,c23,e23⟩:=row_slice ho23;subst e23;have HT23:Hid (∀ X,Below w23.heap.size w23 X→((convert 33 9 (.slice a23 TX.length c23)).run Tryz.prog X).andThen (fun a w'=>Result.ok (Next.value a) w') = .ok (.value (.string SX)) X):=hid (fun X hX=>by rw [← HSX.out];exact run_textL X _ _ _ ((Rd.of_own ho23).below hX));clear ho23 hb23;refine rd2 24 26 rfl rfl (fun K hK => ?_) fun K hK => ?_
  ·skip
   have hrd:=HT23.out w23 (by first | exact Below.refl _ _ | exact HC26.out);simp only [gE1,gE2,gE3];go_simp;clear hrd;refine hK.out _ _ ?_ (fun hHeld => ?_)
   ·exact (by first | exact HSS.out _ HBE.out | exact HSS.out _ HMD.out)
   clear hK K;try simp only [Act.put,pE1,pE2,pE3]
   refine rd1 26 rfl fun K hK => ?_;simp only [gE1,gE2,gE3];go_simp;refine (CRB.out _ (bthen HB1.out HBE.out)).mono ?_;rintro e w26 ⟨v26,rfl,ho26,hb26⟩;dsimp only;refine hK.out _ _ ?_ (fun hHeld => ?_)
   ·exact HSS.out _ (bthen HBE.out hb26)
   clear hK K;try simp only [Act.put,pE1,pE2,pE3]
   have HBE:=hid (bthen HBE.out hb26);have HC26:=hid hb26;obtain ⟨a26,c26,e26⟩:=row_slice ho26;subst e26;have HT26:Hid (∀ X,Below w26.heap.size w26 X→((convert 33 9 (.slice a26 TX.length c26)).run Tryz.prog X).andThen (fun a w'=>Result.ok (Next.value a) w') = .ok (.value (.string SX)) X):=hid (fun X hX=>by rw [← HSX.out];exact run_textL X _ _ _ ((Rd.of_own ho26).below hX));clear ho26 hb26;refine rd1 27 rfl fun K hK => ?_;have hrd:=HT26.out w26 (Below.refl _ _);simp only [gE1,gE2,gE3];go_simp;clear hrd;refine hK.out _ _ ?_ (fun hHeld => ?_)
   ·exact (by first | exact HSS.out _ HBE.out | exact HSS.out _ HMD.out)
   clear hK K;try simp only [Act.put,pE1,pE2,pE3]
   refine tkS 28 (.bool false) rfl ?_ ?_
   ·(intro w hSw;simp only [gE1,gE2,gE3];(go_simp;first | done | with_reducible rfl | simp))
   refine tkS 29 (.bool false) rfl ?_ ?_
   ·(intro w hSw;simp only [gE1,gE2,gE3];(go_simp;first | done | with_reducible rfl | simp))
   refine wpAnyH_done (by kernel_rfl) ⟨rfl,?_⟩ _;have HEND:=hid hHeld.2;have HSE:=hid hHeld.1;clear hHeld;clear HSE HSS HEND;go_wp2_with fail;go_meet;exact ⟨_,rfl,rfl,HBE.out⟩
  ·skip
   simp only [gE1,gE2,gE3];go_simp;refine (CRB.out _ (bthen HB1.out HBE.out)).mono ?_;rintro e w26 ⟨v26,rfl,ho26,hb26⟩;dsimp only;refine hK.out _ _ ?_ (fun hHeld => ?_)
   ·exact HSS.out _ (bthen HBE.out hb26)
   clear hK K;try simp only [Act.put,pE1,pE2,pE3]
   have HBE:=hid (bthen HBE.out hb26);have HC26:=hid hb26;obtain ⟨a26,c26,e26⟩:=row_slice ho26;subst e26;have HT26:Hid (∀ X,Below w26.heap.size w26 X→((convert 33 9 (.slice a26 TX.length c26)).run Tryz.prog X).andThen (fun a w'=>Result.ok (Next.value a) w') = .ok (.value (.string SX)) X):=hid (fun X hX=>by rw [← HSX.out];exact run_textL X _ _ _ ((Rd.of_own ho26).below hX));clear ho26 hb26;refine rd2 24 27 rfl rfl (fun K hK => ?_) fun K hK => ?_
   ·skip
    have hrd:=HT23.out w26 (by first | exact Below.refl _ _ | exact HC26.out);simp only [gE1,gE2,gE3];go_simp;clear hrd;refine hK.out _ _ ?_ (fun hHeld => ?_)
    ·exact (by first | exact HSS.out _ HBE.out | exact HSS.out _ HMD.out)
    clear hK K;try simp only [Act.put,pE1,pE2,pE3]
    refine rd1 27 rfl fun K hK => ?_;have hrd:=HT26.out w26 (Below.refl _ _);simp only [gE1,gE2,gE3];go_simp;clear hrd;refine hK.out _ _ ?_ (fun hHeld => ?_)
    ·exact (by first | exact HSS.out _ HBE.out | exact HSS.out _ HMD.out)
    clear hK K;try simp only [Act.put,pE1,pE2,pE3]
    refine tkS 28 (.bool false) rfl ?_ ?_
    ·(intro w hSw;simp only [gE1,gE2,gE3];(go_simp;first | done | with_reducible rfl | simp))
    refine tkS 29 (.bool false) rfl ?_ ?_
    ·(intro w hSw;simp only [gE1,gE2,gE3];(go_simp;first | done | with_reducible rfl | simp))
    refine wpAnyH_done (by kernel_rfl) ⟨rfl,?_⟩ _;have HEND:=hid hHeld.2;have HSE:=hid hHeld.1;clear hHeld;clear HSE HSS HEND;go_wp2_with fail;go_meet;exact ⟨_,rfl,rfl,HBE.out⟩
   ·skip
    have hrd:=HT26.out w26 (Below.refl _ _);simp only [gE1,gE2,gE3];go_simp;clear hrd;refine hK.out _ _ ?_ (fun hHeld => ?_)
    ·exact (by first | exact HSS.out _ HBE.out | exact HSS.out _ HMD.out)
    clear hK K;try simp only [Act.put,pE1,pE2,pE3]
    refine rd1 24 rfl fun K hK => ?_;have hrd:=HT23.out w26 (by first | exact Below.refl _ _ | exact HC26.out);simp only [gE1,gE2,gE3];go_simp;clear hrd;refine hK.out _ _ ?_ (fun hHeld => ?_)
    ·exact (by first | exact HSS.out _ HBE.out | exact HSS.out _ HMD.out)
    clear hK K;try simp only [Act.put,pE1,pE2,pE3]
    refine tkS 28 (.bool false) rfl ?_ ?_
    ·(intro w hSw;simp only [gE1,gE2,gE3];(go_simp;first | done | with_reducible rfl | simp))
    refine tkS 29 (.bool false) rfl ?_ ?_
    ·(intro w hSw;simp only [gE1,gE2,gE3];(go_simp;first | done | with_reducible rfl | simp))
    refine wpAnyH_done (by kernel_rfl) ⟨rfl,?_⟩ _;have HEND:=hid hHeld.2;have HSE:=hid hHeld.1;clear hHeld;clear HSE HSS HEND;go_wp2_with fail;go_meet;exact ⟨_,rfl,rfl,HBE.out⟩
 case rest =>
  obtain ⟨w3,rfl,rfl,hbc⟩:=hcut;have HBC:=hid hbc;clear hbc;have HB3:Hid (Below w.heap.size w w3):=hid (bthen HB1.out HBC.out);have HDX:Hid (∀ X,Below w3.heap.size w3 X→RDevAt n1 X C (.slice av n cv) lw):=hid (fun X hX=>HD1.out.below (bthen HBC.out hX));have HOX:Hid (∀ X,Below w3.heap.size w3 X→X.ownsRow w.heap.size 38 1 (.slice a1 n c1) n (l.map fun p=>.int .u64 (p.1:Int))):=hid (fun X hX=>ownsRow_below HO1.out (bthen HBC.out hX));have HAX:Hid (∀ X,Below w3.heap.size w3 X→DevAt n0 X B Ba l):=hid (fun X hX=>HH.out.below (bthen HB3.out hX))
  go_wp2_with fail
  go_loopw [8] (fun i wr=>∃ k:Nat,k≤n∧i = .int .i64 (k:Int)∧Below w3.heap.size w3 wr) (fun i _=>n - (Go.Proofs.intOf i).toNat)
  case atStart=>exact ⟨0,Nat.zero_le _,rfl,Below.refl _ _⟩
  case round =>
   obtain ⟨k,hk,rfl,hbw⟩:=hrel;have HBW:=hid hbw;clear hbw
   by_cases hlt:k<n
   ·have q0:decide ((k:Int)<(n:Int))=true:=decide_eq_true (by omega)
    obtain ⟨p,hp⟩:∃ p,lw[k]? = some p:=⟨_,List.getElem?_eq_getElem (by rw [HN.out];exact hlt)⟩
    obtain ⟨⟨b,hlk,hgk⟩,hsk⟩:=both_at HS.out hp HDO.out.ris;have hvo:=HDO.out.vol _ (List.mem_of_getElem? hsk);have hnat:=HDO.out.nat _ (List.mem_of_getElem? hsk);dsimp only at hvo hnat;obtain ⟨g1,cap1,cur1,e1,_,hh1,hcur,_,_⟩:=row_cell (HOX.out _ (Below.refl _ _)) (i:=k) (x:=.int .u64 (p.1:Int)) (by rw [List.getElem?_map,hlk];rfl);obtain ⟨rfl,_,rfl⟩:=Value.slice.inj e1;obtain ⟨g,cap,hv,_⟩:=(HDX.out _ (Below.refl _ _)).at_ hp;obtain ⟨rfl,hnl2,rfl⟩:=Value.slice.inj hv;clear hnl2
    obtain ⟨am,cm,hm⟩:=row_slice ((HDX.out _ (Below.refl _ _)).blk p (List.mem_of_getElem? hp));obtain ⟨ml,hml⟩:∃ x,p.2.1.m.length=x:=⟨_,rfl⟩
    rw [hml] at hm;have HSM:=hid hm;have HML:=hid hml;have HCX:Hid (∀ X,Below w3.heap.size w3 X→X.cell? ⟨C,0,none⟩=some (.slice (some ⟨g,0,none⟩) n cv)∧X.cell? ⟨g,k * 3,none⟩=some (.int .u64 (p.1:Int))∧X.cell? ⟨g,k * 3+1,none⟩=some (.int .i64 (p.2.1.size:Int))∧X.cell? ⟨g,k * 3+2,none⟩=some (.slice am ml cm)∧X.cell? ⟨g1,k,none⟩=some (.int .u64 (p.1:Int))∧C<X.heap.size∧g<X.heap.size∧g1<X.heap.size):=hid (fun X hX=>by
     obtain ⟨g',cap',hv',_,_,h1,h2,h3⟩:=(HDX.out X hX).at_ hp;obtain ⟨e4,_,_⟩:=Value.slice.inj hv';obtain ⟨rfl,_,_⟩:=Addr.mk.inj (Option.some.inj e4);obtain ⟨g1',cap1',cur1',e1',_,hh1',hcur',_,_⟩:=row_cell (HOX.out X hX) (i:=k) (x:=.int .u64 (p.1:Int)) (by rw [List.getElem?_map,hlk];rfl);obtain ⟨e5,_,_⟩:=Value.slice.inj e1';obtain ⟨rfl,_,_⟩:=Addr.mk.inj (Option.some.inj e5);refine ⟨(HDX.out X hX).cell,h1,h2,by rw [← HSM.out];exact h3,?_,(HDX.out X hX).lt,ownsRow_lt (HDX.out X hX).row _ (by rw [ob_some];simp),(hLT hh1')⟩
     exact cellOf hh1' k (by simpa using hcur'))
    have CSZ:Hid (∀ X,Below w3.heap.size w3 X→Calls Tryz.prog 15 #[.pointer (some ⟨B,0,none⟩),.int .u64 (p.1:Int)] X fun e w'=>e = .returned (.tuple #[.int .i64 (p.2.1.size:Int),.bool true])∧Below X.heap.size X w') :=
     hid (fun X hX=>dsize_in n0 X B Ba l (HAX.out X hX) p.1 (by omega) _ hgk)
    have CMP:Hid (∀ X,Below w3.heap.size w3 X→Calls Tryz.prog 16 #[.pointer (some ⟨B,0,none⟩),.int .u64 (p.1:Int)] X fun e w'=>∃ a c,e = .returned (.slice a ml c)∧Below X.heap.size X w') :=
     hid (fun X hX=>(dmapped_in n0 X B Ba l (HAX.out X hX) p.1 (by omega) _ hgk).mono fun e w' ⟨v,he,ho,_,hb⟩=>by
      obtain ⟨a,c,rfl⟩:=row_slice ho;dsimp only at he;rw [hml] at he;exact ⟨a,c,he,hb⟩)
    have CBK:Hid (∀ (j:Int) X,-9223372036854775808≤j∧j≤9223372036854775807→Below w3.heap.size w3 X→Calls Tryz.prog 24 #[.pointer (some ⟨B,0,none⟩),.int .u64 (p.1:Int),.int .i64 j] X fun e w'=>e = .returned (.tuple #[bA ((getI j p.2.1.m).getD zeroB),.bool (getI j p.2.1.m).isSome])∧Below X.heap.size X w') :=
     hid (fun j X hj hX=>dblock_in n0 X B Ba l (HAX.out X hX) p.1 (by omega) _ hgk j hj)
    have CGT:Hid (∀ (j:Int) X,Below w3.heap.size w3 X→Calls Tryz.prog 36 #[.pointer (some ⟨g,k * 3,none⟩),.int .i64 j] X fun e w'=>e = .returned (.tuple #[bA ((getI j p.2.1.m).getD zeroB),.bool (getI j p.2.1.m).isSome])∧Below X.heap.size X w') :=
     hid (fun j X hX=>rget_any n1 X g (k * 3) p.2.2 p.2.1.m ((HDX.out X hX).vol hp) hvo.blk hvo.ris (by have:=hvo.len;omega) j)
    have HBL:Hid (∀ j:Int,((getI j p.2.1.m).getD zeroB).length=256):=hid (getI_len hvo.blk);have hps:p.2.1.size≤256:=hvo.size;have hmlb:ml≤256:=by rw [← HML.out];exact hvo.len
    obtain ⟨pn,hpn⟩:∃ x,p.1=x:=⟨_,rfl⟩
    obtain ⟨ps,hps2⟩:∃ x,p.2.1.size=x:=⟨_,rfl⟩
    rw [hpn] at HCX CSZ CMP CBK;rw [hps2] at HCX CSZ hps;have hpnb:pn<4294967296:=by rw [← hpn];exact hnat.2
    clear hp hlk hgk hsk hvo hnat e1 hh1 hcur hv hm hml hpn hps2;obtain ⟨c0,c1',c2,c3,c4,_,_,_⟩:=HCX.out _ HBW.out;go_wp2_with fail;refine (CSZ.out _ HBW.out).mono ?_;rintro e w7 ⟨rfl,hb7⟩;dsimp only;have HB7:=hid (bthen HBW.out hb7);clear hb7 c0 c1' c2 c3 c4;obtain ⟨c0,c1',c2,c3,c4,_,_,_⟩:=HCX.out _ HB7.out;go_wp2_with fail;refine (CMP.out _ HB7.out).mono ?_;rintro e w8 ⟨a8,c8,rfl,hb8⟩;dsimp only;have HB8:=hid (bthen HB7.out hb8);clear hb8 c0 c1' c2 c3 c4;go_wp2_with fail
    have HSS:Hid (∀ X,Below w8.heap.size w8 X→(X.cell? ⟨C,0,none⟩=some (.slice (some ⟨g,0,none⟩) n cv)∧X.cell? ⟨g,k * 3,none⟩=some (.int .u64 (pn:Int))∧X.cell? ⟨g,k * 3+1,none⟩=some (.int .i64 (ps:Int))∧X.cell? ⟨g,k * 3+2,none⟩=some (.slice am ml cm)∧X.cell? ⟨g1,k,none⟩=some (.int .u64 (pn:Int)))∧Below w8.heap.size w8 X):=hid (fun X hb=>⟨⟨(World.cell?_of_block (hb.block _ ((HCX.out _ HB8.out).2.2.2.2.2.1))).trans ((HCX.out _ HB8.out).1),(World.cell?_of_block (hb.block _ ((HCX.out _ HB8.out).2.2.2.2.2.2.1))).trans ((HCX.out _ HB8.out).2.1),(World.cell?_of_block (hb.block _ ((HCX.out _ HB8.out).2.2.2.2.2.2.1))).trans ((HCX.out _ HB8.out).2.2.1),(World.cell?_of_block (hb.block _ ((HCX.out _ HB8.out).2.2.2.2.2.2.1))).trans ((HCX.out _ HB8.out).2.2.2.1),(World.cell?_of_block (hb.block _ ((HCX.out _ HB8.out).2.2.2.2.2.2.2))).trans ((HCX.out _ HB8.out).2.2.2.2.1)⟩,hb⟩)
    refine wp_region_held_drew (S:=fun X=>(X.cell? ⟨C,0,none⟩=some (.slice (some ⟨g,0,none⟩) n cv)∧X.cell? ⟨g,k * 3,none⟩=some (.int .u64 (pn:Int))∧X.cell? ⟨g,k * 3+1,none⟩=some (.int .i64 (ps:Int))∧X.cell? ⟨g,k * 3+2,none⟩=some (.slice am ml cm)∧X.cell? ⟨g1,k,none⟩=some (.int .u64 (pn:Int)))∧Below w8.heap.size w8 X) (by kernel_rfl) (HSS.out _ (Below.refl _ _).drew) (fun hHeld => ?_);have hbe:Below w8.heap.size w8 w8.drew:=(Below.refl _ _).drew;obtain ⟨wd,hwd⟩:∃ y,w8.drew=y:=⟨_,rfl⟩
    rw [hwd] at hHeld hbe ⊢;have HBE:=hid hbe;have HS0:Hid (w8.heap.size≤wd.heap.size):=hid HBE.out.size;clear hwd hbe;refine tkP 0 rfl ?_;refine tkP 1 rfl ?_;refine tkP 4 rfl ?_;refine tkP 8 rfl ?_;refine tkP 2 rfl ?_;refine tkP 5 rfl ?_;refine tkP 3 rfl ?_;refine tkP 6 rfl ?_;refine tkP 7 rfl ?_;refine tkP 9 rfl ?_;refine tkP 10 rfl ?_;refine tkP 11 rfl ?_;refine tkQ 12 (.bool false) rfl ?_ ?_
    ·(intro w hSw;simp only [gE1,gE2,gE3];(go_simp;first | done | with_reducible rfl | simp))
    refine tkP 13 rfl ?_;refine tkP 14 rfl ?_;refine tkP 15 rfl ?_;refine tkQ 16 (.bool false) rfl ?_ ?_
    ·(intro w hSw;simp only [gE1,gE2,gE3];(go_simp;first | done | with_reducible rfl | simp))
    refine tkQ 17 (.bool false) rfl ?_ ?_
    ·(intro w hSw;simp only [gE1,gE2,gE3];(go_simp;first | done | with_reducible rfl | simp))
    refine tkP 18 rfl ?_;refine tkP 19 rfl ?_;refine tkP 23 rfl ?_;refine tkP 20 rfl ?_;refine tkP 21 rfl ?_;refine tkP 22 rfl ?_;refine tkP 24 rfl ?_;refine tkP 25 rfl ?_;refine tkP 26 rfl ?_;refine tkQ 27 (.bool false) rfl ?_ ?_
    ·(intro w hSw;simp only [gE1,gE2,gE3];(go_simp;first | done | with_reducible rfl | simp))
    refine tkQ 28 (.bool false) rfl ?_ ?_
    ·(intro w hSw;simp only [gE1,gE2,gE3];(go_simp;first | done | with_reducible rfl | simp))
    refine tkQ 29 (.bool false) rfl ?_ ?_
    ·(intro w hSw;simp only [gE1,gE2,gE3];(go_simp;first | done | with_reducible rfl | simp))
    refine tkP 30 rfl ?_;refine tkP 32 rfl ?_;refine tkP 36 rfl ?_;refine tkP 31 rfl ?_;refine tkP 33 rfl ?_;refine tkP 34 rfl ?_;refine tkP 35 rfl ?_;refine tkP 37 rfl ?_;refine tkP 38 rfl ?_;refine tkP 39 rfl ?_;refine tkP 40 rfl ?_;refine tkQ 41 (.bool false) rfl ?_ ?_
    ·(intro w hSw;simp only [gE1,gE2,gE3];(go_simp;first | done | with_reducible rfl | simp))
    refine tkQ 42 (.bool false) rfl ?_ ?_
    ·(intro w hSw;simp only [gE1,gE2,gE3];(go_simp;first | done | with_reducible rfl | simp))
    refine wpAnyH_done (by kernel_rfl) ?_ _;have HEND:=hid hHeld.2;have HSE:=hid hHeld.1;clear hHeld;clear HSE HSS HEND;have HBD:Hid (Below w3.heap.size w3 wd):=hid (bthen HB8.out HBE.out);go_wp2_with fail;have HZ:Hid (∀ (X:World) (c:List UInt8),c.length=256→(storeCells ⟨X.heap.size,0,none⟩ (bV c)).run Tryz.prog (X.alloc (.cells Tryz.zeroCells50 50)) = .ok () (X.alloc (.cells (bV c).toArray 50))):=hid (fun X c hc=>by
     have:=run_storeNew (P:=Tryz.prog) X 50 Tryz.zeroCells50 (bV c).toArray (by rw [zszL];simp [bV_len,hc]) (by simpa using bV_one c)
     simpa using this)
    have HEQ:Hid (∀ (X:World) (c d:List UInt8),c.length=256→d.length=256→(Op.equalIn 10000 50 (.agg (bV c).toArray) (.agg (bV d).toArray)).run Tryz.prog X = .ok (c == d) X):=hid (fun X c d hc hd=>run_equalIn_bytes (P:=Tryz.prog) X (t:=50) (e:=5) (n:=256) Tryz.underlying50 Tryz.underlying5 rfl rfl 9998 c d hc hd);obtain ⟨wo,rfl⟩:∃ wo:World,wo=wr:=⟨_,rfl⟩
    go_loopw [12] (fun i wx=>∃ j:Int,-1≤j∧j≤(ps:Int)+1∧i = .int .i64 j∧Below w3.heap.size w3 wx) (fun i _=>((ps:Int)+1 - Go.Proofs.intOf i).toNat)
    case atStart=>exact ⟨-1,by omega,by omega,rfl,HBD.out⟩
    case round =>
     obtain ⟨j,hj1,hj2,rfl,hbx⟩:=hrel;have HBX:=hid hbx;clear hbx
     by_cases hlt5:j≤(ps:Int)
     rotate_left
     ·have q5:decide (j≤(ps:Int))=false:=decide_eq_false hlt5
      go_wp2_with fail;go_roundw
      case rel=>exact ⟨k+1,by omega,by go_num,HBX.out⟩
      case measure=>simp [Go.Proofs.intOf];omega
     have q5:decide (j≤(ps:Int))=true:=decide_eq_true hlt5;obtain ⟨c,hc⟩:∃ c,(getI j p.2.1.m).getD zeroB=c:=⟨_,rfl⟩
     obtain ⟨z,hz⟩:∃ z,(getI j p.2.1.m).isSome=z:=⟨_,rfl⟩
     have hcl:c.length=256:=by rw [← hc];exact HBL.out j
     have CB1:=CBK.out j wr (by omega) HBX.out;have CB2:Hid (∀ X,Below w3.heap.size w3 X→Calls Tryz.prog 36 #[.pointer (some ⟨g,k * 3,none⟩),.int .i64 j] X fun e w'=>e = .returned (.tuple #[bA c,.bool z])∧Below X.heap.size X w'):=hid (fun X hX=>by
      have h:=CGT.out j X hX;rw [hc,hz] at h;exact h)
     rw [hc,hz] at CB1;have HCL:=hid hcl;clear hc hz;obtain ⟨c0,c1',c2,c3,c4,_,_,_⟩:=HCX.out _ HBX.out;go_wp2_with fail;refine CB1.mono ?_;rintro e w20 ⟨rfl,hb20⟩;unfold bA;dsimp only;have hst1:=HZ.out w20 c hcl;have hcs:(bV c).toArray.size=256:=by simp [bV_len,hcl]
     obtain ⟨w21,hw21⟩:∃ W,w20.alloc (.cells (bV c).toArray 50)=W:=⟨_,rfl⟩
     have hb21:Below w20.heap.size w20 w21:=by rw [← hw21];exact balloc (Below.refl _ _) _
     have hx21:w21.heap[w20.heap.size]? = some (.cells (bV c).toArray 50 (0,0)):=by rw [← hw21];exact heap_alloc_new w20 _
     have HB21:=hid (bthen HBX.out (bthen hb20 hb21));have HX21:=hid hx21;clear CB1 hb20 hb21 hx21 c0 c1' c2 c3 c4;obtain ⟨c0,c1',c2,c3,c4,_,_,_⟩:=HCX.out _ HB21.out;have CB2b:=CB2.out w21 HB21.out;go_wp2_with fail;clear c0 c1' c2 c3 c4 hst1;refine CB2b.mono ?_;rintro e w22 ⟨rfl,hb22⟩;unfold bA;dsimp only;have hst2:=HZ.out w22 c hcl;obtain ⟨w23,hw23⟩:∃ W,w22.alloc (.cells (bV c).toArray 50)=W:=⟨_,rfl⟩
     have hb23:Below w22.heap.size w22 w23:=by rw [← hw23];exact balloc (Below.refl _ _) _
     have hx23:w23.heap[w22.heap.size]? = some (.cells (bV c).toArray 50 (0,0)):=by rw [← hw23];exact heap_alloc_new w22 _
     have HB23:=hid (bthen HB21.out (bthen hb22 hb23));have HX23:=hid (And.intro (((bthen hb22 hb23).block _ (hLT HX21.out)).trans HX21.out) hx23);have hne:=HEQ.out w23 c c hcl hcl;rw [beq_self_eq_true] at hne;have HI:=hid (infoB hcl);have hzz:(z != z)=false:=by simp
     clear CB2b hb22 hb23 hx23 hw21
     go_wp2_with (first
      | (refine wpList_load_mid rfl 50 _ rfl w20.heap.size 0 rfl (bV c) _ (blkBox HX23.out.1) Tryz.underlying50 rfl HI.out ?_)
      | (refine wpList_load_mid rfl 50 _ rfl w22.heap.size 0 rfl (bV c) _ (blkBox HX23.out.2) Tryz.underlying50 rfl HI.out ?_))
     go_roundw
     case rel=>exact ⟨j+1,by omega,by omega,by go_num,HB23.out⟩
     case measure=>simp [Go.Proofs.intOf];omega
   ·obtain rfl:k=n:=by omega
    have hcc:=(HDX.out _ HBW.out).cell;have q0:decide ((k:Int)<(k:Int))=false:=decide_eq_false (by omega);go_wp2_with fail;go_ret;exact ⟨rfl,bthen HB3.out HBW.out⟩
end Go.Proofs.YthkmihedkddnmaaGreat
namespace Go.Proofs.YthkmihedkddnmaaGreat
open Lib (hid)
open Go.RowKit Wire
theorem store_at {P:Program} (W:World) (g:Nat) (T:TypeId) (old cs:Array Value) (h:W.heap[g]? = some (.cells old T (0,0))) (hs:old.size=cs.size) (h1:∀ u∈cs.toList,u.oneCell'=true) :
  ∃ W',(storeCells ⟨g,0,none⟩ cs.toList).run P W = .ok () W'∧W'.heap[g]? = some (.cells cs T (0,0))∧Mods [g] W W':=by
 have h2:=run_storeCells_from (P:=P) g T cs.toList 0 old W h (by simp;omega) h1;simp only [List.take_zero,List.nil_append,Array.toArray_toList] at h2;exact ⟨_,h2,setRow_heap W g _ _ T _ h,rfl,rfl,rfl,by simp [World.setRow],fun k hk hn=>setRow_other W g k _ (by simpa using hn)⟩
theorem rcut_any (b:List UInt8) (hb:b.length=256) (blk:Int) (f t:Nat) (hf:f<t) (ht:t≤4) (w:World) :
  Calls Tryz.prog 54 #[bA b,.agg #[.int .i64 blk,.int .i64 (f:Int),.int .i64 (t:Int)]] w fun e w'=>∃ v',e = .returned v'∧w'.ownsRow w.heap.size 5 1 v' ((t - f) * 64) (bV (cutB b f t))∧Below w.heap.size w w':=by
 obtain ⟨w2,hw2⟩:∃ W,(w.alloc (.cells (bV b).toArray 50)).alloc (.cells #[.int .i64 blk,.int .i64 (f:Int),.int .i64 (t:Int)] 100)=W:=⟨_,rfl⟩
 have hb2:Below w.heap.size w w2:=by rw [← hw2];exact balloc (balloc (Below.refl _ _) _) _
 have h0:w2.heap[w.heap.size]? = some (.cells (bV b).toArray 50 (0,0)):=by
  rw [← hw2];exact ((balloc (Below.refl _ (w.alloc (.cells (bV b).toArray 50))) _).block _ (by simp)).trans (heap_alloc_new w _)
 have h1:w2.heap[w.heap.size+1]? = some (.cells #[.int .i64 blk,.int .i64 (f:Int),.int .i64 (t:Int)] 100 (0,0)):=by
  rw [← hw2];have:=heap_alloc_new (w.alloc (.cells (bV b).toArray 50)) (.cells #[.int .i64 blk,.int .i64 (f:Int),.int .i64 (t:Int)] 100)
  simpa using this
 have HB2:=hid hb2;have H0:=hid h0;have H1:=hid h1;have HLB:=hid hb;have d0:=cellOf h1 0 (v:=.int .i64 blk) rfl;have d1:=cellOf h1 1 (v:=.int .i64 (f:Int)) rfl;have d2:=cellOf h1 2 (v:=.int .i64 (t:Int)) rfl;clear h0 h1 hb2 hb;unfold bA
 generalize hXA:(bV b).toArray=XA at *
 have HXA:=hid hXA;clear hXA
 go_enter Tryz.func54,Tryz.ntmps54
 go_upto_region 2 with fail
 (try rw [hw2])
 clear hw2;go_wp2_with fail
 go_loopw [5,6] (fun v i wr=>∃ k:Nat,k≤(t - f) * 64∧i = .int .i64 ((f * 64+k:Nat):Int)∧wr.ownsRow w2.heap.size 5 1 v k (bV ((b.drop (f * 64)).take k))∧Below w2.heap.size w2 wr) (fun _ i _=>t * 64 - (Go.Proofs.intOf i).toNat)
 case atStart=>exact ⟨0,by omega,by go_num,World.ownsRow_nil _ _ _ _,Below.refl _ _⟩
 case round =>
  obtain ⟨k,hk,rfl,ho,hbw⟩:=hrel;have HO:=hid ho;have HBW:=hid hbw;have hx1:=(hbw.block _ (hLT H1.out)).trans H1.out;have e0:=cellOf hx1 0 (v:=.int .i64 blk) rfl;have e1:=cellOf hx1 1 (v:=.int .i64 (f:Int)) rfl;have e2:=cellOf hx1 2 (v:=.int .i64 (t:Int)) rfl;have CS:=span12_any blk f t wr;clear ho hbw hx1 d0 d1 d2;have hsp:(decide ((0:Int)≤(f:Int)) && decide ((t:Int)≤4) && decide ((f:Int)<(t:Int)))=true:=by simp;omega
  rw [hsp] at CS;go_wp2_with fail;refine CS.mono ?_;rintro e w3 ⟨rfl,hb3⟩;have HB3:=hid (bthen HBW.out hb3);have HO3:=hid (ownsRow_below HO.out hb3);have hx1:=(HB3.out.block _ (hLT H1.out)).trans H1.out;have hx0:=(HB3.out.block _ (hLT H0.out)).trans H0.out;have d1:=cellOf hx1 1 (v:=.int .i64 (f:Int)) rfl;have d2:=cellOf hx1 2 (v:=.int .i64 (t:Int)) rfl;clear CS e0 e1 e2 hx1 hb3 hsp
  by_cases hlt:k<(t - f) * 64
  ·obtain ⟨y,hy⟩:∃ y,b[f * 64+k]? = some y:=⟨_,List.getElem?_eq_getElem (by rw [HLB.out];omega)⟩
   have hc:w3.cell? ⟨w.heap.size,f * 64+k,none⟩=some (.int .u8 (y.toNat:Int)):=cellOf hx0 (f * 64+k) (by rw [← HXA.out];simp [bV,hy]);have HTK:Hid (bV ((b.drop (f * 64)).take (k+1))=bV ((b.drop (f * 64)).take k) ++ [.int .u8 (y.toNat:Int)]):=hid (by
    rw [List.take_add_one,List.getElem?_drop,hy]
    simp [bV])
   clear hx0 hy
   go_wp2_with (at_builtin;go_must (refine wpList_app rfl _ _ 33 rfl w2.heap.size 5 _ 1 1 Tryz.underlying33 infoByte rfl (by decide) (by decide) _ k _ rfl HO3.out rfl rfl (by simp [Value.oneCell']) (by omega) HB3.out.size ?_);intro v5 w5 ho5 hb5 hg5 hs5 hn5)
   have HO5:Hid (w5.ownsRow w2.heap.size 5 1 v5 (k+1) (bV ((b.drop (f * 64)).take (k+1)))):=hid (by rw [HTK.out];exact ho5);have HB5:=hid (HB3.out.trans hb5);clear ho5 hb5 hg5 hs5 hn5;go_wp2_with fail;go_roundw
   case rel=>exact ⟨k+1,by omega,by go_num,HO5.out,HB5.out⟩
   case measure=>simp [Go.Proofs.intOf];omega
  ·clear hx0
   obtain rfl:k=(t - f) * 64:=by omega
   go_wp2_with fail;go_ret;exact ⟨_,rfl,ownsRow_base HO3.out HB2.out.size,bthen HB2.out HB3.out⟩
theorem splice_set {α:Type} {b d:List α} {o k:Nat} {y:α} (hy:d[k]? = some y) (hl:o+d.length≤b.length):(splice b o (d.take k)).set (o+k) y=splice b o (d.take (k+1)):=by
 have hk:=(List.getElem?_eq_some_iff.1 hy).1;unfold splice;rw [List.take_add_one,hy];simp only [Option.toList_some,List.length_append,List.length_take,List.length_cons,List.length_nil,Nat.min_eq_left (Nat.le_of_lt hk),Nat.zero_add];have h2:b.drop (o+k)=(b[o+k]'(by omega)) :: b.drop (o+(k+1)):=by rw [← Nat.add_assoc];exact List.drop_eq_getElem_cons (by omega)
 rw [h2];rw [List.set_append_right _ _ (by simp;omega)];simp only [List.length_append,List.length_take,Nat.min_eq_left (show o≤b.length by omega),Nat.min_eq_left (Nat.le_of_lt hk),Nat.sub_self,List.set_cons_zero]
 simp
 rw [List.set_append_right _ _ (by rw [List.length_take];omega),List.length_take,Nat.min_eq_left (Nat.le_of_lt hk),Nat.sub_self,List.set_cons_zero]
theorem bV_set (l:List UInt8) (i:Nat) (y:UInt8):(bV l).set i (.int .u8 (y.toNat:Int))=bV (l.set i y):=by
 unfold bV;rw [List.map_set]
theorem rmerge_any (b:List UInt8) (hb:b.length=256) (f:Nat) (hf:f≤4) (v:Value) (n:Nat) (d:List UInt8) (w:World) (hrd:Rd w 1 v n (bV d)) (hn:n % 64=0) (hn2:n≤(4 - f) * 64) :
  Calls Tryz.prog 52 #[bA b,.int .i64 (f:Int),v] w fun e w'=>e = .returned (.tuple #[bA (mergeB b f d),.int .i64 0])∧Below w.heap.size w w':=by
 have hdl:d.length=n:=by obtain ⟨_,_,_,hl,_⟩:=hrd;simpa [bV] using hl
 have HDL:=hid hdl;have HRD:=hid hrd;obtain ⟨ao,cap,rfl,_,_,⟨_,hc1,hc2⟩,hcell⟩:=hrd;unfold maxLen at hc2;obtain ⟨w2,hw2⟩:∃ W,(w.alloc (.cells (bV b).toArray 50)).alloc (.cells Tryz.zeroCells50 50)=W:=⟨_,rfl⟩
 have HB2:Hid (Below w.heap.size w w2):=hid (by rw [← hw2];exact balloc (balloc (Below.refl _ _) _) _);have H0:Hid (w2.heap[w.heap.size]? = some (.cells (bV b).toArray 50 (0,0))):=hid (by
  rw [← hw2];exact ((balloc (Below.refl _ (w.alloc (.cells (bV b).toArray 50))) _).block _ (by simp)).trans (heap_alloc_new w _))
 have H1:Hid (w2.heap[w.heap.size+1]? = some (.cells Tryz.zeroCells50 50 (0,0))):=hid (by
  rw [← hw2];have:=heap_alloc_new (w.alloc (.cells (bV b).toArray 50)) (.cells Tryz.zeroCells50 50)
  simpa using this)
 have HLB:=hid hb;have hn3 : ¬ (4 - (f:Int)<(n:Int) / 64):=by omega
 have hn4:(n:Int) % 64=0:=by omega
 have hg1:decide ((f:Int)<0)=false:=by simp
 have hg2:decide ((4:Int)<(f:Int))=false:=by simp;omega
 have HM:Hid (splice b (f * 64) (d.take n)=mergeB b f d):=hid (by rw [List.take_of_length_le (by omega)];rfl);have HML:Hid ((mergeB b f d).length=256):=hid (by rw [mergeB_len (by omega),hb]);clear hdl hcell hb;unfold bA
 generalize hXA:(bV b).toArray=XA at hw2 H0 ⊢
 have HXA:=hid hXA;clear hXA
 go_enter Tryz.func52,Tryz.ntmps52
 go_upto_region 3 with fail
 (try rw [hw2])
 clear hw2;go_wp2_with fail
 go_loopw [8] (fun i wr=>∃ k:Nat,k≤n∧i = .int .i64 (k:Int)∧wr.heap[w.heap.size]? = some (.cells (bV (splice b (f * 64) (d.take k))).toArray 50 (0,0))∧wr.heap[w.heap.size+1]? = some (.cells Tryz.zeroCells50 50 (0,0))∧Below w.heap.size w wr) (fun i _=>n - (Go.Proofs.intOf i).toNat)
 case atStart=>exact ⟨0,by omega,rfl,by rw [H0.out,← HXA.out,show splice b (f * 64) (d.take 0)=b by simp [splice]],H1.out,HB2.out⟩
 case round =>
  obtain ⟨k,hk,rfl,h0,h1,hbw⟩:=hrel;have HR0:=hid h0;have HR1:=hid h1;have HBW:=hid hbw;have hcell:=(HRD.out.below hbw)
  clear h0 h1 hbw
  by_cases hlt:k<n
  ·obtain ⟨y,hy⟩:∃ y,d[k]? = some y:=⟨_,List.getElem?_eq_getElem (by rw [HDL.out];exact hlt)⟩
   obtain ⟨_,_,ev,_,_,_,hcell⟩:=hcell;obtain ⟨rfl,_,rfl⟩:=Value.slice.inj ev;obtain ⟨g2,off2,rfl,hlt2,hcy⟩:=hcell k (.int .u8 (y.toNat:Int)) (by simp [bV,hy]);have HCY:=hid hcy;obtain ⟨z,hz⟩:∃ z,(bV (splice b (f * 64) (d.take k)))[64 * f+k]? = some z:=⟨_,List.getElem?_eq_getElem (by rw [bV_len,length_splice _ _ _ (by rw [List.length_take,HLB.out,HDL.out];omega),HLB.out];omega)⟩
   have hc0:wr.cell? ⟨w.heap.size,64 * f+k,none⟩=some z:=cellOf HR0.out (64 * f+k) (by simpa using hz);have hf0:=frozenOf HR0.out (64 * f+k);have hwr:IntKind.i64.wrap (64 * (f:Int)+(k:Int))=((64 * f+k:Nat):Int):=by rw [IntWalk.i64_in _ (by omega)];omega
   have hwm:IntKind.i64.wrap (64 * (f:Int))=64 * (f:Int):=IntWalk.i64_in _ (by omega);have hfk:64 * f+k<256:=by omega
   have HS:Hid ((bV (splice b (f * 64) (d.take k))).set (64 * f+k) (.int .u8 (y.toNat:Int))=bV (splice b (f * 64) (d.take (k+1)))):=hid (by rw [show 64 * f+k=f * 64+k by omega,bV_set,splice_set hy (by rw [HDL.out,HLB.out];omega)]);clear hcell ev hy hz;go_wp2_with fail;refine ⟨⟨k+1,by omega,by go_num,?_,?_,?_⟩,by simp [Go.Proofs.intOf];omega⟩
   ·have:=setOf HR0.out (64 * f+k) (.int .u8 (y.toNat:Int))
    rw [List.setIfInBounds_toArray,HS.out] at this;exact this
   ·exact (setOther ⟨w.heap.size,64 * f+k,none⟩ _ (by show w.heap.size+1≠w.heap.size;omega)).trans HR1.out
   ·exact HBW.out.setCell (p:=⟨w.heap.size,64 * f+k,none⟩) (Nat.le_refl _) _
  ·obtain rfl:k=n:=by omega
   clear hcell;have hr0:=HR0.out;rw [HM.out] at hr0;have HML2:=HML;have HRA:Hid (wr.rangeAt w.heap.size 0 (bV (mergeB b f d))):=hid (fun j u hj=>by
    rw [Nat.zero_add];exact cellOf' hr0 j (by simpa using hj))
   have HI:Hid ((Tryz.prog.info? 50).map (·.size)=some (bV (mergeB b f d)).length):=hid (by rw [bV_len,HML2.out];exact infoBlk);have HIT:Hid ((Tryz.prog.info? 50).map (·.size)=some (bV (mergeB b f d)).toArray.size):=hid (by rw [List.size_toArray,bV_len,HML2.out];exact infoBlk);have HTH:Hid (wr.there (w.heap.size+1) 0 (bV (mergeB b f d)).toArray.size):=hid (fun j hj=>by
    have hj:j<256:=by simpa [bV_len,HML2.out] using hj
    rw [Nat.zero_add];exact ⟨by rw [cell_of_row wr _ j _ _ _ HR1.out,Array.getElem?_eq_getElem (by rw [zszM];exact hj)];rfl,frozenOf HR1.out j⟩)
   have HRES:Hid (∀ {fn:Func} {p u:Tmp} (tmps:Array Value),fn.results=#[.cell p 50,.tmp u]→tmps.getD p undef = .pointer (some ⟨w.heap.size+1,0,none⟩)→tmps.getD u undef = .int .i64 0→(results fn tmps).run Tryz.prog (wr.setCells (w.heap.size+1) 0 (bV (mergeB b f d))) = .ok (.tuple #[bA (mergeB b f d),.int .i64 0]) (wr.setCells (w.heap.size+1) 0 (bV (mergeB b f d)))):=hid (fun tmps h hp hx =>
    res_blk h tmps _ _ (mergeB b f d) _ hp hx (World.rangeAt_setCells_same wr _ _ _ (by have:=HTH.out;rwa [List.size_toArray] at this)) HML2.out)
   have HBE:Hid (Below w.heap.size w (wr.setCells (w.heap.size+1) 0 (bV (mergeB b f d)))):=hid (belowSet (Nat.le_succ _) _ _ _ HBW.out);have HON:=hid (all_oneCell_toArray (bV_one (mergeB b f d)));clear hr0
   go_wp2_with (first
    | (refine wpList_load_mid rfl 50 _ rfl w.heap.size 0 rfl (bV (mergeB b f d)) _ HRA.out Tryz.underlying50 rfl HI.out ?_)
    | (refine wpList_store_mid rfl 50 _ _ rfl (w.heap.size+1) 0 (bV (mergeB b f d)).toArray rfl rfl HTH.out HIT.out HON.out ?_))
   exact bodyPost_ret (v:=.tuple #[.agg (bV (mergeB b f d)).toArray,.int .i64 0]) (HRES.out _ rfl rfl rfl) rfl ⟨rfl,HBE.out⟩
end Go.Proofs.YthkmihedkddnmaaGreat
