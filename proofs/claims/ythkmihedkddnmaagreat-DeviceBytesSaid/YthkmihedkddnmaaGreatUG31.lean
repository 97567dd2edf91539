import Derived.Test.YthkmihedkddnmaaGreatUG2
import Derived.Test.YthkmihedkddnmaaGreatUG6
import Derived.Test.YthkmihedkddnmaaGreatUG26
import Derived.Test.YthkmihedkddnmaaGreatUG30
set_option linter.unusedVariables false
set_option linter.unusedSimpArgs false
set_option maxHeartbeats 12800000
set_option maxRecDepth 100000
namespace Go.Proofs.YthkmihedkddnmaaGreat
open Lib (hid)
open Go.RowKit Go.Maps Wire Cmd
theorem blksS_leB:∀ (m:List (Nat × List UInt8)),(blksS m).length≤(blksB m).length
 | []=>Nat.le_refl _
 | q :: m=>by
  have h:=blksS_leB m
  show ([52,35] ++ blksS m:List UInt8).length≤(low q.1 4 ++ q.2 ++ blksB m).length
  simp only [List.length_append,low_len,List.length_cons,List.length_nil];omega
theorem volsS_leB:∀ (l:List (Nat × Vl)),(volsS l).length≤(volsB l).length∧l.length≤(volsB l).length
 | []=>⟨Nat.le_refl _,Nat.le_refl _⟩
 | p :: l=>by
  have h:=volsS_leB l;have h2:=blksS_leB p.2.m;have e1:(volsS (p :: l)).length=3+(blksS p.2.m).length+(volsS l).length:=by
   show (([52,52,52] ++ blksS p.2.m) ++ volsS l:List UInt8).length=_
   simp only [List.length_append,List.length_cons,List.length_nil]
  have e2:(volsB (p :: l)).length=12+(blksB p.2.m).length+(volsB l).length:=by
   show ((low p.1 4 ++ low p.2.size 4 ++ low p.2.m.length 4 ++ blksB p.2.m) ++ volsB l).length=_
   simp only [List.length_append,low_len]
  rw [e1,e2,List.length_cons];omega
theorem devS_le (l:List (Nat × Vl)):(devS l).length≤1+(volsB l).length∧l.length≤(volsB l).length:=by
 have h:=volsS_leB l;refine ⟨?_,h.2⟩
 show (52 :: volsS l).length≤_
 rw [List.length_cons];omega
theorem devBytes_any (v:Value) (m:Nat) (bs:List UInt8) (w:World) (hrd:Rd w 1 v m (bV bs)) :
  Calls Tryz.prog 6 #[v] w fun e w'=>e = .returned (.bool true)∧Below w.heap.size w w':=by
 have HRD:=hid hrd;have HLB:Hid (bs.length=m):=hid (by obtain ⟨_,_,_,hl,_⟩:=hrd;simpa [bV_len] using hl);obtain ⟨av,cv,rfl,hcv1,hcv2⟩:=rd_slice' hrd;unfold maxLen at hcv2;clear hrd
 go_enter Tryz.func6,Tryz.ntmps6
 by_cases hbig:20000<m
 ·have CK:=known14_any w
  go_wp2_with fail;refine CK.mono ?_;rintro e w2 ⟨rfl,hb2⟩;have HB2:=hid hb2;clear CK hb2;go_wp2_with fail;go_ret;exact ⟨rfl,HB2.out⟩
 ·have CD:=dof_any w _ m bs HRD.out (by omega)
  go_wp2_with fail;refine CD.mono ?_;rintro e w1 ⟨hb1,hd⟩;have HB1:=hid hb1;have CR:=rof_any w1 _ m bs (HRD.out.below hb1) (by omega);clear CD hb1
  rcases hd with ⟨ho,rfl⟩ | ⟨l,B,Ba,ho,rfl,hda⟩
  ·go_wp2_with fail
   refine CR.mono ?_;rintro e w2 ⟨hb2,hr⟩;have HB2:=hid (bthen HB1.out hb2);clear CR hb2
   rcases hr with ⟨_,v2,rfl⟩ | ⟨sv,lw,ho2,_⟩
   ·have CN:=num14_any 4 w2
    go_wp2_with fail;refine CN.mono ?_;rintro e w3 ⟨rfl,rfl⟩;have CK:=known14_any w2;clear CN;go_wp2_with fail;refine CK.mono ?_;rintro e w4 ⟨rfl,hb4⟩;have HB4:=hid (bthen HB2.out hb4);clear CK hb4;go_wp2_with fail;go_ret;exact ⟨rfl,HB4.out⟩
   ·rw [ho] at ho2;cases ho2
  ·have HO:=hid ho
   have HDA:=hid hda;clear hda ho;go_wp2_with fail;refine CR.mono ?_;rintro e w2 ⟨hb2,hr⟩;have HB12:=hid hb2;have HB2:=hid (bthen HB1.out hb2);clear CR hb2
   rcases hr with ⟨ho2,v2,rfl⟩ | ⟨sv,lw,ho2,rfl,hra⟩
   ·rw [HO.out] at ho2;cases ho2
   ·have HS:Hid (mapA (·.1) lw=strip l):=hid (Option.some.inj (ho2.symm.trans HO.out))
    have HDB:Hid (devB (strip l)=bs):=hid (dev_of HO.out).2;have HSH:Hid ((devS (strip l)).length≤100000∧l.length≤100000):=hid (by
     have h1:=devS_le (strip l);have h2:(devB (strip l)).length=4+(volsB (strip l)).length:=by unfold devB;rw [List.length_append,low_len]
     have h3:(strip l).length=l.length:=(by unfold strip;rw [mapA_len])
     rw [HDB.out,HLB.out] at h2
     omega)
    have HRA:=hid hra;obtain ⟨C,hC⟩:∃ C,w1.heap.size=C:=⟨_,rfl⟩
    rw [hC] at HRA ⊢;have CKX:Hid (∀ X,Below w2.heap.size w2 X→Calls Tryz.prog 11 #[.pointer (some ⟨B,0,none⟩),.pointer (some ⟨C,0,none⟩),.int .i64 0] X fun e w'=>e = .returned (.bool true)∧Below X.heap.size X w'):=hid (fun X hX=>looks_any w.heap.size C X B Ba l (HDA.out.below (bthen HB12.out hX)) C sv lw (HRA.out.below hX) HS.out HSH.out.1 HSH.out.2 0);have CBX:Hid (∀ X,Below w2.heap.size w2 X→Calls Tryz.prog 29 #[.pointer (some ⟨B,0,none⟩)] X fun e w'=>∃ v,e = .returned v∧w'.ownsRow X.heap.size 5 1 v m (bV bs)∧Below X.heap.size X w'):=hid (fun X hX=>by
     have h1:=dbytes_at w.heap.size X B Ba l (HDA.out.below (bthen HB12.out hX)) HSH.out.1 HSH.out.2;rw [HDB.out,HLB.out] at h1;exact h1)
    obtain ⟨SB,hSB⟩:∃ x,strB bs=x:=⟨_,rfl⟩
    have HSB:=hid hSB;have HTB:Hid (∀ X,Below w2.heap.size w2 X→((convert 33 9 (.slice av m cv)).run Tryz.prog X).andThen (fun a w'=>Result.ok (Next.value a) w') = .ok (.value (.string SB)) X):=hid (fun X hX=>by rw [← hSB];exact run_textL X _ _ _ (HRD.out.below (bthen HB2.out hX)));have HSQ:Hid ((SB.toList == SB.toList)=true):=hid (by simp);clear hra ho2 hC hSB;go_wp2_with fail;have HSS:Hid (∀ X,Below w2.heap.size w2 X→(True)∧Below w2.heap.size w2 X):=hid (fun X hb=>⟨trivial,hb⟩)
    refine wp_region_held_drew (S:=fun X=>(True)∧Below w2.heap.size w2 X) (by kernel_rfl) (HSS.out _ (Below.refl _ _).drew) (fun hHeld => ?_);have hbe:Below w2.heap.size w2 w2.drew:=(Below.refl _ _).drew;obtain ⟨wd,hwd⟩:∃ y,w2.drew=y:=⟨_,rfl⟩
    rw [hwd] at hHeld hbe ⊢;have HBE:=hid hbe;have HS0:Hid (w2.heap.size≤wd.heap.size):=hid HBE.out.size;clear hwd hbe;refine tkP 0 rfl ?_;refine tkQ 1 (.bool true) rfl ?_ ?_
    ·(intro w hSw;simp only [gE1,gE2,gE3];(go_simp;first | done | rfl))
    refine tkP 2 rfl ?_;refine tkP 3 rfl ?_;refine rd1 4 rfl fun K hK => ?_;simp only [gE1,gE2,gE3];go_simp;refine (num14_b 0 _).mono ?_;rintro e w3 ⟨rfl,hb3⟩;dsimp only;have HBE:=hid (bthen HBE.out hb3);clear hHeld;refine hK.out _ _ (HSS.out _ HBE.out) fun hHeld => ?_;clear hK K;try simp only [Act.put,pE1,pE2,pE3]
    have HC4:=hid hb3;clear hb3;refine tkQ 5 (.bool true) rfl ?_ ?_
    ·(intro w hSw;simp only [gE1,gE2,gE3];(go_simp;first | done | rfl))
    refine tkQ 6 (.bool true) rfl ?_ ?_
    ·(intro w hSw;simp only [gE1,gE2,gE3];(go_simp;first | done | rfl))
    refine tkP 7 rfl ?_;refine tkP 8 rfl ?_;refine tkP 9 rfl ?_;refine rd1 10 rfl fun K hK => ?_;simp only [gE1,gE2,gE3];go_simp;refine (CKX.out _ HBE.out).mono ?_;rintro e w10 ⟨rfl,hb10⟩;dsimp only;have HBE:=hid (bthen HBE.out hb10);clear hHeld;refine hK.out _ _ (HSS.out _ HBE.out) fun hHeld => ?_;clear hK K;try simp only [Act.put,pE1,pE2,pE3]
    have HC10:=hid hb10;clear hb10;refine tkQ 11 (.bool true) rfl ?_ ?_
    ·(intro w hSw;simp only [gE1,gE2,gE3];(go_simp;first | done | rfl))
    refine tkP 12 rfl ?_;refine tkP 13 rfl ?_;refine tkP 16 rfl ?_;refine rd2 14 17 rfl rfl (fun K hK => ?_) fun K hK => ?_
    ·skip
     simp only [gE1,gE2,gE3];go_simp;refine (CBX.out _ HBE.out).mono ?_;rintro e w14 ⟨v14,rfl,ho14,hb14⟩;dsimp only;refine hK.out _ _ ?_ (fun hHeld => ?_)
     ·exact HSS.out _ (bthen HBE.out hb14)
     clear hK K;try simp only [Act.put,pE1,pE2,pE3]
     have HBE:=hid (bthen HBE.out hb14);obtain ⟨a14,c14,e14⟩:=row_slice ho14;subst e14;have HT14:Hid (∀ X,Below w14.heap.size w14 X→((convert 33 9 (.slice a14 m c14)).run Tryz.prog X).andThen (fun a w'=>Result.ok (Next.value a) w') = .ok (.value (.string SB)) X):=hid (fun X hX=>by rw [← HSB.out];exact run_textL X _ _ _ ((Rd.of_own ho14).below hX));clear ho14 hb14;refine rd2 15 17 rfl rfl (fun K hK => ?_) fun K hK => ?_
     ·skip
      have hrd:=HT14.out w14 (Below.refl _ _);simp only [gE1,gE2,gE3];go_simp;clear hrd;refine hK.out _ _ ?_ (fun hHeld => ?_)
      ·exact (by first | exact HSS.out _ HBE.out | exact HSS.out _ HMD.out)
      clear hK K;try simp only [Act.put,pE1,pE2,pE3]
      refine rd1 17 rfl fun K hK => ?_;have hrd:=HTB.out w14 HBE.out;simp only [gE1,gE2,gE3];go_simp;clear hrd;refine hK.out _ _ ?_ (fun hHeld => ?_)
      ·exact (by first | exact HSS.out _ HBE.out | exact HSS.out _ HMD.out)
      clear hK K;try simp only [Act.put,pE1,pE2,pE3]
      refine tkQ 18 (.bool true) rfl ?_ ?_
      ·(intro w hSw;simp only [gE1,gE2,gE3];(have hsq:=HSQ.out;go_simp;first | done | exact hsq))
      refine tkQ 19 (.bool true) rfl ?_ ?_
      ·(intro w hSw;simp only [gE1,gE2,gE3];(go_simp;first | done | rfl))
      refine tkP 20 rfl ?_;refine rd1 21 rfl fun K hK => ?_;simp only [gE1,gE2,gE3];go_simp;refine (known14_any _).mono ?_;rintro e w21 ⟨rfl,hb21⟩;dsimp only;have HBE:=hid (bthen HBE.out hb21);clear hHeld;refine hK.out _ _ (HSS.out _ HBE.out) fun hHeld => ?_;clear hK K;try simp only [Act.put,pE1,pE2,pE3]
      have HC21:=hid hb21;clear hb21;refine tkQ 22 (.bool true) rfl ?_ ?_
      ·(intro w hSw;simp only [gE1,gE2,gE3];(go_simp;first | done | rfl))
      refine tkP 23 rfl ?_;refine wpAnyH_done (by kernel_rfl) ?_ _;have HEND:=hid hHeld.2;have HSE:=hid hHeld.1;clear hHeld;clear HSE HSS;have HEE:=hid (bthen HB2.out HBE.out);go_wp2_with fail;go_ret;exact ⟨rfl,HEE.out⟩
     ·skip
      have hrd:=HTB.out w14 HBE.out;simp only [gE1,gE2,gE3];go_simp;clear hrd;refine hK.out _ _ ?_ (fun hHeld => ?_)
      ·exact (by first | exact HSS.out _ HBE.out | exact HSS.out _ HMD.out)
      clear hK K;try simp only [Act.put,pE1,pE2,pE3]
      refine rd1 15 rfl fun K hK => ?_;have hrd:=HT14.out w14 (Below.refl _ _);simp only [gE1,gE2,gE3];go_simp;clear hrd;refine hK.out _ _ ?_ (fun hHeld => ?_)
      ·exact (by first | exact HSS.out _ HBE.out | exact HSS.out _ HMD.out)
      clear hK K;try simp only [Act.put,pE1,pE2,pE3]
      refine tkQ 18 (.bool true) rfl ?_ ?_
      ·(intro w hSw;simp only [gE1,gE2,gE3];(have hsq:=HSQ.out;go_simp;first | done | exact hsq))
      refine tkQ 19 (.bool true) rfl ?_ ?_
      ·(intro w hSw;simp only [gE1,gE2,gE3];(go_simp;first | done | rfl))
      refine tkP 20 rfl ?_;refine rd1 21 rfl fun K hK => ?_;simp only [gE1,gE2,gE3];go_simp;refine (known14_any _).mono ?_;rintro e w21 ⟨rfl,hb21⟩;dsimp only;have HBE:=hid (bthen HBE.out hb21);clear hHeld;refine hK.out _ _ (HSS.out _ HBE.out) fun hHeld => ?_;clear hK K;try simp only [Act.put,pE1,pE2,pE3]
      have HC21:=hid hb21;clear hb21;refine tkQ 22 (.bool true) rfl ?_ ?_
      ·(intro w hSw;simp only [gE1,gE2,gE3];(go_simp;first | done | rfl))
      refine tkP 23 rfl ?_;refine wpAnyH_done (by kernel_rfl) ?_ _;have HEND:=hid hHeld.2;have HSE:=hid hHeld.1;clear hHeld;clear HSE HSS;have HEE:=hid (bthen HB2.out HBE.out);go_wp2_with fail;go_ret;exact ⟨rfl,HEE.out⟩
    ·skip
     have hrd:=HTB.out w10 HBE.out;simp only [gE1,gE2,gE3];go_simp;clear hrd;refine hK.out _ _ ?_ (fun hHeld => ?_)
     ·exact (by first | exact HSS.out _ HBE.out | exact HSS.out _ HMD.out)
     clear hK K;try simp only [Act.put,pE1,pE2,pE3]
     refine rd1 14 rfl fun K hK => ?_;simp only [gE1,gE2,gE3];go_simp;refine (CBX.out _ HBE.out).mono ?_;rintro e w14 ⟨v14,rfl,ho14,hb14⟩;dsimp only;refine hK.out _ _ ?_ (fun hHeld => ?_)
     ·exact HSS.out _ (bthen HBE.out hb14)
     clear hK K;try simp only [Act.put,pE1,pE2,pE3]
     have HBE:=hid (bthen HBE.out hb14);obtain ⟨a14,c14,e14⟩:=row_slice ho14;subst e14;have HT14:Hid (∀ X,Below w14.heap.size w14 X→((convert 33 9 (.slice a14 m c14)).run Tryz.prog X).andThen (fun a w'=>Result.ok (Next.value a) w') = .ok (.value (.string SB)) X):=hid (fun X hX=>by rw [← HSB.out];exact run_textL X _ _ _ ((Rd.of_own ho14).below hX));clear ho14 hb14;refine rd1 15 rfl fun K hK => ?_;have hrd:=HT14.out w14 (Below.refl _ _);simp only [gE1,gE2,gE3];go_simp;clear hrd;refine hK.out _ _ ?_ (fun hHeld => ?_)
     ·exact (by first | exact HSS.out _ HBE.out | exact HSS.out _ HMD.out)
     clear hK K;try simp only [Act.put,pE1,pE2,pE3]
     refine tkQ 18 (.bool true) rfl ?_ ?_
     ·(intro w hSw;simp only [gE1,gE2,gE3];(have hsq:=HSQ.out;go_simp;first | done | exact hsq))
     refine tkQ 19 (.bool true) rfl ?_ ?_
     ·(intro w hSw;simp only [gE1,gE2,gE3];(go_simp;first | done | rfl))
     refine tkP 20 rfl ?_;refine rd1 21 rfl fun K hK => ?_;simp only [gE1,gE2,gE3];go_simp;refine (known14_any _).mono ?_;rintro e w21 ⟨rfl,hb21⟩;dsimp only;have HBE:=hid (bthen HBE.out hb21);clear hHeld;refine hK.out _ _ (HSS.out _ HBE.out) fun hHeld => ?_;clear hK K;try simp only [Act.put,pE1,pE2,pE3]
     have HC21:=hid hb21;clear hb21;refine tkQ 22 (.bool true) rfl ?_ ?_
     ·(intro w hSw;simp only [gE1,gE2,gE3];(go_simp;first | done | rfl))
     refine tkP 23 rfl ?_;refine wpAnyH_done (by kernel_rfl) ?_ _;have HEND:=hid hHeld.2;have HSE:=hid hHeld.1;clear hHeld;clear HSE HSS;have HEE:=hid (bthen HB2.out HBE.out);go_wp2_with fail;go_ret;exact ⟨rfl,HEE.out⟩
end Go.Proofs.YthkmihedkddnmaaGreat
