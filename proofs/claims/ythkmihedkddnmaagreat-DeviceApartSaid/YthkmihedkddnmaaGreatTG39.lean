import Derived.Test.YthkmihedkddnmaaGreatTG2
import Derived.Test.YthkmihedkddnmaaGreatTG19
import Derived.Test.YthkmihedkddnmaaGreatTG38
import Derived.Test.YthkmihedkddnmaaGreatTG29
import Derived.Test.YthkmihedkddnmaaGreatTG36
set_option linter.unusedVariables false
set_option linter.unusedSimpArgs false
set_option maxHeartbeats 12800000
set_option maxRecDepth 100000
namespace Go.Proofs.YthkmihedkddnmaaGreat
open Lib (hid)
open Go.RowKit Wire Cmd
theorem devB_inj {a b:List (Nat × Vl)} (ha:DevOk a) (hb:DevOk b) (hla:a.length<4294967296) (hlb:b.length<4294967296) (h:devB a=devB b):a=b:=by
 have h1:=of_devB ha hla;rw [h,of_devB hb hlb] at h1;exact (Option.some.inj h1).symm
theorem devB_dec {a b:List (Nat × Vl)} (ha:DevOk a) (hb:DevOk b) (hla:a.length<4294967296) (hlb:b.length<4294967296):decide (strB (devB a)=strB (devB b))=decide (a=b):=by
 by_cases h:a=b
 ·subst h;simp
 ·rw [decide_eq_false h,decide_eq_false (fun e=>h (devB_inj ha hb hla hlb (strB_inj e)))]
theorem strB_dec (x y:List UInt8):((strB x).toList == (strB y).toList)=decide (strB x=strB y):=by
 rw [strB_toList,strB_toList]
 by_cases h:x=y
 ·subst h;simp
 ·rw [decide_eq_false (fun e=>h (strB_inj e))];simpa using h
theorem rsame14_any (n1 n2:Nat) (w:World) (B1 B2:Nat) (v1 v2:Value) (l1 l2:List (Nat × (Vl × Value))) (h1:RDevAt n1 w B1 v1 l1) (h2:RDevAt n2 w B2 v2 l2) (hd1:DevOk (mapA (·.1) l1)) (hd2:DevOk (mapA (·.1) l2)) (hl1:l1.length≤100000) (hl2:l2.length≤100000) :
  Calls Tryz.prog 33 #[.pointer (some ⟨B1,0,none⟩),.pointer (some ⟨B2,0,none⟩)] w fun e w'=>e = .returned (.bool (decide (mapA (·.1) l1=mapA (·.1) l2)))∧Below w.heap.size w w':=by
 have HDEC:=hid (devB_dec hd1 hd2 (by rw [mapA_len];omega) (by rw [mapA_len];omega));have CB:Hid (∀ X,Below w.heap.size w X→Calls Tryz.prog 35 #[.pointer (some ⟨B1,0,none⟩)] X fun e w'=>∃ v',e = .returned v'∧w'.ownsRow X.heap.size 5 1 v' (devB (mapA (·.1) l1)).length (bV (devB (mapA (·.1) l1)))∧Below X.heap.size X w'):=hid (fun X hX=>(rbytes_any n1 X B1 _ l1 (h1.below hX) hd1 hl1).mono fun e w' ⟨v,he,hv⟩=>⟨v,he,hv.1,hv.2⟩)
 have CC:Hid (∀ X,Below w.heap.size w X→Calls Tryz.prog 35 #[.pointer (some ⟨B2,0,none⟩)] X fun e w'=>∃ v',e = .returned v'∧w'.ownsRow X.heap.size 5 1 v' (devB (mapA (·.1) l2)).length (bV (devB (mapA (·.1) l2)))∧Below X.heap.size X w'):=hid (fun X hX=>(rbytes_any n2 X B2 _ l2 (h2.below hX) hd2 hl2).mono fun e w' ⟨v,he,hv⟩=>⟨v,he,hv.1,hv.2⟩);obtain ⟨TX,hTX⟩:∃ x,devB (mapA (·.1) l1)=x:=⟨_,rfl⟩
 obtain ⟨TY,hTY⟩:∃ x,devB (mapA (·.1) l2)=x:=⟨_,rfl⟩
 rw [hTX] at CB HDEC;rw [hTY] at CC HDEC;rw [← HDEC.out];obtain ⟨SX,hSX⟩:∃ x,strB TX=x:=⟨_,rfl⟩
 obtain ⟨SY,hSY⟩:∃ x,strB TY=x:=⟨_,rfl⟩
 have HSX:=hid hSX;have HSY:=hid hSY;rw [hSX,hSY];have HSQ:Hid ((SX.toList == SY.toList)=decide (SX=SY)):=hid (by rw [← hSX,← hSY];exact strB_dec TX TY);clear hSX hSY hTX hTY HDEC h1 h2 hd1 hd2 hl1 hl2
 go_enter Tryz.func33,Tryz.ntmps33
 go_wp2_with fail;have HSS:Hid (∀ X,Below w.heap.size w X→(True)∧Below w.heap.size w X):=hid (fun X hb=>⟨trivial,hb⟩);refine wp_region_held_drew (S:=fun X=>(True)∧Below w.heap.size w X) (by kernel_rfl) (HSS.out _ (Below.refl _ _).drew) (fun hHeld => ?_);have hbe:Below w.heap.size w w.drew:=(Below.refl _ _).drew;obtain ⟨wd,hwd⟩:∃ y,w.drew=y:=⟨_,rfl⟩
 rw [hwd] at hHeld hbe ⊢;have HBE:=hid hbe;have HS0:Hid (w.heap.size≤wd.heap.size):=hid HBE.out.size;clear hwd hbe;refine tkP 0 rfl ?_;refine tkP 3 rfl ?_;refine rd1 1 rfl fun K hK => ?_;simp only [gE1,gE2,gE3];go_simp;refine (CB.out _ HBE.out).mono ?_;rintro e w11 ⟨v11,rfl,ho11,hb11⟩;dsimp only;refine hK.out _ _ ?_ (fun hHeld => ?_)
 ·exact HSS.out _ (bthen HBE.out hb11)
 clear hK K;try simp only [Act.put,pE1,pE2,pE3]
 have HBE:=hid (bthen HBE.out hb11);obtain ⟨a11,c11,e11⟩:=row_slice ho11;subst e11;have HT11:Hid (∀ X,Below w11.heap.size w11 X→((convert 33 9 (.slice a11 TX.length c11)).run Tryz.prog X).andThen (fun a w'=>Result.ok (Next.value a) w') = .ok (.value (.string SX)) X):=hid (fun X hX=>by rw [← HSX.out];exact run_textL X _ _ _ ((Rd.of_own ho11).below hX));clear ho11 hb11;refine rd2 2 4 rfl rfl (fun K hK => ?_) fun K hK => ?_
 ·skip
  have hrd:=HT11.out w11 (by first | exact Below.refl _ _ | exact HC14.out);simp only [gE1,gE2,gE3];go_simp;clear hrd;refine hK.out _ _ ?_ (fun hHeld => ?_)
  ·exact (by first | exact HSS.out _ HBE.out | exact HSS.out _ HMD.out)
  clear hK K;try simp only [Act.put,pE1,pE2,pE3]
  refine rd1 4 rfl fun K hK => ?_;simp only [gE1,gE2,gE3];go_simp;refine (CC.out _ HBE.out).mono ?_;rintro e w14 ⟨v14,rfl,ho14,hb14⟩;dsimp only;refine hK.out _ _ ?_ (fun hHeld => ?_)
  ·exact HSS.out _ (bthen HBE.out hb14)
  clear hK K;try simp only [Act.put,pE1,pE2,pE3]
  have HBE:=hid (bthen HBE.out hb14);have HC14:=hid hb14;obtain ⟨a14,c14,e14⟩:=row_slice ho14;subst e14;have HT14:Hid (∀ X,Below w14.heap.size w14 X→((convert 33 9 (.slice a14 TY.length c14)).run Tryz.prog X).andThen (fun a w'=>Result.ok (Next.value a) w') = .ok (.value (.string SY)) X):=hid (fun X hX=>by rw [← HSY.out];exact run_textL X _ _ _ ((Rd.of_own ho14).below hX));clear ho14 hb14;refine rd1 5 rfl fun K hK => ?_;have hrd:=HT14.out w14 (Below.refl _ _);simp only [gE1,gE2,gE3];go_simp;clear hrd;refine hK.out _ _ ?_ (fun hHeld => ?_)
  ·exact (by first | exact HSS.out _ HBE.out | exact HSS.out _ HMD.out)
  clear hK K;try simp only [Act.put,pE1,pE2,pE3]
  refine tkQ 6 (.bool (decide (SX=SY))) rfl ?_ ?_
  ·(intro w hSw;simp only [gE1,gE2,gE3];(have hsq:=HSQ.out;go_simp;first | done | exact hsq))
  refine tkP 7 rfl ?_;refine wpAnyH_done (by kernel_rfl) ?_ _;have HEND:=hid hHeld.2;have HSE:=hid hHeld.1;clear hHeld;clear HSE HSS;go_wp2_with fail;go_ret;exact ⟨rfl,HBE.out⟩
 ·skip
  simp only [gE1,gE2,gE3];go_simp;refine (CC.out _ HBE.out).mono ?_;rintro e w14 ⟨v14,rfl,ho14,hb14⟩;dsimp only;refine hK.out _ _ ?_ (fun hHeld => ?_)
  ·exact HSS.out _ (bthen HBE.out hb14)
  clear hK K;try simp only [Act.put,pE1,pE2,pE3]
  have HBE:=hid (bthen HBE.out hb14);have HC14:=hid hb14;obtain ⟨a14,c14,e14⟩:=row_slice ho14;subst e14;have HT14:Hid (∀ X,Below w14.heap.size w14 X→((convert 33 9 (.slice a14 TY.length c14)).run Tryz.prog X).andThen (fun a w'=>Result.ok (Next.value a) w') = .ok (.value (.string SY)) X):=hid (fun X hX=>by rw [← HSY.out];exact run_textL X _ _ _ ((Rd.of_own ho14).below hX));clear ho14 hb14;refine rd2 2 5 rfl rfl (fun K hK => ?_) fun K hK => ?_
  ·skip
   have hrd:=HT11.out w14 (by first | exact Below.refl _ _ | exact HC14.out);simp only [gE1,gE2,gE3];go_simp;clear hrd;refine hK.out _ _ ?_ (fun hHeld => ?_)
   ·exact (by first | exact HSS.out _ HBE.out | exact HSS.out _ HMD.out)
   clear hK K;try simp only [Act.put,pE1,pE2,pE3]
   refine rd1 5 rfl fun K hK => ?_;have hrd:=HT14.out w14 (Below.refl _ _);simp only [gE1,gE2,gE3];go_simp;clear hrd;refine hK.out _ _ ?_ (fun hHeld => ?_)
   ·exact (by first | exact HSS.out _ HBE.out | exact HSS.out _ HMD.out)
   clear hK K;try simp only [Act.put,pE1,pE2,pE3]
   refine tkQ 6 (.bool (decide (SX=SY))) rfl ?_ ?_
   ·(intro w hSw;simp only [gE1,gE2,gE3];(have hsq:=HSQ.out;go_simp;first | done | exact hsq))
   refine tkP 7 rfl ?_;refine wpAnyH_done (by kernel_rfl) ?_ _;have HEND:=hid hHeld.2;have HSE:=hid hHeld.1;clear hHeld;clear HSE HSS;go_wp2_with fail;go_ret;exact ⟨rfl,HBE.out⟩
  ·skip
   have hrd:=HT14.out w14 (Below.refl _ _);simp only [gE1,gE2,gE3];go_simp;clear hrd;refine hK.out _ _ ?_ (fun hHeld => ?_)
   ·exact (by first | exact HSS.out _ HBE.out | exact HSS.out _ HMD.out)
   clear hK K;try simp only [Act.put,pE1,pE2,pE3]
   refine rd1 2 rfl fun K hK => ?_;have hrd:=HT11.out w14 (by first | exact Below.refl _ _ | exact HC14.out);simp only [gE1,gE2,gE3];go_simp;clear hrd;refine hK.out _ _ ?_ (fun hHeld => ?_)
   ·exact (by first | exact HSS.out _ HBE.out | exact HSS.out _ HMD.out)
   clear hK K;try simp only [Act.put,pE1,pE2,pE3]
   refine tkQ 6 (.bool (decide (SX=SY))) rfl ?_ ?_
   ·(intro w hSw;simp only [gE1,gE2,gE3];(have hsq:=HSQ.out;go_simp;first | done | exact hsq))
   refine tkP 7 rfl ?_;refine wpAnyH_done (by kernel_rfl) ?_ _;have HEND:=hid hHeld.2;have HSE:=hid hHeld.1;clear hHeld;clear HSE HSS;go_wp2_with fail;go_ret;exact ⟨rfl,HBE.out⟩
end Go.Proofs.YthkmihedkddnmaaGreat
namespace Go.Proofs.YthkmihedkddnmaaGreat
open Lib (hid)
open Go.RowKit Go.Maps Wire Cmd
theorem RDevAt.base {n0 n1:Nat} {w:World} {B:Nat} {sv:Value} {l:List (Nat × (Vl × Value))} (h:RDevAt n1 w B sv l) (hn:n0≤n1):RDevAt n0 w B sv l:=⟨h.box,ownsRow_base h.row hn,fun p hp=>ownsRow_base (h.blk p hp) hn,Nat.le_trans hn h.ge⟩
theorem devApart_any (ao:Option Addr) (n cap:Nat) (L:List (Op0 × Value)) (bo:Option Addr) (m cap2:Nat) (M:List (Op0 × Value)) (w:World) (hL:Ops w ao n cap L) (hM:Ops w bo m cap2 M) :
  Calls Tryz.prog 7 #[.slice ao n cap,.slice bo m cap2] w fun e w'=>e = .returned (.bool true)∧Below w.heap.size w w':=by
 have hnn:n≤9223372036854775807:=by obtain ⟨_,h1,h2,_⟩:=hL;unfold maxLen at h2;omega
 have hmm:m≤9223372036854775807:=by obtain ⟨_,h1,h2,_⟩:=hM;unfold maxLen at h2;omega
 have HLX:Hid (∀ X,Below w.heap.size w X→Ops X ao n cap L):=hid (fun X hX=>hL.below hX);have HMX:Hid (∀ X,Below w.heap.size w X→Ops X bo m cap2 M):=hid (fun X hX=>hM.below hX);have HLL:=hid hL.1;have HML:=hid hM.1;have C1:=much14_any ao n cap L w hL;obtain ⟨b1,hb1⟩:∃ b,muchD L=b:=⟨_,rfl⟩
 have HMU1:=hid hb1;rw [hb1] at C1;obtain ⟨b2,hb2⟩:∃ b,muchD M=b:=⟨_,rfl⟩
 have HMU2:=hid hb2;have CM2:Hid (∀ X,Below w.heap.size w X→Calls Tryz.prog 8 #[.slice bo m cap2] X fun e w'=>e = .returned (.bool b2)∧Below X.heap.size X w'):=hid (fun X hX=>by rw [← hb2];exact much14_any bo m cap2 M X (hM.below hX));clear hb1 hb2 hL hM
 go_enter Tryz.func7,Tryz.ntmps7
 go_wp2_with fail;refine C1.mono ?_;rintro e w1 ⟨rfl,hb1⟩;have HB1:=hid hb1;clear C1 hb1
 cases b1 with
 | true =>
  have CK:=known14_any w1;go_wp2_with fail;refine CK.mono ?_;rintro e w2 ⟨rfl,hb2⟩;have HB2:=hid (bthen HB1.out hb2);clear CK hb2;go_wp2_with fail;go_ret;exact ⟨rfl,HB2.out⟩
 | false =>
 have C2:=CM2.out w1 HB1.out;go_wp2_with fail;refine C2.mono ?_;rintro e w2 ⟨rfl,hb2⟩;have HB2:=hid (bthen HB1.out hb2);clear C2 hb2 CM2
 cases b2 with
 | true =>
  have CK:=known14_any w2;go_wp2_with fail;refine CK.mono ?_;rintro e w3 ⟨rfl,hb3⟩;have HB3:=hid (bthen HB2.out hb3);clear CK hb3;go_wp2_with fail;go_ret;exact ⟨rfl,HB3.out⟩
 | false =>
 have CN:=dnew_any w.heap.size w2 HB2.out.size;go_wp2_with fail;refine CN.mono ?_;rintro e w4 ⟨B,Ba,rfl,hd4,hb4,_,_⟩;dsimp only;have HD4:=hid hd4;have HB4:=hid (bthen HB2.out hb4);clear CN hd4 hb4;obtain ⟨w5,hw5⟩:∃ y,w4.alloc (.cells #[.slice none 0 0] 30)=y:=⟨_,rfl⟩
 have hb5:Below w4.heap.size w4 w5:=by rw [← hw5];exact balloc (Below.refl _ _) _
 have hx5:w5.heap[w4.heap.size]? = some (.cells #[.slice none 0 0] 30 (0,0)):=by rw [← hw5];exact heap_alloc_new w4 _
 obtain ⟨C,hC⟩:∃ C,w4.heap.size=C:=⟨_,rfl⟩
 rw [hC] at hx5;have HU5:Hid (DuoD w.heap.size w5 B Ba [] C (.slice none 0 0) []):=hid ⟨HD4.out.below hb5,⟨hx5,World.ownsRow_nil _ _ _ _,fun p hp=>(by cases hp),by rw [← hC];exact HB4.out.size⟩,rfl⟩;have HB5:=hid (bthen HB4.out hb5);clear hb5 hx5;go_wp2_with fail
 (try rw [hw5])
 (try rw [hC])
 clear hw5 hC
 go_loopw [7] (fun i wr=>∃ (k:Nat) (sv:Value) (l:List (Nat × (Vl × Nat))) (lw:List (Nat × (Vl × Value))),k≤n∧i = .int .i64 (k:Int)∧DuoD w.heap.size wr B Ba l C sv lw∧l.length≤k∧Below w.heap.size w wr) (fun i _=>n - (Go.Proofs.intOf i).toNat)
 case atStart=>exact ⟨0,_,[],[],Nat.zero_le _,rfl,HU5.out,Nat.le_refl _,HB5.out⟩
 case round =>
  obtain ⟨k,sv,l,lw,hk,rfl,hdu,hlk,hbw⟩:=hrel;have HU:=hid hdu;have HBW:=hid hbw;have HLK:=hid hlk;clear hdu hbw hlk;have hmu:=(muchD_no HMU1.out).1;have hn40:n≤40:=by rw [← HLL.out];exact hmu
  clear hmu
  by_cases hlt:k<n
  ·have q0:decide ((k:Int)<(n:Int))=true:=decide_eq_true (by omega)
   obtain ⟨x,hx⟩:∃ x,L[k]? = some x:=⟨_,List.getElem?_eq_getElem (by rw [HLL.out];exact hlt)⟩
   have HX:=hid hx;obtain ⟨bq,off,rfl,_,⟨c0,c1,c2,c3,c4,c5,c6⟩,hok,hrd⟩:=(HLX.out _ HBW.out).2.2.2.2 k x hx;have HCS:Hid (∀ X,Below w.heap.size w X→OpAt X bq (off+k * 7) x.1 x.2):=hid (fun X hX=>by
    obtain ⟨b',off',e',_,h',_⟩:=(HLX.out X hX).2.2.2.2 k x HX.out;obtain ⟨rfl,rfl,_⟩:=Addr.mk.inj (Option.some.inj e');exact h')
   have HRD:Hid (∀ X,Below w.heap.size w X→Rd X 1 x.2 x.1.data.length (bV x.1.data)):=hid (fun X hX=>by
    obtain ⟨b',off',e',_,h',_,hr⟩:=(HLX.out X hX).2.2.2.2 k x HX.out;exact hr)
   obtain ⟨ax,cx,ex,_⟩:=id hrd;obtain ⟨p,sl⟩:=x;dsimp only at ex hok hrd c0 c1 c2 c3 c4 c5 c6 HCS HRD;have HPDL:Hid (p.data.length≤9000):=hid ((muchD_no HMU1.out).2 _ (List.mem_of_getElem? HX.out));have HPK:=hid hok;have hex:sl = .slice ax p.data.length cx:=ex;subst hex;obtain ⟨pl,hpl⟩:∃ d,p.data.length=d:=⟨_,rfl⟩
   have HPL:=hid hpl;have CD:=ddo_at w.heap.size wr B Ba l HU.out.a p HPK.out ax cx (HRD.out _ HBW.out);rw [hpl] at CD c6 HCS;change Calls _ _ #[_,.agg #[.int .i64 p.k,.int .u64 (p.vol:Int),.int .u64 (p.to:Int),.int .i64 p.size,.int .i64 p.pl,.int .i64 p.count,.slice ax pl cx]] _ _ at CD;clear ex hok hrd hx hpl;go_wp2_with fail;refine CD.mono ?_;rintro e w6 ⟨v6,l6,rfl,hd6,hs6,_,hc6⟩;have HD6:=hid hd6;have HS6:=hid hs6;have HR6:=hid (HU.out.b.keptMap hc6.1 HU.out.a.isMap)
   have HB6:Hid (Below w.heap.size w w6):=hid (HBW.out.trans (hc6.1.below HU.out.a.geF HBW.out.size));clear CD hd6 hs6 hc6 c0 c1 c2 c3 c4 c5 c6;obtain ⟨c0,c1,c2,c3,c4,c5,c6⟩:=HCS.out _ HB6.out;have CR:Calls Tryz.prog 13 #[.pointer (some ⟨C,0,none⟩),.agg #[.int .i64 p.k,.int .u64 (p.vol:Int),.int .u64 (p.to:Int),.int .i64 p.size,.int .i64 p.pl,.int .i64 p.count,.slice ax pl cx]] w6 fun e w'=>RPartP w.heap.size w6 C sv (stepD (strip l) p 1024) e w':=by
    have h0:=both_len HU.out.eq;have h2:=HLK.out;have h3:=HPDL.out;have h1:=rdo_any w.heap.size w6 C sv lw HR6.out HB6.out.size p HPK.out ax cx (by omega) (by rw [HU.out.eq];exact HU.out.a.ok) (by omega) (HRD.out w6 HB6.out);rw [HU.out.eq,stepD_big HU.out.a.ok p 1073741824 (by omega),HPL.out] at h1;exact h1
   go_wp2_with fail;refine CR.mono ?_;rintro e w7 ⟨v7,sv7,l7,rfl,hd7,hs7,_,hc7⟩;have HB7:Hid (Below w.heap.size w w7):=hid (HB6.out.trans (hc7.1.below HR6.out.geF HB6.out.size));have HU7:Hid (DuoD w.heap.size w7 B Ba l6 C sv7 l7):=hid ⟨HD6.out.keptCells hc7.1 HR6.out.isCells,hd7,by rw [hs7,HS6.out]⟩;have HL7:Hid (l6.length≤k+1):=hid (by
    have h1:=stepD_len (strip l) p 1024;rw [← HS6.out] at h1;unfold strip at h1;rw [mapA_len,mapA_len] at h1;have h2:=HLK.out
    omega)
   clear CR hd7 hs7 hc7 c0 c1 c2 c3 c4 c5 c6;go_wp2_with fail;go_roundw
   case rel=>exact ⟨k+1,sv7,l6,l7,by omega,by go_num,HU7.out,HL7.out,HB7.out⟩
   case measure=>simp [Go.Proofs.intOf];omega
  ·obtain rfl:k=n:=by omega
   have q0:decide ((k:Int)<(k:Int))=false:=decide_eq_false (by omega);have CC:=dcopy_at w.heap.size wr B Ba l HU.out.a;go_wp2_with fail;refine CC.mono ?_;rintro e w8 ⟨B2,Ba2,l2,rfl,hd8,hs8,hb8⟩;have HD8:=hid hd8;have HS8:=hid hs8;have HB8:=hid hb8;have CC2:=rcopy_any w.heap.size w8 C sv lw (HU.out.b.below hb8) (by rw [HU.out.eq];exact HU.out.a.ok) (by have:=both_len HU.out.eq;have:=HLK.out;omega);clear CC hd8 hs8 hb8;go_wp2_with fail;refine CC2.mono ?_;rintro e w9 ⟨sv2,lw2,rfl,hr9,hs9,hb9⟩;have HB9:=hid (bthen HB8.out hb9)
   have HU9:Hid (DuoD wr.heap.size w9 B2 Ba2 l2 w8.heap.size sv2 lw2):=hid ⟨HD8.out.below hb9,hr9.base HB8.out.size,by rw [hs9,HU.out.eq,HS8.out]⟩;obtain ⟨C2,hC2⟩:∃ x,w8.heap.size=x:=⟨_,rfl⟩
   rw [hC2] at HU9;clear CC2 hr9 hs9 hb9;have HSH:Hid ((devS (strip l)).length≤100000∧l.length≤100000∧(strip l).length<4294967296):=hid (by have h1:=devS_len HU.out.a.ok;have h2:(strip l).length=l.length:=(by unfold strip;rw [mapA_len]);have h3:=HLK.out;omega);have CBY:=dbytes_at w.heap.size w9 B Ba l (HU.out.a.below HB9.out) HSH.out.1 HSH.out.2.1;go_wp2_with fail
   (try rw [hC2])
   clear hC2;refine CBY.mono ?_;rintro e w10 ⟨v10,rfl,ho10,hb10⟩;have HB910:=hid hb10;have HB10:=hid (bthen HB9.out hb10);have HR10:=hid (Rd.of_own ho10);have COF:Calls Tryz.prog 30 #[v10] w10 fun e w'=>∃ l' B' Ba',e = .returned (.tuple #[.pointer (some ⟨B',0,none⟩),.int .i64 0])∧DevAt w10.heap.size w' B' Ba' l'∧strip l'=strip l∧Below w10.heap.size w10 w':=(dof_any w10 v10 _ _ HR10.out (by
    have h1:=volsB_len HU.out.a.ok.vol;have h2:(devB (strip l)).length=4+(volsB (strip l)).length:=by unfold devB;rw [List.length_append,low_len]
    have h3:(strip l).length=l.length:=(by unfold strip;rw [mapA_len])
    have h4:=HLK.out
    omega)).mono (fun e w' ⟨hb,h⟩=>by
     have he:=of_devB HU.out.a.ok HSH.out.2.2
     rcases h with ⟨h1,_⟩ | ⟨l',B',Ba',h1,h2,h3⟩
     ·rw [he] at h1;cases h1
     ·exact ⟨l',B',Ba',h2,h3,by rw [he] at h1;exact (Option.some.inj h1).symm,hb⟩)
   clear CBY ho10 hb10;go_wp2_with fail;refine COF.mono ?_;rintro e w11 ⟨l3,B3,Ba3,rfl,hd11,hs11,hb11⟩;have HD11:=hid hd11;have HS11:=hid hs11;have HB11:=hid (bthen HB10.out hb11);have HU11:=hid (HU9.out.below (bthen HB910.out hb11));have CNU:=num14_any 0 w11;clear COF hd11 hs11 hb11;go_wp2_with fail;refine CNU.mono ?_;rintro e w12 ⟨rfl,rfl⟩;have CS1:=dsame_in wr.heap.size w.heap.size w11 B2 Ba2 B Ba l2 l HU11.out.a (HU.out.a.below HB11.out);rw [HS8.out,decide_eq_true rfl] at CS1;clear CNU;go_wp2_with fail;refine CS1.mono ?_;rintro e w13 ⟨rfl,hb13⟩
   have HB13:=hid (bthen HB11.out hb13);have HU13:=hid (HU11.out.below hb13);have CS2:=dsame_in w10.heap.size w.heap.size w13 B3 Ba3 B Ba l3 l (HD11.out.below hb13) (HU.out.a.below HB13.out);rw [HS11.out,decide_eq_true rfl] at CS2;clear CS1 hb13;go_wp2_with fail;refine CS2.mono ?_;rintro e w14 ⟨rfl,hb14⟩;have HB14:=hid (bthen HB13.out hb14);have HU14:=hid (HU13.out.below hb14);clear CS2 hb14;go_wp2_with fail;obtain ⟨W0,rfl⟩:∃ W0:World,W0=wr:=⟨_,rfl⟩
   have HEN:Hid (∀ X,Below W0.heap.size W0 X→Below w.heap.size w X):=hid (fun X hX=>bthen HBW.out hX);have HMX2:Hid (∀ X,Below W0.heap.size W0 X→Ops X bo m cap2 M):=hid (fun X hX=>HMX.out X (HEN.out X hX));have HL2:Hid (l2.length≤40∧l.length≤40):=hid (by
    have h1:=congrArg List.length HS8.out;unfold strip at h1;rw [mapA_len,mapA_len] at h1;have h2:=HLK.out
    omega)
   go_loopw [12] (fun i wr=>∃ (kk:Nat) (svv:Value) (lv:List (Nat × (Vl × Nat))) (lwv:List (Nat × (Vl × Value))),kk≤m∧i = .int .i64 (kk:Int)∧DuoD W0.heap.size wr B2 Ba2 lv C2 svv lwv∧lv.length≤40+kk∧Below W0.heap.size W0 wr) (fun i _=>m - (Go.Proofs.intOf i).toNat)
   case atStart=>exact ⟨0,_,l2,lw2,Nat.zero_le _,rfl,HU14.out,HL2.out.1,HB14.out⟩
   case round =>
    obtain ⟨kk,svv,lv,lwv,hkk,rfl,hdu,hlk,hbw⟩:=hrel;have HV:=hid hdu;have HBV:=hid hbw;have HVK:=hid hlk;clear hdu hbw hlk;have hmu:=(muchD_no HMU2.out).1;have hm40:m≤40:=by rw [← HML.out];exact hmu
    clear hmu
    by_cases hlt:kk<m
    ·have q1:decide ((kk:Int)<(m:Int))=true:=decide_eq_true (by omega)
     obtain ⟨x,hx⟩:∃ x,M[kk]? = some x:=⟨_,List.getElem?_eq_getElem (by rw [HML.out];exact hlt)⟩
     have HX:=hid hx;obtain ⟨bq,off,rfl,_,⟨c0,c1,c2,c3,c4,c5,c6⟩,hok,hrd⟩:=(HMX2.out _ HBV.out).2.2.2.2 kk x hx;have HCS:Hid (∀ X,Below W0.heap.size W0 X→OpAt X bq (off+kk * 7) x.1 x.2):=hid (fun X hX=>by
      obtain ⟨b',off',e',_,h',_⟩:=(HMX2.out X hX).2.2.2.2 kk x HX.out;obtain ⟨rfl,rfl,_⟩:=Addr.mk.inj (Option.some.inj e');exact h')
     have HRD:Hid (∀ X,Below W0.heap.size W0 X→Rd X 1 x.2 x.1.data.length (bV x.1.data)):=hid (fun X hX=>by
      obtain ⟨b',off',e',_,h',_,hr⟩:=(HMX2.out X hX).2.2.2.2 kk x HX.out;exact hr)
     obtain ⟨ax,cx,ex,_⟩:=id hrd;obtain ⟨p,sl⟩:=x;dsimp only at ex hok hrd c0 c1 c2 c3 c4 c5 c6 HCS HRD;have HPDL:Hid (p.data.length≤9000):=hid ((muchD_no HMU2.out).2 _ (List.mem_of_getElem? HX.out));have HPK:=hid hok;have hex:sl = .slice ax p.data.length cx:=ex;subst hex;obtain ⟨pl,hpl⟩:∃ d,p.data.length=d:=⟨_,rfl⟩
     have HPL:=hid hpl;have CD:=ddo_at W0.heap.size wr B2 Ba2 lv HV.out.a p HPK.out ax cx (HRD.out _ HBV.out);rw [hpl] at CD c6 HCS;change Calls _ _ #[_,.agg #[.int .i64 p.k,.int .u64 (p.vol:Int),.int .u64 (p.to:Int),.int .i64 p.size,.int .i64 p.pl,.int .i64 p.count,.slice ax pl cx]] _ _ at CD;clear ex hok hrd hx hpl;go_wp2_with fail;refine CD.mono ?_;rintro e w6 ⟨v6,l6,rfl,hd6,hs6,_,hc6⟩;have HD6:=hid hd6;have HS6:=hid hs6;have HR6:=hid (HV.out.b.keptMap hc6.1 HV.out.a.isMap)
     have HB6:Hid (Below W0.heap.size W0 w6):=hid (HBV.out.trans (hc6.1.below HV.out.a.geF HBV.out.size));clear CD hd6 hs6 hc6 c0 c1 c2 c3 c4 c5 c6;obtain ⟨c0,c1,c2,c3,c4,c5,c6⟩:=HCS.out _ HB6.out;have CR:Calls Tryz.prog 13 #[.pointer (some ⟨C2,0,none⟩),.agg #[.int .i64 p.k,.int .u64 (p.vol:Int),.int .u64 (p.to:Int),.int .i64 p.size,.int .i64 p.pl,.int .i64 p.count,.slice ax pl cx]] w6 fun e w'=>RPartP W0.heap.size w6 C2 svv (stepD (strip lv) p 1024) e w':=by
      have h0:=both_len HV.out.eq;have h2:=HVK.out;have h3:=HPDL.out;have h1:=rdo_any W0.heap.size w6 C2 svv lwv HR6.out HB6.out.size p HPK.out ax cx (by omega) (by rw [HV.out.eq];exact HV.out.a.ok) (by omega) (HRD.out w6 HB6.out);rw [HV.out.eq,stepD_big HV.out.a.ok p 1073741824 (by omega),HPL.out] at h1;exact h1
     go_wp2_with fail;refine CR.mono ?_;rintro e w7 ⟨v7,sv7,l7,rfl,hd7,hs7,_,hc7⟩;have HB7:Hid (Below W0.heap.size W0 w7):=hid (HB6.out.trans (hc7.1.below HR6.out.geF HB6.out.size));have HU7:Hid (DuoD W0.heap.size w7 B2 Ba2 l6 C2 sv7 l7):=hid ⟨HD6.out.keptCells hc7.1 HR6.out.isCells,hd7,by rw [hs7,HS6.out]⟩;have HL7:Hid (l6.length≤40+kk+1):=hid (by
      have h1:=stepD_len (strip lv) p 1024;rw [← HS6.out] at h1;unfold strip at h1;rw [mapA_len,mapA_len] at h1;have h2:=HVK.out
      omega)
     obtain ⟨dd,hdd⟩:∃ b,decide (strip l6=strip l)=b:=⟨_,rfl⟩
     have HLS:Hid ((strip l6).length=l6.length∧(strip l).length=l.length∧l7.length=l6.length∧lw.length=l.length):=hid ⟨by unfold strip;rw [mapA_len],by unfold strip;rw [mapA_len],(both_len HU7.out.eq).symm,(both_len HU.out.eq).symm⟩;have CSM:Hid (∀ X,Below w7.heap.size w7 X→Calls Tryz.prog 28 #[.pointer (some ⟨B2,0,none⟩),.pointer (some ⟨B,0,none⟩)] X fun e w'=>e = .returned (.bool dd)∧Below X.heap.size X w'):=hid (fun X hX=>by rw [← hdd];exact dsame_in W0.heap.size w.heap.size X B2 Ba2 B Ba l6 l (HU7.out.a.below hX) (HU.out.a.below (bthen HB7.out hX)))
     have CRS:Hid (∀ X,Below w7.heap.size w7 X→Calls Tryz.prog 33 #[.pointer (some ⟨C2,0,none⟩),.pointer (some ⟨C,0,none⟩)] X fun e w'=>e = .returned (.bool dd)∧Below X.heap.size X w'):=hid (fun X hX=>by
      have h3:=HLS.out;have h4:=HL7.out;have h5:=HL2.out.2;have h1:=rsame14_any W0.heap.size w.heap.size X C2 C sv7 sv l7 lw (HU7.out.b.below hX) (HU.out.b.below (bthen HB7.out hX)) (by rw [HU7.out.eq];exact HU7.out.a.ok) (by rw [HU.out.eq];exact HU.out.a.ok) (by omega) (by omega);rw [HU7.out.eq,HU.out.eq,hdd] at h1;exact h1)
     have CB1:Hid (∀ X,Below w7.heap.size w7 X→Calls Tryz.prog 29 #[.pointer (some ⟨B2,0,none⟩)] X fun e w'=>∃ v,e = .returned v∧w'.ownsRow X.heap.size 5 1 v (devB (strip l6)).length (bV (devB (strip l6)))∧Below X.heap.size X w'):=hid (fun X hX=>dbytes_at W0.heap.size X B2 Ba2 l6 (HU7.out.a.below hX) (by have h1:=devS_len HU7.out.a.ok;have h3:=HLS.out;have h4:=HL7.out;omega) (by have h4:=HL7.out;omega))
     have CB2:Hid (∀ X,Below w7.heap.size w7 X→Calls Tryz.prog 29 #[.pointer (some ⟨B,0,none⟩)] X fun e w'=>∃ v,e = .returned v∧w'.ownsRow X.heap.size 5 1 v (devB (strip l)).length (bV (devB (strip l)))∧Below X.heap.size X w'):=hid (fun X hX=>dbytes_at w.heap.size X B Ba l (HU.out.a.below (bthen HB7.out hX)) HSH.out.1 HSH.out.2.1);have HDB:=hid (devB_dec HU7.out.a.ok HU.out.a.ok (by have h3:=HLS.out;have h4:=HL7.out;omega) HSH.out.2.2);rw [hdd] at HDB;obtain ⟨TX,hTX⟩:∃ x,devB (strip l6)=x:=⟨_,rfl⟩
     obtain ⟨TY,hTY⟩:∃ x,devB (strip l)=x:=⟨_,rfl⟩
     rw [hTX] at CB1 HDB;rw [hTY] at CB2 HDB;obtain ⟨SX,hSX⟩:∃ x,strB TX=x:=⟨_,rfl⟩
     obtain ⟨SY,hSY⟩:∃ x,strB TY=x:=⟨_,rfl⟩
     have HSX:=hid hSX;have HSY:=hid hSY;have HSQ:Hid ((SX.toList == SY.toList)=dd):=hid (by rw [← hSX,← hSY,strB_dec];exact HDB.out);clear hSX hSY hTX hTY hdd HDB CR hd7 hs7 hc7 c0 c1 c2 c3 c4 c5 c6;go_wp2_with fail;have HSS:Hid (∀ X,Below w7.heap.size w7 X→(True)∧Below w7.heap.size w7 X):=hid (fun X hb=>⟨trivial,hb⟩);refine wp_region_held_drew (S:=fun X=>(True)∧Below w7.heap.size w7 X) (by kernel_rfl) (HSS.out _ (Below.refl _ _).drew) (fun hHeld => ?_);have hbe:Below w7.heap.size w7 w7.drew:=(Below.refl _ _).drew
     obtain ⟨wd,hwd⟩:∃ y,w7.drew=y:=⟨_,rfl⟩
     rw [hwd] at hHeld hbe ⊢;have HBE:=hid hbe;have HS0:Hid (w7.heap.size≤wd.heap.size):=hid HBE.out.size;clear hwd hbe;refine tkP 0 rfl ?_;refine tkP 1 rfl ?_;refine tkP 3 rfl ?_;refine tkP 4 rfl ?_;refine rd1 2 rfl fun K hK => ?_;simp only [gE1,gE2,gE3];go_simp;refine (CSM.out _ HBE.out).mono ?_;rintro e w22 ⟨rfl,hb22⟩;dsimp only;have HBE:=hid (bthen HBE.out hb22);clear hHeld;refine hK.out _ _ (HSS.out _ HBE.out) fun hHeld => ?_;clear hK K;try simp only [Act.put,pE1,pE2,pE3]
     have HC2:=hid hb22;clear hb22;refine rd1 5 rfl fun K hK => ?_;simp only [gE1,gE2,gE3];go_simp;refine (CRS.out _ HBE.out).mono ?_;rintro e w25 ⟨rfl,hb25⟩;dsimp only;have HBE:=hid (bthen HBE.out hb25);clear hHeld;refine hK.out _ _ (HSS.out _ HBE.out) fun hHeld => ?_;clear hK K;try simp only [Act.put,pE1,pE2,pE3]
     have HC5:=hid hb25;clear hb25;refine tkQ 6 (.bool false) rfl ?_ ?_
     ·(intro w hSw;simp only [gE1,gE2,gE3];(go_simp;first | done | (cases dd <;> rfl)))
     refine tkP 7 rfl ?_;refine tkP 8 rfl ?_;refine tkP 9 rfl ?_;refine tkP 11 rfl ?_;refine tkP 14 rfl ?_;refine rd1 10 rfl fun K hK => ?_;simp only [gE1,gE2,gE3];go_simp;refine (CSM.out _ HBE.out).mono ?_;rintro e w30 ⟨rfl,hb30⟩;dsimp only;have HBE:=hid (bthen HBE.out hb30);clear hHeld;refine hK.out _ _ (HSS.out _ HBE.out) fun hHeld => ?_;clear hK K;try simp only [Act.put,pE1,pE2,pE3]
     have HC10:=hid hb30;clear hb30;refine rd1 12 rfl fun K hK => ?_;simp only [gE1,gE2,gE3];go_simp;refine (CB1.out _ HBE.out).mono ?_;rintro e w32 ⟨v32,rfl,ho32,hb32⟩;dsimp only;refine hK.out _ _ ?_ (fun hHeld => ?_)
     ·exact HSS.out _ (bthen HBE.out hb32)
     clear hK K;try simp only [Act.put,pE1,pE2,pE3]
     have HBE:=hid (bthen HBE.out hb32);obtain ⟨a32,c32,e32⟩:=row_slice ho32;subst e32;have HT32:Hid (∀ X,Below w32.heap.size w32 X→((convert 33 9 (.slice a32 TX.length c32)).run Tryz.prog X).andThen (fun a w'=>Result.ok (Next.value a) w') = .ok (.value (.string SX)) X):=hid (fun X hX=>by rw [← HSX.out];exact run_textL X _ _ _ ((Rd.of_own ho32).below hX));clear ho32 hb32;refine rd2 13 15 rfl rfl (fun K hK => ?_) fun K hK => ?_
     ·skip
      have hrd:=HT32.out w32 (by first | exact Below.refl _ _ | exact HC35.out);simp only [gE1,gE2,gE3];go_simp;clear hrd;refine hK.out _ _ ?_ (fun hHeld => ?_)
      ·exact (by first | exact HSS.out _ HBE.out | exact HSS.out _ HMD.out)
      clear hK K;try simp only [Act.put,pE1,pE2,pE3]
      refine rd1 15 rfl fun K hK => ?_;simp only [gE1,gE2,gE3];go_simp;refine (CB2.out _ HBE.out).mono ?_;rintro e w35 ⟨v35,rfl,ho35,hb35⟩;dsimp only;refine hK.out _ _ ?_ (fun hHeld => ?_)
      ·exact HSS.out _ (bthen HBE.out hb35)
      clear hK K;try simp only [Act.put,pE1,pE2,pE3]
      have HBE:=hid (bthen HBE.out hb35);have HC35:=hid hb35;obtain ⟨a35,c35,e35⟩:=row_slice ho35;subst e35;have HT35:Hid (∀ X,Below w35.heap.size w35 X→((convert 33 9 (.slice a35 TY.length c35)).run Tryz.prog X).andThen (fun a w'=>Result.ok (Next.value a) w') = .ok (.value (.string SY)) X):=hid (fun X hX=>by rw [← HSY.out];exact run_textL X _ _ _ ((Rd.of_own ho35).below hX));clear ho35 hb35;refine rd1 16 rfl fun K hK => ?_;have hrd:=HT35.out w35 (Below.refl _ _);simp only [gE1,gE2,gE3];go_simp;clear hrd;refine hK.out _ _ ?_ (fun hHeld => ?_)
      ·exact (by first | exact HSS.out _ HBE.out | exact HSS.out _ HMD.out)
      clear hK K;try simp only [Act.put,pE1,pE2,pE3]
      refine tkQ 17 (.bool dd) rfl ?_ ?_
      ·(intro w hSw;simp only [gE1,gE2,gE3];(have hsq:=HSQ.out;go_simp;first | done | exact hsq))
      refine tkQ 18 (.bool false) rfl ?_ ?_
      ·(intro w hSw;simp only [gE1,gE2,gE3];(go_simp;first | done | (cases dd <;> rfl)))
      refine tkP 19 rfl ?_;refine wpAnyH_done (by kernel_rfl) ?_ _;have HEND:=hid hHeld.2;have HSE:=hid hHeld.1;clear hHeld;clear HSE HSS;have HEB:=hid (bthen HB7.out HBE.out);have HUB:=hid (HU7.out.below HBE.out);go_wp2_with fail;go_roundw
      case rel=>exact ⟨kk+1,sv7,l6,l7,by omega,by go_num,HUB.out,HL7.out,HEB.out⟩
      case measure=>simp [Go.Proofs.intOf];omega
     ·skip
      simp only [gE1,gE2,gE3];go_simp;refine (CB2.out _ HBE.out).mono ?_;rintro e w35 ⟨v35,rfl,ho35,hb35⟩;dsimp only;refine hK.out _ _ ?_ (fun hHeld => ?_)
      ·exact HSS.out _ (bthen HBE.out hb35)
      clear hK K;try simp only [Act.put,pE1,pE2,pE3]
      have HBE:=hid (bthen HBE.out hb35);have HC35:=hid hb35;obtain ⟨a35,c35,e35⟩:=row_slice ho35;subst e35;have HT35:Hid (∀ X,Below w35.heap.size w35 X→((convert 33 9 (.slice a35 TY.length c35)).run Tryz.prog X).andThen (fun a w'=>Result.ok (Next.value a) w') = .ok (.value (.string SY)) X):=hid (fun X hX=>by rw [← HSY.out];exact run_textL X _ _ _ ((Rd.of_own ho35).below hX));clear ho35 hb35;refine rd2 13 16 rfl rfl (fun K hK => ?_) fun K hK => ?_
      ·skip
       have hrd:=HT32.out w35 (by first | exact Below.refl _ _ | exact HC35.out);simp only [gE1,gE2,gE3];go_simp;clear hrd;refine hK.out _ _ ?_ (fun hHeld => ?_)
       ·exact (by first | exact HSS.out _ HBE.out | exact HSS.out _ HMD.out)
       clear hK K;try simp only [Act.put,pE1,pE2,pE3]
       refine rd1 16 rfl fun K hK => ?_;have hrd:=HT35.out w35 (Below.refl _ _);simp only [gE1,gE2,gE3];go_simp;clear hrd;refine hK.out _ _ ?_ (fun hHeld => ?_)
       ·exact (by first | exact HSS.out _ HBE.out | exact HSS.out _ HMD.out)
       clear hK K;try simp only [Act.put,pE1,pE2,pE3]
       refine tkQ 17 (.bool dd) rfl ?_ ?_
       ·(intro w hSw;simp only [gE1,gE2,gE3];(have hsq:=HSQ.out;go_simp;first | done | exact hsq))
       refine tkQ 18 (.bool false) rfl ?_ ?_
       ·(intro w hSw;simp only [gE1,gE2,gE3];(go_simp;first | done | (cases dd <;> rfl)))
       refine tkP 19 rfl ?_;refine wpAnyH_done (by kernel_rfl) ?_ _;have HEND:=hid hHeld.2;have HSE:=hid hHeld.1;clear hHeld;clear HSE HSS;have HEB:=hid (bthen HB7.out HBE.out);have HUB:=hid (HU7.out.below HBE.out);go_wp2_with fail;go_roundw
       case rel=>exact ⟨kk+1,sv7,l6,l7,by omega,by go_num,HUB.out,HL7.out,HEB.out⟩
       case measure=>simp [Go.Proofs.intOf];omega
      ·skip
       have hrd:=HT35.out w35 (Below.refl _ _);simp only [gE1,gE2,gE3];go_simp;clear hrd;refine hK.out _ _ ?_ (fun hHeld => ?_)
       ·exact (by first | exact HSS.out _ HBE.out | exact HSS.out _ HMD.out)
       clear hK K;try simp only [Act.put,pE1,pE2,pE3]
       refine rd1 13 rfl fun K hK => ?_;have hrd:=HT32.out w35 (by first | exact Below.refl _ _ | exact HC35.out);simp only [gE1,gE2,gE3];go_simp;clear hrd;refine hK.out _ _ ?_ (fun hHeld => ?_)
       ·exact (by first | exact HSS.out _ HBE.out | exact HSS.out _ HMD.out)
       clear hK K;try simp only [Act.put,pE1,pE2,pE3]
       refine tkQ 17 (.bool dd) rfl ?_ ?_
       ·(intro w hSw;simp only [gE1,gE2,gE3];(have hsq:=HSQ.out;go_simp;first | done | exact hsq))
       refine tkQ 18 (.bool false) rfl ?_ ?_
       ·(intro w hSw;simp only [gE1,gE2,gE3];(go_simp;first | done | (cases dd <;> rfl)))
       refine tkP 19 rfl ?_;refine wpAnyH_done (by kernel_rfl) ?_ _;have HEND:=hid hHeld.2;have HSE:=hid hHeld.1;clear hHeld;clear HSE HSS;have HEB:=hid (bthen HB7.out HBE.out);have HUB:=hid (HU7.out.below HBE.out);go_wp2_with fail;go_roundw
       case rel=>exact ⟨kk+1,sv7,l6,l7,by omega,by go_num,HUB.out,HL7.out,HEB.out⟩
       case measure=>simp [Go.Proofs.intOf];omega
    ·obtain rfl:kk=m:=by omega
     have q1:decide ((kk:Int)<(kk:Int))=false:=decide_eq_false (by omega);have CK1:=looks_any w.heap.size w.heap.size wr B Ba l (HU.out.a.below HBV.out) C sv lw (HU.out.b.below HBV.out) HU.out.eq HSH.out.1 HSH.out.2.1 0;go_wp2_with fail;refine CK1.mono ?_;rintro e w20 ⟨rfl,hb20⟩;have HB20:=hid (bthen HBV.out hb20);have HU20:=hid (HV.out.below hb20);have HL20:Hid ((devS (strip lv)).length≤100000∧lv.length≤100000):=hid (by have h1:=devS_len HV.out.a.ok;have h2:(strip lv).length=lv.length:=(by unfold strip;rw [mapA_len]);have h3:=HVK.out;omega)
     have CK2:=looks_any W0.heap.size W0.heap.size w20 B2 Ba2 lv HU20.out.a C2 svv lwv HU20.out.b HU20.out.eq HL20.out.1 HL20.out.2 0;clear CK1 hb20;go_wp2_with fail;refine CK2.mono ?_;rintro e w21 ⟨rfl,hb21⟩;have HB21:=hid (bthen HB20.out hb21);have CK:=known14_any w21;clear CK2 hb21;go_wp2_with fail;refine CK.mono ?_;rintro e w23 ⟨rfl,hb23⟩;have HB23:=hid (HEN.out _ (bthen HB21.out hb23));clear CK hb23;go_wp2_with fail;go_ret;exact ⟨rfl,HB23.out⟩
end Go.Proofs.YthkmihedkddnmaaGreat
