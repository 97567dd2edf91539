import Derived.Test.YthkmihedkddnmaaGreatTG2
import Derived.Test.YthkmihedkddnmaaGreatTG18
import Derived.Shelf.SlIterI.Nil
import Derived.Shelf.SortM.Plain
import Derived.Shelf.SortM.SortNone
import Derived.Test.YthkmihedkddnmaaGreatTG6
import Derived.Test.YthkmihedkddnmaaGreatTG1
set_option linter.unusedVariables false
set_option linter.unusedSimpArgs false
set_option maxHeartbeats 6400000
set_option maxRecDepth 100000
namespace Go.Proofs.YthkmihedkddnmaaGreat
open Lib (hid)
open Go.RowKit Go.Maps Wire Cmd
theorem run_textD (w:World) (v:Value) (n:Nat) (bs:List UInt8) (h:Rd w 1 v n (bV bs)):((convert 33 9 v).run Tryz.prog w).andThen (fun a w'=>Result.ok (Next.value a) w') = .ok (.value (.string (strB bs))) w:=by
 rw [run_text w v n bs h];rfl
theorem strB_appD (a b:List UInt8):strB a ++ strB b=strB (a ++ b):=by simp [strB,ByteArray.ext_iff]
theorem num14_any (n:Int) (w:World):Calls Tryz.prog 20 #[.int .i64 n] w fun e w'=>e = .returned (.int .i64 n)∧w=w':=by
 go_enter Tryz.func20,Tryz.ntmps20
 go_wp2_with fail;go_ret;exact ⟨rfl,rfl⟩
def x64:List UInt8:=120 :: List.replicate 63 0
def kC:Op0:=⟨1,1,0,2,0,0,[]⟩
def kW:Op0:=⟨5,1,0,0,4,0,x64⟩
def kR:Op0:=⟨9,1,0,0,0,5,[]⟩
def dC:List (Nat × Vl):=(stepD [] kC 1024).2
def dW:List (Nat × Vl):=(stepD dC kW 1024).2
theorem kR_ok:(stepD dW kR 1024).1.code=0∧(stepD dW kR 1024).1.data=List.replicate 256 0 ++ x64∧(stepD dW kR 1024).1.data.length=320:=by
 refine ⟨by kernel_rfl,by kernel_rfl,by kernel_rfl⟩
theorem kC_Ok:kC.Ok:=by constructor <;> decide
theorem kW_Ok:kW.Ok:=by constructor <;> decide
theorem kR_Ok:kR.Ok:=by constructor <;> decide
theorem rd_heap {X:World} {g:Nat} {t:TypeId} {l:List UInt8} {n:Nat} (h:X.heap[g]? = some (.cells (bV l).toArray t (0,0))) (hl:l.length=n) (hn:n≤1000000):Rd X 1 (.slice (some ⟨g,0,none⟩) n n) n (bV l):=by
 refine ⟨_,_,rfl,by simp [bV_len,hl],by unfold maxLen;omega,⟨(fun h=>by cases h),Nat.le_refl _,by unfold maxLen;omega⟩,fun j u hj=>⟨g,0,rfl,(hLT h),?_⟩⟩;rw [Nat.zero_add];exact cellOf' h j (by simpa using hj)
theorem rd_nil (X:World):Rd X 1 (.slice none 0 0) 0 (bV []):=Rd.of_own (World.ownsRow_nil X 0 5 1)
theorem PartP.chg {n0:Nat} {w w':World} {B Ba:Nat} {l:List (Nat × (Vl × Nat))} {r:Ans0 × List (Nat × Vl)} {e:Ending} (h:PartP n0 w B Ba l r e w'):∃ sa cp l',e = .returned (.agg #[.int .i64 r.1.code,.int .i64 r.1.done,.slice sa r.1.data.length cp])∧DevAt n0 w' B Ba l'∧strip l'=r.2 ∧
  w'.ownsRow w.heap.size 5 1 (.slice sa r.1.data.length cp) r.1.data.length (bV r.1.data)∧Chg (dF Ba l) w w' (dF Ba l'):=by
 obtain ⟨sv,l',rfl,h1,h2,h3,h4⟩:=h;obtain ⟨sa,cp,rfl,_⟩:=Rd.of_own h3;exact ⟨sa,cp,l',rfl,h1,h2,h3,h4⟩
theorem DevAt.own {w0 w w':World} {B Ba:Nat} {l l':List (Nat × (Vl × Nat))} (h:DevAt w0.heap.size w B Ba l) (hb:Below w0.heap.size w0 w) (hc:Chg (dF Ba l) w w' (dF Ba l')):Below w0.heap.size w0 w':=by
 refine hb.trans (hc.1.below (fun k hk => ?_) hb.size)
 rcases List.mem_cons.1 hk with rfl | hk
 ·exact h.ge.2.1
 ·obtain ⟨p,hp,rfl⟩:=List.mem_map.1 hk
  exact h.ge.2.2 p hp
theorem num14_b (n:Int) (w:World):Calls Tryz.prog 20 #[.int .i64 n] w fun e w'=>e = .returned (.int .i64 n)∧Below w.heap.size w w':=(num14_any n w).mono fun e w' ⟨h1,h2⟩=>⟨h1,by rw [← h2];exact Below.refl _ _⟩
theorem known14_any (w:World):Calls Tryz.prog 9 #[] w fun e w'=>e = .returned (.bool true)∧Below w.heap.size w w':=by
 have CN:=dnew_any w.heap.size w (Nat.le_refl _);have HMK9:Hid (∀ W:World,(Instr.makeSlice 33 (.int .i64 256) (.int .i64 256)).run Tryz.prog W = .ok (.slice (some ⟨W.heap.size,0,none⟩) 256 256) (W.alloc (.cells (bV (List.replicate 256 0)).toArray 5))):=hid (fun W=>by kernel_rfl);have HMK:Hid (∀ W:World,(Instr.makeSlice 33 (.int .i64 64) (.int .i64 64)).run Tryz.prog W = .ok (.slice (some ⟨W.heap.size,0,none⟩) 64 64) (W.alloc (.cells (bV (List.replicate 64 0)).toArray 5))):=hid (fun W=>by kernel_rfl)
 go_enter Tryz.func9,Tryz.ntmps9
 go_wp2_with fail;refine CN.mono ?_;rintro e w1 ⟨B,Ba,rfl,hd1,hb1,_,_⟩;dsimp only;have HD1:=hid hd1;have HB1:=hid hb1;clear CN hd1 hb1;have CC:=ddo_at w.heap.size w1 B Ba [] HD1.out kC kC_Ok none 0 (rd_nil _);go_wp2_with fail;refine CC.mono ?_;intro e w2 hP;obtain ⟨sa,cp,l2,rfl,hd2,hs2,_,hc2⟩:=hP.chg;dsimp only;have HD2:=hid hd2;have HS2:Hid (strip l2=dC):=hid hs2;have HB2:=hid (HD1.out.own HB1.out hc2);clear CC hd2 hs2 hc2 hP;have hmk:=HMK.out w2;obtain ⟨w3,hw3⟩:∃ y,w2.alloc (.cells (bV (List.replicate 64 0)).toArray 5)=y:=⟨_,rfl⟩
 have hb3:Below w2.heap.size w2 w3:=by rw [← hw3];exact balloc (Below.refl _ _) _
 have hx3:w3.heap[w2.heap.size]? = some (.cells (bV (List.replicate 64 0)).toArray 5 (0,0)):=by rw [← hw3];exact heap_alloc_new w2 _
 obtain ⟨g,hg⟩:∃ g,w2.heap.size=g:=⟨_,rfl⟩
 have HG:=hid hg;rw [hg] at hx3 hmk;rw [hw3] at hmk;have c30:w3.cell? ⟨g,0,none⟩=some (.int .u8 0):=cellOf hx3 0 rfl;have f30:=frozenOf hx3 0;obtain ⟨w4,hw4⟩:∃ y,w3.setCell ⟨g,0,none⟩ (.int .u8 120)=y:=⟨_,rfl⟩
 have hm4:Mods [g] w3 w4:=by rw [← hw4];exact (Mods.refl _ w3).setCell (p:=⟨g,0,none⟩) (by simp) _
 have hx4:w4.heap[g]? = some (.cells (bV x64).toArray 5 (0,0)):=by
  have h1:=setOf hx3 0 (.int .u8 120);rw [hw4] at h1;rw [h1];have:((bV (List.replicate 64 0)).toArray.setIfInBounds 0 (.int .u8 120))=(bV x64).toArray:=by kernel_rfl
  rw [this]
 have HB4:Hid (Below w2.heap.size w2 w4):=hid (hb3.trans (hm4.below (fun k hk=>by rw [List.mem_singleton.1 hk,hg];exact Nat.le_refl _) hb3.size));have HX4:=hid hx4;have CW:=ddo_at w.heap.size w4 B Ba l2 (HD2.out.below HB4.out) kW kW_Ok (some ⟨g,0,none⟩) 64 (rd_heap hx4 (by decide) (by decide));clear hb3 hx3 hm4 hx4 hg;go_wp2_with fail;refine CW.mono ?_;intro e w5 hP;obtain ⟨sa5,cp5,l5,rfl,hd5,hs5,_,hc5⟩:=hP.chg;dsimp only;have HD5:=hid hd5;have HS5:Hid (strip l5=dW):=hid (by rw [hs5,HS2.out];rfl)
 have HB5:=hid ((HD2.out.below HB4.out).own (bthen HB2.out HB4.out) hc5);have HNG:Hid (g∉dF Ba l5):=hid (fun hh=>by
  have h4:=(hLT HX4.out)
  have h2:=HG.out
  rcases hc5.2 g hh with h | h
  ·have:=HD2.out.lt_all g h
   omega
  ·omega)
 have HX5:=hid ((hc5.1.block g (hLT HX4.out) (fun hh=>by
  have:=HD2.out.lt_all g hh;have:=HG.out
  omega)).trans HX4.out)
 clear CW hd5 hs5 hc5 hP hmk c30 f30 hw3 hw4;have CR:=ddo_at w.heap.size w5 B Ba l5 HD5.out kR kR_Ok none 0 (rd_nil _);go_wp2_with fail;refine CR.mono ?_;intro e w6 hP;obtain ⟨sa6,cp6,l6,rfl,hd6,hs6,ho6,hc6⟩:=hP.chg;rw [HS5.out] at ho6 ⊢;rw [kR_ok.2.2,kR_ok.2.1] at ho6;rw [kR_ok.1,kR_ok.2.2];dsimp only;have HB6:=hid (HD5.out.own HB5.out hc6);have HX6:=hid ((hc6.1.block g (hLT HX5.out) HNG.out).trans HX5.out);have HO6:=hid ho6;clear CR hd6 hs6 hc6 hP ho6;obtain ⟨ad6,had6⟩:∃ d,(stepD dW kR 1024).1.done=d:=⟨_,rfl⟩
 rw [had6];clear had6;obtain ⟨w7,hw7⟩:∃ y,w6.alloc (.cells #[.int .i64 0,.int .i64 ad6,.slice sa6 320 cp6] 35)=y:=⟨_,rfl⟩
 have HB7:Hid (Below w6.heap.size w6 w7):=hid (by rw [← hw7];exact balloc (Below.refl _ _) _);have HX7:Hid (w7.heap[w6.heap.size]? = some (.cells #[.int .i64 0,.int .i64 ad6,.slice sa6 320 cp6] 35 (0,0))):=hid (by rw [← hw7];exact heap_alloc_new w6 _);go_wp2_with fail
 (try rw [hw7])
 clear hw7;obtain ⟨SA,hSA⟩:∃ s,strB (List.replicate 256 0)=s:=⟨_,rfl⟩
 obtain ⟨SB,hSB⟩:∃ s,strB x64=s:=⟨_,rfl⟩
 obtain ⟨SC,hSC⟩:∃ s,strB (List.replicate 256 0 ++ x64)=s:=⟨_,rfl⟩
 have HABC:Hid (SA ++ SB=SC):=hid (by rw [← hSA,← hSB,← hSC,strB_appD]);have hsz:SA.size=256∧SB.size=64∧SC.size=320:=⟨by rw [← hSA];kernel_rfl,by rw [← hSB];kernel_rfl,by rw [← hSC];kernel_rfl⟩
 have HT7:Hid (∀ X,Below w7.heap.size w7 X→((convert 33 9 (.slice sa6 320 cp6)).run Tryz.prog X).andThen (fun a w'=>Result.ok (Next.value a) w') = .ok (.value (.string SC)) X):=hid (fun X hX=>by rw [← hSC];exact run_textD X _ 320 _ ((Rd.of_own HO6.out).below (bthen HB7.out hX)))
 have HT11:Hid (∀ X,Below w7.heap.size w7 X→((convert 33 9 (.slice (some ⟨g,0,none⟩) 64 64)).run Tryz.prog X).andThen (fun a w'=>Result.ok (Next.value a) w') = .ok (.value (.string SB)) X):=hid (fun X hX=>by rw [← hSB];exact run_textD X _ 64 _ ((rd_heap HX6.out (by decide) (by decide)).below (bthen HB7.out hX)));have HSA:=hid hSA;have HLZ:=hid (hLT HX7.out);clear hSA hSB hSC
 have HSS:Hid (∀ X,Below w7.heap.size w7 X→(X.cell? ⟨w6.heap.size,0,none⟩=some (.int .i64 0)∧X.cell? ⟨w6.heap.size,2,none⟩=some (.slice sa6 320 cp6))∧Below w7.heap.size w7 X):=hid (fun X hb=>⟨⟨(World.cell?_of_block (hb.block _ (HLZ.out))).trans (cellOf HX7.out 0 rfl),(World.cell?_of_block (hb.block _ (HLZ.out))).trans (cellOf HX7.out 2 rfl)⟩,hb⟩)
 refine wp_region_held_drew (S:=fun X=>(X.cell? ⟨w6.heap.size,0,none⟩=some (.int .i64 0)∧X.cell? ⟨w6.heap.size,2,none⟩=some (.slice sa6 320 cp6))∧Below w7.heap.size w7 X) (by kernel_rfl) (HSS.out _ (Below.refl _ _).drew) (fun hHeld => ?_);have hbe:Below w7.heap.size w7 w7.drew:=(Below.refl _ _).drew;obtain ⟨wd,hwd⟩:∃ y,w7.drew=y:=⟨_,rfl⟩
 rw [hwd] at hHeld hbe ⊢;have HBE:=hid hbe;have HS0:Hid (w7.heap.size≤wd.heap.size):=hid HBE.out.size;clear hwd hbe;refine tkA 0 rfl ?_;refine tkA 1 rfl ?_;refine rd1 2 rfl fun K hK => ?_;simp only [gE1,gE2,gE3];go_simp;refine (num14_b 0 _).mono ?_;rintro e w8 ⟨rfl,hb8⟩;dsimp only;have HBE:=hid (bthen HBE.out hb8);clear hHeld;refine hK.out _ _ (HSS.out _ HBE.out) fun hHeld => ?_;clear hK K;try simp only [Act.put,pE1,pE2,pE3]
 have HC2:=hid hb8;clear hb8;refine tkA 3 rfl ?_;refine tkA 4 rfl ?_;refine tkA 5 rfl ?_;refine tkA 10 rfl ?_;refine tkA 6 rfl ?_;refine tkB 11 (.string SB) rfl ?_ ?_
 ·(intro w hSw;simp only [gE1,gE2,gE3];(go_simp;exact HT11.out w hSw.2))
 refine tkB 7 (.string SC) rfl ?_ ?_
 ·(intro w hSw;simp only [gE1,gE2,gE3];(go_simp;exact HT7.out w hSw.2))
 refine rd1 8 rfl fun K hK => ?_;obtain ⟨w9,hw9⟩:∃ y,w8.alloc (.cells (bV (List.replicate 256 0)).toArray 5)=y:=⟨_,rfl⟩
 have hmk9:(Instr.makeSlice 33 (.int .i64 256) (.int .i64 256)).run Tryz.prog w8 = .ok (.slice (some ⟨w8.heap.size,0,none⟩) 256 256) w9:=by rw [← hw9];exact HMK9.out w8
 have hb9:Below w8.heap.size w8 w9:=by rw [← hw9];exact balloc (Below.refl _ _) _
 have hx9:w9.heap[w8.heap.size]? = some (.cells (bV (List.replicate 256 0)).toArray 5 (0,0)):=by rw [← hw9];exact heap_alloc_new _ _
 simp only [gE1,gE2,gE3];go_simp;refine hK.out _ _ ?_ (fun hHeld => ?_)
 ·exact HSS.out _ (bthen hHeld.2 hb9)
 clear hK K;try simp only [Act.put,pE1,pE2,pE3]
 have HBE:=hid (bthen HBE.out hb9);have hrd9:=run_textD w9 _ 256 _ (rd_heap hx9 (List.length_replicate) (by decide));rw [HSA.out] at hrd9;clear hw9 hmk9 hb9 hx9;refine rd1 9 rfl fun K hK => ?_;have hrd:=hrd9;simp only [gE1,gE2,gE3];go_simp;clear hrd;refine hK.out _ _ ?_ (fun hHeld => ?_)
 ·exact (by first | exact HSS.out _ HBE.out | exact HSS.out _ HMD.out)
 clear hK K;try simp only [Act.put,pE1,pE2,pE3]
 refine tkB 12 (.string SC) rfl ?_ ?_
 ·(intro w hSw;simp only [gE1,gE2,gE3];(have hh:=HABC.out;go_simp;first | done | rw [hh]))
 refine tkA 13 rfl ?_;refine tkA 14 rfl ?_;refine tkA 15 rfl ?_;refine wpAnyH_done (by kernel_rfl) ?_ _;have HEND:=hid hHeld.2;have HSE:=hid hHeld.1;clear hHeld;clear HSE HSS HBE;go_wp2_with fail;go_ret;exact ⟨rfl,bthen (bthen HB6.out HB7.out) HEND.out⟩
end Go.Proofs.YthkmihedkddnmaaGreat
namespace Go.Proofs.YthkmihedkddnmaaGreat
open Go.RowKit Go.Maps Wire Cmd
end Go.Proofs.YthkmihedkddnmaaGreat
namespace Go.Proofs.YthkmihedkddnmaaGreat
open Go.RowKit Go.Maps Go.Sort Go.Shelf Wire Cmd
def keysI_ren:Go.Shelf.Ren:=⟨fun | 7=>39 | 10=>69 | n=>n,fun | 23=>82 | 26=>3 | 3=>50 | 28=>88 | 0=>0 | 27=>87 | 33=>131 | 4=>4 | n=>n,fun | n=>n⟩
theorem keysI:Go.Proofs.SlLaysZI.n7 Tryz.prog keysI_ren:={
 mixed:=by kernel_rfl
 f7:=⟨Tryz.f39.name,by decide,Tryz.func39.trans (congrArg some (by kernel_rfl))⟩
 f10:=⟨Tryz.f69.name,by decide,Tryz.func69.trans (congrArg some (by kernel_rfl))⟩
 t0:=Tryz.underlying0
 a0:=Tryz.isAgg0
 z0:=Tryz.sizeOf0
 v0:=Tryz.zeroValue0
 t4:=Tryz.underlying4
 a4:=Tryz.isAgg4
 z4:=Tryz.sizeOf4
 v4:=Tryz.zeroValue4
 t23:=Tryz.underlying82
 a23:=Tryz.isAgg82
 z23:=Tryz.sizeOf82
 v23:=Tryz.zeroValue82
 t26:=Tryz.underlying3
 a26:=Tryz.isAgg3
 z26:=Tryz.sizeOf3
 v26:=Tryz.zeroValue3
 t27:=Tryz.underlying87
 a27:=Tryz.isAgg87
 z27:=Tryz.sizeOf87
 v27:=Tryz.zeroValue87
 t28:=Tryz.underlying88
 a28:=Tryz.isAgg88
 z28:=Tryz.sizeOf88
 v28:=Tryz.zeroValue88
 t33:=Tryz.underlying131
 a33:=Tryz.isAgg131
 z33:=Tryz.sizeOf131
 v33:=Tryz.zeroValue131 }
def sortedI_ren:Go.Shelf.Ren:=⟨fun | 6=>38 | 8=>67 | 9=>68 | 11=>94 | 13=>96 | 12=>95 | 23=>122 | 24=>123 | 14=>113 | 15=>114 | 16=>115 | 17=>116 | 18=>117 | 19=>118 | 20=>119 | 21=>120 | 22=>121 | 25=>139 | 26=>140 | 27=>141 | 28=>142 | 29=>143 | 30=>144 | 31=>155 | n=>n,fun | 26=>3 | 28=>88 | 24=>44 | 0=>0 | 3=>3 | 37=>163 | 48=>189 | 50=>38 | 4=>4 | 40=>182 | 39=>181 | 45=>42 | 5=>5 | 9=>9 | 51=>201 | 55=>205 | 57=>215 | 58=>216 | 33=>131 | n=>n,fun | n=>n⟩
theorem sortedI:Go.Proofs.SlLaysZI.n6 Tryz.prog sortedI_ren:={
 mixed:=by kernel_rfl
 f6:=⟨Tryz.f38.name,by decide,Tryz.func38.trans (congrArg some (by kernel_rfl))⟩
 f8:=⟨Tryz.f67.name,by decide,Tryz.func67.trans (congrArg some (by kernel_rfl))⟩
 f11:=⟨Tryz.f94.name,by decide,Tryz.func94.trans (congrArg some (by kernel_rfl))⟩
 t0:=Tryz.underlying0
 a0:=Tryz.isAgg0
 z0:=Tryz.sizeOf0
 v0:=Tryz.zeroValue0
 t24:=Tryz.underlying44
 a24:=Tryz.isAgg44
 z24:=Tryz.sizeOf44
 v24:=Tryz.zeroValue44
 t26:=Tryz.underlying3
 a26:=Tryz.isAgg3
 z26:=Tryz.sizeOf3
 v26:=Tryz.zeroValue3
 t28:=Tryz.underlying88
 a28:=Tryz.isAgg88
 z28:=Tryz.sizeOf88
 v28:=Tryz.zeroValue88
 i26:=by kernel_rfl }
def sortI_ren:Go.Shelf.Ren:=⟨fun | 5=>68 | 8=>96 | 7=>95 | 19=>122 | 20=>123 | 10=>113 | 11=>114 | 12=>115 | 13=>116 | 14=>117 | 15=>118 | 16=>119 | 17=>120 | 18=>121 | 30=>139 | 31=>140 | 32=>141 | 33=>142 | 34=>143 | 35=>144 | 40=>155 | n=>n,fun | 23=>44 | 25=>3 | 3=>3 | 32=>163 | 22=>44 | 0=>0 | 44=>189 | 46=>38 | 4=>4 | 36=>182 | 35=>181 | 41=>42 | 5=>5 | 9=>9 | 53=>201 | 57=>205 | 63=>215 | 64=>216 | n=>n,fun | n=>n⟩
theorem sortI:Go.Proofs.SlLaysM.n5 Tryz.prog sortI_ren:={
 mixed:=by kernel_rfl
 f5:=⟨Tryz.f68.name,by decide,Tryz.func68.trans (congrArg some (by kernel_rfl))⟩
 f7:=⟨Tryz.f95.name,by decide,Tryz.func95.trans (congrArg some (by kernel_rfl))⟩
 f8:=Tryz.func96.trans (congrArg some (by kernel_rfl))
 f10:=⟨Tryz.f113.name,by decide,Tryz.func113.trans (congrArg some (by kernel_rfl))⟩
 f11:=⟨Tryz.f114.name,by decide,Tryz.func114.trans (congrArg some (by kernel_rfl))⟩
 f12:=⟨Tryz.f115.name,by decide,Tryz.func115.trans (congrArg some (by kernel_rfl))⟩
 f13:=⟨Tryz.f116.name,by decide,Tryz.func116.trans (congrArg some (by kernel_rfl))⟩
 f14:=⟨Tryz.f117.name,by decide,Tryz.func117.trans (congrArg some (by kernel_rfl))⟩
 f15:=⟨Tryz.f118.name,by decide,Tryz.func118.trans (congrArg some (by kernel_rfl))⟩
 f16:=⟨Tryz.f119.name,by decide,Tryz.func119.trans (congrArg some (by kernel_rfl))⟩
 f17:=⟨Tryz.f120.name,by decide,Tryz.func120.trans (congrArg some (by kernel_rfl))⟩
 f18:=⟨Tryz.f121.name,by decide,Tryz.func121.trans (congrArg some (by kernel_rfl))⟩
 f19:=Tryz.func122.trans (congrArg some (by kernel_rfl))
 f20:=Tryz.func123.trans (congrArg some (by kernel_rfl))
 f30:=⟨Tryz.f139.name,by decide,Tryz.func139.trans (congrArg some (by kernel_rfl))⟩
 f31:=Tryz.func140.trans (congrArg some (by kernel_rfl))
 f32:=Tryz.func141.trans (congrArg some (by kernel_rfl))
 f33:=⟨Tryz.f142.name,by decide,Tryz.func142.trans (congrArg some (by kernel_rfl))⟩
 f34:=⟨Tryz.f143.name,by decide,Tryz.func143.trans (congrArg some (by kernel_rfl))⟩
 f35:=⟨Tryz.f144.name,by decide,Tryz.func144.trans (congrArg some (by kernel_rfl))⟩
 f40:=⟨Tryz.f155.name,by decide,Tryz.func155.trans (congrArg some (by kernel_rfl))⟩
 t0:=Tryz.underlying0
 a0:=Tryz.isAgg0
 z0:=Tryz.sizeOf0
 v0:=Tryz.zeroValue0
 t3:=Tryz.underlying3
 a3:=Tryz.isAgg3
 z3:=Tryz.sizeOf3
 v3:=Tryz.zeroValue3
 t4:=Tryz.underlying4
 a4:=Tryz.isAgg4
 z4:=Tryz.sizeOf4
 v4:=Tryz.zeroValue4
 t5:=Tryz.underlying5
 a5:=Tryz.isAgg5
 z5:=Tryz.sizeOf5
 v5:=Tryz.zeroValue5
 t9:=Tryz.underlying9
 a9:=Tryz.isAgg9
 z9:=Tryz.sizeOf9
 v9:=Tryz.zeroValue9
 t22:=Tryz.underlying44
 a22:=Tryz.isAgg44
 z22:=Tryz.sizeOf44
 v22:=Tryz.zeroValue44
 t23:=Tryz.underlying44
 a23:=Tryz.isAgg44
 z23:=Tryz.sizeOf44
 v23:=Tryz.zeroValue44
 t25:=Tryz.underlying3
 a25:=Tryz.isAgg3
 z25:=Tryz.sizeOf3
 v25:=Tryz.zeroValue3
 t32:=Tryz.underlying163
 a32:=Tryz.isAgg163
 z32:=Tryz.sizeOf163
 v32:=Tryz.zeroValue163
 t35:=Tryz.underlying181
 a35:=Tryz.isAgg181
 z35:=Tryz.sizeOf181
 v35:=Tryz.zeroValue181
 t36:=Tryz.underlying182
 a36:=Tryz.isAgg182
 z36:=Tryz.sizeOf182
 v36:=Tryz.zeroValue182
 t41:=Tryz.underlying42
 a41:=Tryz.isAgg42
 z41:=Tryz.sizeOf42
 v41:=Tryz.zeroValue42
 t44:=Tryz.underlying189
 a44:=Tryz.isAgg189
 z44:=Tryz.sizeOf189
 v44:=Tryz.zeroValue189
 t46:=Tryz.underlying38
 a46:=Tryz.isAgg38
 z46:=Tryz.sizeOf38
 v46:=Tryz.zeroValue38
 t53:=Tryz.underlying201
 a53:=Tryz.isAgg201
 z53:=Tryz.sizeOf201
 v53:=Tryz.zeroValue201
 t57:=Tryz.underlying205
 a57:=Tryz.isAgg205
 z57:=Tryz.sizeOf205
 v57:=Tryz.zeroValue205
 t63:=Tryz.underlying215
 a63:=Tryz.isAgg215
 z63:=Tryz.sizeOf215
 v63:=Tryz.zeroValue215
 t64:=Tryz.underlying216
 a64:=Tryz.isAgg216
 z64:=Tryz.sizeOf216
 v64:=Tryz.zeroValue216 }
theorem sortsI (m:Nat):AnyZI.SortsIn Tryz.prog sortedI_ren Fence.wide m :=
 ⟨fun blk off cap ss W hH hblk hsz=>callsIn_wide.2 (AnyM.slices_Sort_int sortI blk off cap ss W hH hblk hsz),
  fun p cap W=>callsIn_wide.2 (AnyM.slices_Sort_int_none sortI p cap W)⟩
theorem keysB_any (mb:Option Nat) (W:World):Calls Tryz.prog 39 #[.map mb] W fun e w'=>e = .returned (.func (.func 69) #[] #[.pointer (some ⟨W.heap.size,0,none⟩)])∧w'=W.alloc (.cells #[.map mb] 82) :=
 (callsIn_wide (n:=5)).1 (AnyZI.keys_in keysI Fence.wide 5 trivial rfl mb W)
theorem keys_enc (l:List (Nat × List UInt8)):intKeys (encM .i64 blkD l)=l.map fun p=>(p.1:Int):=by
 unfold encM encA intKeys;simp only [List.map_map]
 rfl
theorem ris_sorted {l:List (Nat × List UInt8)} (h:Ris l) {ss:List Int} (hp:ss.Perm (intKeys (encM .i64 blkD l))):ss.mergeSort (fun x y=>decide (x≤y))=l.map fun p=>(p.1:Int):=by
 rw [keys_enc] at hp;have h1:ss.mergeSort leI=(l.map fun p=>(p.1:Int)).mergeSort leI:=mergeSort_of_perm_i hp;refine h1.trans (List.mergeSort_of_pairwise ?_);refine List.pairwise_map.2 (h.imp fun {a b} hab => ?_);simp only [leI,decide_eq_true_eq];omega
theorem sortedB_any (b:Nat) (m:List (Nat × List UInt8)) (w:World) (h:MapL w Tryz.prog 3 RBlk .i64 blkD b m) (hr:Ris m) (hl:m.length≤1000000) :
  Calls Tryz.prog 38 #[.func (.func 69) #[] #[.pointer (some ⟨w.heap.size,0,none⟩)]] (w.alloc (.cells #[.map (some b)] 82)) fun e w' =>
   ∃ v,e = .returned v∧w'.ownsRow w.heap.size 3 1 v m.length (m.map fun p=>.int .i64 (p.1:Int))∧(v = .slice none 0 0 ↔ m=[])∧Below w.heap.size w w':=by
 have hbl:=h.lt;have hsz:Maps.size (encM .i64 blkD m)=m.length:=size_enc _ _ _;have hseq:SeqGives Fence.wide 2 Tryz.prog 69 #[.pointer (some ⟨w.heap.size,0,none⟩)] encZ (fun ss=>ss.Perm (intKeys (encM .i64 blkD m))) (Maps.size (encM .i64 blkD m)) (w.alloc (.cells #[.map (some b)] 82)) :=
  AnyZI.keys_gives (ρ:=keysI_ren) { keysI with } Fence.wide _ trivial rfl (by omega) w.heap.size b m.length _ _ (by simp) (by simp) (by
   obtain ⟨es,clock,hb,Ft,hs,hD⟩:=h;exact ⟨es,clock,(Below.heap_alloc _ _ b hbl).trans hb,Ft,hs,hD⟩)
 have cS:=AnyZI.sorted_in sortedI Fence.wide 5 trivial trivial trivial trivial rfl (by omega) (sortsI _) (enters_of Tryz.func68 (by kernel_rfl) rfl) 69 #[.pointer (some ⟨w.heap.size,0,none⟩)] trivial (enters_of Tryz.func69 (by kernel_rfl) rfl) _ _ (by rw [hsz];unfold maxLen;omega) (by rw [hsz];omega) _ hseq;change CallsIn _ _ Tryz.prog 38 _ _ _ at cS;refine (callsIn_wide.1 cS).mono ?_;rintro e w' ⟨v,ss,rfl,hS,hrow,hnil,hb⟩;have e1:=ris_sorted hr hS;have e2:ss.length=m.length:=by
  have:=hS.length_eq;rw [keys_enc,List.length_map] at this;exact this
 rw [e1,e2] at hrow;refine ⟨v,rfl,?_,?_,((Below.refl _ w).alloc (Nat.le_refl _) _).trans (hb.mono (by simp))⟩
 ·have:=ownsRow_base_a hrow (show w.heap.size≤_ by simp)
  rw [List.map_map] at this;exact this
 ·rw [hnil]
  constructor
  ·rintro rfl
   exact List.eq_nil_of_length_eq_zero (by simpa using e2.symm)
  ·rintro rfl
   exact List.eq_nil_of_length_eq_zero (by simpa using e2)
theorem dmapped_in (n0:Nat) (w:World) (B Ba:Nat) (l:List (Nat × (Vl × Nat))) (h:DevAt n0 w B Ba l) (n:Nat) (hn:n<18446744073709551616) (x:Vl × Nat) (hg:getA n l=some x) :
  Calls Tryz.prog 16 #[.pointer (some ⟨B,0,none⟩),.int .u64 (n:Int)] w fun e w'=>∃ v,e = .returned v∧w'.ownsRow w.heap.size 3 1 v x.1.m.length (x.1.m.map fun p=>.int .i64 (p.1:Int))∧(v = .slice none 0 0 ↔ x.1.m=[])∧Below w.heap.size w w':=by
 have CT:=dthere_any w _ true h.dv;have c0:=h.cell;obtain ⟨hl,_⟩:=h.look hn hg;have hfl:=fldVol;have hvok:x.1.Ok:=h.ok.vol (n,x.1) (by unfold strip mapA;exact List.mem_map.2 ⟨_,getA_some hg,rfl⟩);have CK:=keysB_any (some x.2) w;have hlen:x.1.m.length≤1000000:=by
  have:=ris_len_le 0 hvok.ris (fun q hq=>⟨Nat.zero_le _,hvok.lt q hq⟩);have:=hvok.size;omega
 have CS:=sortedB_any x.2 x.1.m w (h.vol _ (getA_some hg)) hvok.ris hlen;clear h hvok hlen
 go_enter Tryz.func16,Tryz.ntmps16
 go_wp2_with fail;refine CT.mono ?_;rintro e w1 ⟨rfl,rfl⟩;go_wp2_with fail;refine CK.mono ?_;rintro e w1 ⟨rfl,rfl⟩;go_wp2_with fail;refine CS.mono ?_;rintro e w2 ⟨v,rfl,h1,h2,h3⟩;go_wp2_with fail;go_ret;exact ⟨v,rfl,h1,h2,h3⟩
end Go.Proofs.YthkmihedkddnmaaGreat
namespace Go.Proofs.YthkmihedkddnmaaGreat
open Lib (hid)
open Go.ChangeShapes Go.WideShapes Go.ChangeAt Go.RowKit Go.Deep Wire Cmd
def OpAt (w:World) (b i:Nat) (o:Op0) (sl:Value):Prop :=
 w.cell? ⟨b,i,none⟩=some (.int .i64 o.k)∧w.cell? ⟨b,i+1,none⟩=some (.int .u64 (o.vol:Int))∧w.cell? ⟨b,i+2,none⟩=some (.int .u64 (o.to:Int))∧w.cell? ⟨b,i+3,none⟩=some (.int .i64 o.size) ∧
  w.cell? ⟨b,i+4,none⟩=some (.int .i64 o.pl)∧w.cell? ⟨b,i+5,none⟩=some (.int .i64 o.count)∧w.cell? ⟨b,i+6,none⟩=some sl
def Ops (w:World) (ao:Option Addr) (n cap:Nat) (l:List (Op0 × Value)):Prop :=
 l.length=n∧n≤cap∧cap≤maxLen∧(ao=none→cap=0)∧∀ j x,l[j]? = some x→∃ b off,ao=some ⟨b,off,none⟩∧b<w.heap.size∧OpAt w b (off+j * 7) x.1 x.2∧x.1.Ok∧Rd w 1 x.2 x.1.data.length (bV x.1.data)
theorem Ops.below {w w':World} {ao:Option Addr} {n cap:Nat} {l:List (Op0 × Value)} (h:Ops w ao n cap l) (hb:Below w.heap.size w w'):Ops w' ao n cap l:=by
 obtain ⟨h1,h2,h3,h4,h5⟩:=h;refine ⟨h1,h2,h3,h4,fun j x hx => ?_⟩;obtain ⟨b,off,e,hl,⟨c0,c1,c2,c3,c4,c5,c6⟩,ok,hr⟩:=h5 j x hx;have g:∀ (i:Nat) (v:Value),w.cell? ⟨b,i,none⟩=some v→w'.cell? ⟨b,i,none⟩=some v:=fun i v h=>(hb.cell (p:=⟨b,i,none⟩) hl).trans h;exact ⟨b,off,e,Nat.lt_of_lt_of_le hl hb.size,⟨g _ _ c0,g _ _ c1,g _ _ c2,g _ _ c3,g _ _ c4,g _ _ c5,g _ _ c6⟩,ok,hr.below hb⟩
section
variable {H:Type} {enc:TypeId × Value→H} {w:World} {base:Nat} {held:Bool}
theorem open_ops {b0:Nat} {v:Value} {d:DataW H} {p:List MemPlace}
  (hv:Value.okWide Tryz.prog w .any b0 22 v) (h:DataW.Trod enc Tryz.prog w base (fun _=>true) held 22 v d p):∃ ao n cap l,v = .slice ao n cap∧Ops w ao n cap l:=by
 obtain ⟨a0,len,cap,rfl⟩:=okWide_slice Tryz.underlying22 hv;obtain ⟨fuel,hf⟩:=h
 rcases open_slice Tryz.underlying22 hf with ⟨hcs,_⟩ | ⟨a,l,c,m,n,D,Pl,hcs,_,hl,hm,hmm,_,hi⟩
 ·simp [Value.cells] at hcs
  obtain ⟨rfl,rfl,rfl⟩:=hcs;exact ⟨none,0,0,[],rfl,rfl,Nat.le_refl _,by unfold maxLen;omega,fun _=>rfl,fun j x hj=>by simp at hj⟩
 ·simp [Value.cells] at hcs
  obtain ⟨rfl,rfl,rfl⟩:=hcs
  replace hmm:m=cap:=by simpa using hmm
  subst hmm;obtain ⟨b,off,spot⟩:=a;have each:∀ i,∃ s:Op0 × Value,i<len→spot=none∧b<w.heap.size∧OpAt w b (off+i * 7) s.1 s.2∧s.1.Ok∧Rd w 1 s.2 s.1.data.length (bV s.1.data):=by
   intro i
   by_cases hil:i<len
   ·obtain ⟨cs',hc,ht⟩:=hi i (by omega)
    obtain ⟨o,sl,ok,ecs,hrd⟩:=op_of_trod ht;obtain ⟨_,hlen,hcell⟩:=World.cells?_some hc;rw [cellsOp] at hlen hcell;have hspot:spot=none:=by
     obtain ⟨cs0,hc0,_⟩:=hi 0 (by omega);obtain ⟨_,hlen0,hcell0⟩:=World.cells?_some hc0;rw [cellsOp] at hlen0 hcell0;have h0:=hcell0 0 (by omega);have:=World.cell?_spot (h0.trans (List.getElem?_eq_getElem (by omega)))
     simpa [Addr.add] using this
    subst hspot;have g:∀ j u,j<7→(oC o sl).toList[j]? = some u→w.cell? ⟨b,off+i * 7+j,none⟩=some u:=fun j u hj hu=>by
     have h0:=hcell j hj;rw [Addr.add_lit,Addr.add_lit] at h0;rw [h0,ecs];exact hu
    have g0:=g 0 _ (by omega) rfl;exact ⟨(o,sl),fun _=>⟨rfl,World.block_lt_of_cell? w _ g0,⟨by simpa using g0,g 1 _ (by omega) rfl,g 2 _ (by omega) rfl,g 3 _ (by omega) rfl,g 4 _ (by omega) rfl,g 5 _ (by omega) rfl,g 6 _ (by omega) rfl⟩,ok,hrd⟩⟩
   ·exact ⟨(⟨0,0,0,0,0,0,[]⟩,.nilIface),fun h=>absurd h hil⟩
  obtain ⟨F,hF⟩:=Classical.axiomOfChoice each;refine ⟨_,len,m,(List.range len).map F,rfl,by simp,hl,hm,(fun h=>by cases h),fun j x hj => ?_⟩;have hjl:j<len:=by
   have:=(List.getElem?_eq_some_iff.1 hj).1
   simpa using this
  have hx:F j=x:=by simpa [hjl] using hj
  obtain ⟨hspot,hbl,h0,ok,hrd⟩:=hF j hjl;subst hspot;rw [hx] at h0 ok hrd;exact ⟨b,off,rfl,hbl,h0,ok,hrd⟩
end
def muchD (l:List (Op0 × Value)):Bool:=(l.take 41).any (fun x=>decide (9000<x.1.data.length)) || decide (40<l.length)
theorem muchD_at {l:List (Op0 × Value)} {k:Nat} {x:Op0 × Value} (hx:l[k]? = some x) (hk:k≤40) (h:9000<x.1.data.length):muchD l=true:=by
 unfold muchD;rw [List.any_eq_true.2 ⟨x,List.mem_of_getElem? (i:=k) (by rw [List.getElem?_take,if_pos (by omega)];exact hx),by simpa using h⟩]
 rfl
theorem muchD_end {l:List (Op0 × Value)} (h:∀ (j:Nat) (y:Op0 × Value),j<41→l[j]? = some y→y.1.data.length≤9000):muchD l=decide (40<l.length):=by
 unfold muchD;have:(l.take 41).any (fun x=>decide (9000<x.1.data.length))=false:=by
  rw [List.any_eq_false];intro x hx;obtain ⟨j,hj⟩:=List.mem_iff_getElem?.1 hx;rw [List.getElem?_take] at hj
  split at hj
  ·have:=h j x (by assumption) hj
   simp;omega
  ·cases hj
 rw [this,Bool.false_or]
theorem muchD_no {l:List (Op0 × Value)} (h:muchD l=false):l.length≤40∧∀ x∈l,x.1.data.length≤9000:=by
 unfold muchD at h;rw [Bool.or_eq_false_iff] at h;have h2:l.length≤40:=by simpa using h.2
 refine ⟨h2,fun x hx => ?_⟩;have h1:=h.1;rw [List.any_eq_false,List.take_of_length_le (by omega)] at h1
 simpa using h1 x hx
theorem much14_any (ao:Option Addr) (n cap:Nat) (l:List (Op0 × Value)) (w:World) (h:Ops w ao n cap l):Calls Tryz.prog 8 #[.slice ao n cap] w fun e w'=>e = .returned (.bool (muchD l))∧Below w.heap.size w w':=by
 have HO:=hid h;obtain ⟨hl,hc1,hc2,_,hcell⟩:=h;have HL:=hid hl;unfold maxLen at hc2;have CM:Hid (∀ (o:Op0) (sa:Option Addr) (cp:Nat) (X:World),o.data.length≤9223372036854775807→Calls Tryz.prog 17 #[.agg #[.int .i64 o.k,.int .u64 (o.vol:Int),.int .u64 (o.to:Int),.int .i64 o.size,.int .i64 o.pl,.int .i64 o.count,.slice sa o.data.length cp]] X fun e w'=>e = .returned (.bool (decide (9000<(o.data.length:Int))))∧Below X.heap.size X w'):=hid (fun o sa cp X h=>much13_any o sa cp X h);clear hl hcell
 go_enter Tryz.func8,Tryz.ntmps8
 go_wp2_with fail
 go_loopw [3] (fun i wr=>∃ k:Nat,k≤n∧k≤41∧i = .int .i64 (k:Int)∧(∀ (j:Nat) (y:Op0 × Value),j<k→l[j]? = some y→y.1.data.length≤9000)∧Below w.heap.size w wr) (fun i _=>n - (intOf i).toNat)
 case atStart=>exact ⟨0,by omega,by omega,rfl,fun j y hj=>absurd hj (Nat.not_lt_zero _),Below.refl _ _⟩
 case round =>
  obtain ⟨k,hk,hk2,rfl,hall,hbw⟩:=hrel;have HA:=hid hall;have HB0:=hid hbw;clear hall hbw
  by_cases hlt:k<n
  ·have q0:decide ((k:Int)<(n:Int))=true:=decide_eq_true (by omega)
   by_cases h60:k≤40
   ·have q1:decide ((k:Int)≤40)=true:=decide_eq_true (by omega)
    obtain ⟨x,hx⟩:∃ x,l[k]? = some x:=⟨_,List.getElem?_eq_getElem (by rw [HL.out];exact hlt)⟩
    have HX:=hid hx;obtain ⟨b,off,rfl,_,⟨c0,c1,c2,c3,c4,c5,c6⟩,_,hr⟩:=(HO.out.below HB0.out).2.2.2.2 k x hx;obtain ⟨ax,cx,ex,_,hm,_⟩:=hr;rw [ex] at c6;have C:=CM.out x.1 ax cx wr (by unfold maxLen at hm;omega);clear hx ex hm
    by_cases hb:9000<(x.1.data.length:Int)
    ·have q2:decide (9000<(x.1.data.length:Int))=true:=decide_eq_true hb
     have HM:=hid (muchD_at HX.out h60 (by omega));rw [q2] at C;clear hb q2;go_wp2_with fail;refine C.mono ?_;rintro e w2 ⟨rfl,hb2⟩;have HB2:=hid (bthen HB0.out hb2);clear c0 c1 c2 c3 c4 c5 c6 C hb2;go_wp2_with fail;go_ret;exact ⟨by rw [HM.out];rfl,HB2.out⟩
    ·have q2:decide (9000<(x.1.data.length:Int))=false:=decide_eq_false hb
     have HB:Hid (x.1.data.length≤9000):=hid (by omega);rw [q2] at C;clear hb q2;go_wp2_with fail;refine C.mono ?_;rintro e w2 ⟨rfl,hb2⟩;have HB2:=hid (bthen HB0.out hb2);clear c0 c1 c2 c3 c4 c5 c6 C hb2;go_wp2_with fail;go_round
     case rel =>
      refine ⟨k+1,by omega,by omega,by go_num,fun j y hj hy => ?_,HB2.out⟩
      rcases Nat.lt_succ_iff_lt_or_eq.1 hj with h1 | rfl
      ·exact HA.out j y h1 hy
      ·rw [HX.out] at hy
       obtain rfl:=Option.some.inj hy;exact HB.out
     case measure=>simp [intOf];omega
   ·have q1:decide ((k:Int)≤40)=false:=decide_eq_false (by omega)
    obtain rfl:k=41:=by omega
    have HM:=hid (muchD_end HA.out);have q3:decide (40<(n:Int))=true:=decide_eq_true (by omega);go_wp2_with fail;go_ret;exact ⟨by rw [HM.out,HL.out];simp;omega,HB0.out⟩
  ·obtain rfl:k=n:=by omega
   have q0:decide ((k:Int)<(k:Int))=false:=decide_eq_false (by omega);have HM:Hid (muchD l=decide (40<(k:Int))):=hid (by
    rw [muchD_end (fun j y hj hy=>HA.out j y (by have:=(List.getElem?_eq_some_iff.1 hy).1;rw [HL.out] at this;exact this) hy),HL.out];exact decide_eq_decide.2 (by omega))
   go_wp2_with fail;go_ret;exact ⟨by rw [HM.out];rfl,HB0.out⟩
end Go.Proofs.YthkmihedkddnmaaGreat
namespace Go.Proofs.YthkmihedkddnmaaGreat
open Go
section
variable {P:Program} {ops:Array Oper} {Q:Exit→Act→World→Prop} {md:Region.Mode} {S:World→Prop} {oi:Oper} {v:Value} {fuel:Nat} {listed:Array Bool} {a:Act} {w:World}
theorem tkP (i:Nat) {A2:Act} {L2:Array Bool} (hi:ops[i]? = some oi) (h:wpAnyH P md ops Q S fuel L2 A2 w)
  (hw:Region.wanted oi (yielded ops a.tmps)=true:=by rfl) (hs:Region.noSelect ops=true:=by kernel_rfl) (hf:Region.free md ops listed i=true:=by kernel_rfl) (hr:(Region.ready md ops listed).contains i=true:=by kernel_rfl)
  (hy:∀ w,S w→(execOp a.eval oi).run P w = .ok (.value v) w:=by (intro w hSw;(try dsimp only at hSw);simp only [gE1,gE2,gE3];go_simp;first | done | with_reducible rfl))
  (hQ:∀ c a w,Q (.panic c) (a.put oi.dst v) w→Q (.panic c) a w:=by exact fun _ _ _ h=>h)
  (hA:a.put oi.dst v=A2:=by (simp only [gE1,gE2,gE3,Act.put,pE1,pE2,pE3];first | done | with_reducible rfl)) (hL:listed.setIfInBounds i true=L2:=by first | (simp only [pE1,pE2,pE3];first | done | with_reducible rfl) | exact rfl)
  (hS:S w:=by assumption):wpAnyH P md ops Q S (fuel+1) listed a w:=by
 subst hA hL;exact wpAnyH_take hi hs hf hr hQ (.inl ⟨hw,hy⟩) hS h
theorem tkR (i:Nat) {A2:Act} {L2:Array Bool} (hi:ops[i]? = some oi) (h:wpAnyH P md ops Q S fuel L2 A2 w)
  (hw:Region.wanted oi (yielded ops a.tmps)=true:=by rfl) (hs:Region.noSelect ops=true:=by kernel_rfl) (hf:Region.free md ops listed i=true:=by kernel_rfl) (hr:(Region.ready md ops listed).contains i=true:=by kernel_rfl)
  (hy:∀ w,S w→(execOp a.eval oi).run P w = .ok (.value v) w:=by (intro w hSw;(try dsimp only at hSw);simp only [gE1,gE2,gE3];go_simp;first | done | with_reducible rfl))
  (hQ:∀ c a w,Q (.panic c) (a.put oi.dst v) w→Q (.panic c) a w:=by exact fun _ _ _ h=>(by cases h.1))
  (hA:a.put oi.dst v=A2:=by (simp only [gE1,gE2,gE3,Act.put,pE1,pE2,pE3];first | done | with_reducible rfl)) (hL:listed.setIfInBounds i true=L2:=by first | (simp only [pE1,pE2,pE3];first | done | with_reducible rfl) | exact rfl)
  (hS:S w:=by assumption):wpAnyH P md ops Q S (fuel+1) listed a w:=by
 subst hA hL;exact wpAnyH_take hi hs hf hr hQ (.inl ⟨hw,hy⟩) hS h
theorem tkQ (i:Nat) (v:Value) {A2:Act} {L2:Array Bool} (hi:ops[i]? = some oi) (hy:∀ w,S w→(execOp a.eval oi).run P w = .ok (.value v) w) (h:wpAnyH P md ops Q S fuel L2 A2 w)
  (hw:Region.wanted oi (yielded ops a.tmps)=true:=by rfl) (hs:Region.noSelect ops=true:=by kernel_rfl) (hf:Region.free md ops listed i=true:=by kernel_rfl) (hr:(Region.ready md ops listed).contains i=true:=by kernel_rfl)
  (hQ:∀ c a w,Q (.panic c) (a.put oi.dst v) w→Q (.panic c) a w:=by exact fun _ _ _ h=>h)
  (hA:a.put oi.dst v=A2:=by (simp only [gE1,gE2,gE3,Act.put,pE1,pE2,pE3];first | done | with_reducible rfl)) (hL:listed.setIfInBounds i true=L2:=by first | (simp only [pE1,pE2,pE3];first | done | with_reducible rfl) | exact rfl)
  (hS:S w:=by assumption):wpAnyH P md ops Q S (fuel+1) listed a w:=by
 subst hA hL;exact wpAnyH_take hi hs hf hr hQ (.inl ⟨hw,hy⟩) hS h
theorem tkS (i:Nat) (v:Value) {A2:Act} {L2:Array Bool} (hi:ops[i]? = some oi) (hy:∀ w,S w→(execOp a.eval oi).run P w = .ok (.value v) w) (h:wpAnyH P md ops Q S fuel L2 A2 w)
  (hw:Region.wanted oi (yielded ops a.tmps)=true:=by rfl) (hs:Region.noSelect ops=true:=by kernel_rfl) (hf:Region.free md ops listed i=true:=by kernel_rfl) (hr:(Region.ready md ops listed).contains i=true:=by kernel_rfl)
  (hQ:∀ c a w,Q (.panic c) (a.put oi.dst v) w→Q (.panic c) a w:=by exact fun _ _ _ h=>(by cases h.1))
  (hA:a.put oi.dst v=A2:=by (simp only [gE1,gE2,gE3,Act.put,pE1,pE2,pE3];first | done | with_reducible rfl)) (hL:listed.setIfInBounds i true=L2:=by first | (simp only [pE1,pE2,pE3];first | done | with_reducible rfl) | exact rfl)
  (hS:S w:=by assumption):wpAnyH P md ops Q S (fuel+1) listed a w:=by
 subst hA hL;exact wpAnyH_take hi hs hf hr hQ (.inl ⟨hw,hy⟩) hS h
theorem tkV (i:Nat) {A2:Act} {L2:Array Bool} (hi:ops[i]? = some oi) (h:wpAnyH P md ops Q S fuel L2 A2 w)
  (hw:Region.wanted oi (yielded ops a.tmps)=false:=by rfl) (hs:Region.noSelect ops=true:=by kernel_rfl) (hf:Region.free md ops listed i=true:=by kernel_rfl) (hr:(Region.ready md ops listed).contains i=true:=by kernel_rfl)
  (hQ:∀ c a w,Q (.panic c) (a.put oi.dst undef) w→Q (.panic c) a w:=by exact fun _ _ _ h=>(by cases h.1))
  (hA:a.put oi.dst undef=A2:=by (simp only [gE1,gE2,gE3,Act.put,pE1,pE2,pE3];first | done | with_reducible rfl)) (hL:listed.setIfInBounds i true=L2:=by first | (simp only [pE1,pE2,pE3];first | done | with_reducible rfl) | exact rfl)
  (hS:S w:=by assumption):wpAnyH P md ops Q S (fuel+1) listed a w:=by
 subst hA hL;exact wpAnyH_take hi hs hf hr hQ (.inr ⟨hw,rfl⟩) hS h
end
end Go.Proofs.YthkmihedkddnmaaGreat
namespace Go.Proofs.YthkmihedkddnmaaGreat
open Go.RowKit Go.Sort
def sortN_ren:Go.Shelf.Ren:=⟨fun | 8=>96 | 19=>122 | 20=>123 | 31=>140 | 32=>141 | _=>0,fun | 0=>0 | 3=>3 | 4=>4 | 5=>5 | 9=>9 | 32=>163 | 44=>189 | 46=>38 | 53=>201 | 63=>215 | _=>0,fun | n=>n⟩
theorem sortN31:Go.Proofs.SlLaysM.n31 Tryz.prog sortN_ren:={
 mixed:=by kernel_rfl
 f8:=Tryz.func96.trans (congrArg some (by kernel_rfl))
 f19:=Tryz.func122.trans (congrArg some (by kernel_rfl))
 f20:=Tryz.func123.trans (congrArg some (by kernel_rfl))
 f31:=Tryz.func140.trans (congrArg some (by kernel_rfl))
 t3:=Tryz.underlying3
 a3:=Tryz.isAgg3
 z3:=Tryz.sizeOf3
 v3:=Tryz.zeroValue3
 t4:=Tryz.underlying4
 a4:=Tryz.isAgg4
 z4:=Tryz.sizeOf4
 v4:=Tryz.zeroValue4
 t5:=Tryz.underlying5
 a5:=Tryz.isAgg5
 z5:=Tryz.sizeOf5
 v5:=Tryz.zeroValue5
 t9:=Tryz.underlying9
 a9:=Tryz.isAgg9
 z9:=Tryz.sizeOf9
 v9:=Tryz.zeroValue9
 t32:=Tryz.underlying163
 a32:=Tryz.isAgg163
 z32:=Tryz.sizeOf163
 v32:=Tryz.zeroValue163
 t44:=Tryz.underlying189
 a44:=Tryz.isAgg189
 z44:=Tryz.sizeOf189
 v44:=Tryz.zeroValue189
 t46:=Tryz.underlying38
 a46:=Tryz.isAgg38
 z46:=Tryz.sizeOf38
 v46:=Tryz.zeroValue38 }
theorem sortN32:Go.Proofs.SlLaysM.n32 Tryz.prog sortN_ren:={
 mixed:=by kernel_rfl
 f32:=Tryz.func141.trans (congrArg some (by kernel_rfl))
 t0:=Tryz.underlying0
 a0:=Tryz.isAgg0
 z0:=Tryz.sizeOf0
 v0:=Tryz.zeroValue0
 t32:=Tryz.underlying163
 a32:=Tryz.isAgg163
 z32:=Tryz.sizeOf163
 v32:=Tryz.zeroValue163
 t46:=Tryz.underlying38
 a46:=Tryz.isAgg38
 z46:=Tryz.sizeOf38
 v46:=Tryz.zeroValue38
 t53:=Tryz.underlying201
 a53:=Tryz.isAgg201
 z53:=Tryz.sizeOf201
 v53:=Tryz.zeroValue201
 t63:=Tryz.underlying215
 a63:=Tryz.isAgg215
 z63:=Tryz.sizeOf215
 v63:=Tryz.zeroValue215 }
theorem xnext (rb ro X:Nat) (hX:X<18446744073709551616) (w:World) (hc:w.cell? ⟨rb,ro,none⟩=some (.int .u64 X)) (hf:w.frozen? ⟨rb,ro,none⟩=false) :
  Calls Tryz.prog 141 #[.pointer (some ⟨rb,ro,none⟩)] w fun e w'=>e = .returned (.int .u64 (xorNextN X:Nat))∧w'=(w.setCell ⟨rb,ro,none⟩ (.int .u64 (xorNextN X:Nat))).drewN 3 :=
 calls_of_every_depth fun D=>AnySM.xorshift_NextIn sortN32 D rb ro X hX w hc hf
theorem npow (n:Nat) (hn:n<4611686018427387904) (w:World) :
  Calls Tryz.prog 140 #[.int .i64 n] w fun e w'=>e = .returned (.int .u64 ((1 <<< bitsLen n:Nat):Int))∧w'=w :=
 calls_of_every_depth fun D=>AnySM.nextPowerOfTwoIn sortN31 D n hn w
theorem bitsLenC (x:Int) (w:World) (h0:0≤x) (h1:x≤18446744073709551615) :
  Calls Tryz.prog 96 #[.int .u64 x] w fun e w'=>e = .returned (.int .i64 (Lib.bitLen x.toNat))∧w'=w :=
 calls_of_every_depth fun D=>AnySM.bits_LenIn { sortN31 with } D x w h0 h1
end Go.Proofs.YthkmihedkddnmaaGreat
