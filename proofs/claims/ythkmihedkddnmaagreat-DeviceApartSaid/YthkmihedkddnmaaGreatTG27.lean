import Derived.Test.YthkmihedkddnmaaGreatTG2
import Derived.Test.YthkmihedkddnmaaGreatTG19
import Derived.Test.YthkmihedkddnmaaGreatTG26
import Derived.Test.YthkmihedkddnmaaGreatTG1
import Derived.Test.YthkmihedkddnmaaGreatTG3
set_option linter.unusedVariables false
set_option linter.unusedSimpArgs false
set_option maxHeartbeats 6400000
set_option maxRecDepth 100000
namespace Go.Proofs.YthkmihedkddnmaaGreat
open Lib (hid)
open Go.RowKit Wire Cmd
theorem run_cutT {P:Program} (w:World) (t:TypeId) (ao:Option Addr) (n cap size:Nat) (ht:P.underlying t=some (.slice (P.elem t))) (hs:∀ w,(sizeOf (P.elem t)).run P w = .ok size w) (l:Int) (h0:0≤l) (h1:l≤n) :
  (Instr.slice t (.slice ao n cap) (some (.int .i64 l)) none none).run P w = .ok (.slice (cutA ao cap l.toNat size) (n - l.toNat) (cap - l.toNat)) w:=by
 rw [run_slice_l w t ao n cap ht .i64 l h0 h1,hs]
 rfl
theorem szVols (w:World):(sizeOf (Tryz.prog.elem 28)).run Tryz.prog w = .ok 3 w:=by kernel_rfl
theorem undVols:Tryz.prog.underlying 28=some (.slice (Tryz.prog.elem 28)):=by kernel_rfl
theorem infoVols:(Tryz.prog.info? 58).map (fun i=>(i.zero,i.size,i.bytes))=some (some (.agg #[.int .u64 0,.int .i64 0,.slice none 0 0]),3,40):=by kernel_rfl
theorem rvolC_app:∀ a b:List (Nat × (Vl × Value)),rvolC (a ++ b)=rvolC a ++ rvolC b
 | [],b=>rfl
 | x :: a,b=>by simp [rvolC,rvolC_app a b]
theorem rvolC_take:∀ (l:List (Nat × (Vl × Value))) (i:Nat),(rvolC l).take (i * 3)=rvolC (l.take i)
 | [],i=>by simp [rvolC]
 | x :: l,0=>by simp [rvolC]
 | x :: l,i+1=>by
  rw [show (i+1) * 3=i * 3+1+1+1 by omega]
  simp [rvolC,rvolC_take l i]
theorem rvolC_drop:∀ (l:List (Nat × (Vl × Value))) (i:Nat),(rvolC l).drop (i * 3)=rvolC (l.drop i)
 | [],i=>by simp [rvolC]
 | x :: l,0=>by simp
 | x :: l,i+1=>by
  rw [show (i+1) * 3=i * 3+1+1+1 by omega]
  simp [rvolC,rvolC_drop l i]
theorem rvolC_cells:∀ {l:List (Nat × (Vl × Value))},(∀ p∈l,p.2.2.oneCell'=true)→∀ u∈rvolC l,u.oneCell'=true
 | [],_,u,hu=>by cases hu
 | x :: l,h,u,hu=>by
  simp only [rvolC,List.mem_cons] at hu
  rcases hu with rfl | rfl | rfl | hu
  ·rfl
  ·rfl
  ·exact h x (List.mem_cons_self ..)
  ·exact rvolC_cells (fun p hp=>h p (List.mem_cons_of_mem _ hp)) u hu
theorem RDevAt.one {n0:Nat} {w:World} {B:Nat} {sv:Value} {l:List (Nat × (Vl × Value))} (h:RDevAt n0 w B sv l):∀ p∈l,p.2.2.oneCell'=true:=fun p hp=>by
 obtain ⟨a,c,e⟩:=row_slice (h.blk p hp);rw [e]
 rfl
theorem Rd.vhead {w:World} {n cap:Nat} {ao:Option Addr} {l:List (Nat × (Vl × Value))} (h:Rd w 3 (.slice ao n cap) n (rvolC l)) {k:Nat} (hk:k≤n):Rd w 3 (.slice (cutA ao cap 0 3) k cap) k (rvolC (l.take k)):=by
 have:=h.cut (Nat.zero_le k) hk
 simpa [rvolC_take] using this
theorem Rd.vtail {w:World} {n cap:Nat} {ao:Option Addr} {l:List (Nat × (Vl × Value))} (h:Rd w 3 (.slice ao n cap) n (rvolC l)) {k:Nat} (hk:k≤n):Rd w 3 (.slice (cutA ao cap k 3) (n - k) (cap - k)) (n - k) (rvolC (l.drop k)):=by
 have h1:=h.cut hk (Nat.le_refl n);have hlen:l.length * 3=n * 3:=by obtain ⟨_,_,_,hl,_⟩:=h;rw [rvolC_len] at hl;exact hl
 rw [rvolC_drop,List.take_of_length_le (by rw [rvolC_len,List.length_drop];omega)] at h1;exact h1
theorem Rd.vtail0 {w:World} {n cap:Nat} {ao:Option Addr} {l:List (Nat × (Vl × Value))} (h:Rd w 3 (.slice ao n cap) n (rvolC l)):Rd w 3 (.slice (cutA ao cap n 3) 0 (cap - n)) 0 (rvolC (l.drop n)):=by
 have:=h.vtail (Nat.le_refl n)
 rwa [Nat.sub_self] at this
def RDevNew (n0:Nat) (w w':World) (B:Nat) (l:List (Nat × (Vl × Value))):Prop:=∃ sv,RDevAt n0 w' B sv l∧Mods [B] w w'∧∀ k∈ob sv,w.heap.size≤k
theorem RDevAt.of_row {n0:Nat} {w W:World} {B:Nat} {sv sv':Value} {l l':List (Nat × (Vl × Value))} (h:RDevAt n0 w B sv l) (hbw:Below w.heap.size w W) (hr:W.ownsRow w.heap.size 58 3 sv' l'.length (rvolC l')) (hn:n0≤w.heap.size)
  (hb:∀ p∈l',W.ownsRow n0 107 257 p.2.2 p.2.1.m.length (rblkC p.2.1.m)):RDevNew n0 w (W.setCell ⟨B,0,none⟩ sv') B l':=by
 have hB:=h.lt;have hbox:W.heap[B]? = some (.cells #[sv] 30 (0,0)):=(hbw.block B hB).trans h.box;have hs:=setOf hbox 0 sv';refine ⟨sv',⟨by simpa using hs,?_,fun p hp => ?_,h.ge⟩,?_,fun k hk=>ownsRow_ge hr k hk⟩
 ·refine ownsRow_base (ownsRow_at hr (fun k hk=>Below.heap_setCell W ⟨B,0,none⟩ sv' k (fun e => ?_))) hn
  have:=ownsRow_ge hr k hk;have e2:k=B:=e;omega
 ·refine ownsRow_at (hb p hp) (fun k hk=>Below.heap_setCell W ⟨B,0,none⟩ sv' k (fun e => ?_))
  have e2:k=B:=e;subst e2;exact ob_tag (hb p hp) hbox (by decide) hk
 ·exact (Mods.of_below hbw).setCell (p:=⟨B,0,none⟩) (by simp) _
theorem rd_cells {X:World} {g n size:Nat} {cs:Array Value} {t:TypeId} (h:X.heap[g]? = some (.cells cs t (0,0))) (hn:cs.size=n * size) (h1:n≤1000000):Rd X size (.slice (some ⟨g,0,none⟩) n n) n cs.toList :=
 Rd.of_own (base:=0) (e:=t) ⟨by simpa using hn,.inr ⟨g,n,cs,rfl,Nat.zero_le _,h,Nat.le_refl _,by unfold maxLen;omega,hn,List.take_of_length_le (by simp [hn])⟩⟩
theorem vol_new {n0:Nat} {w W:World} {B:Nat} {sv mv:Value} {l:List (Nat × (Vl × Value))} {n size:Nat} {m:List (Nat × List UInt8)} (h:RDevAt n0 w B sv l) (hmv:w.ownsRow n0 107 257 mv m.length (rblkC m)) (hb:Below w.heap.size w W) :
  ∀ p∈putA n (⟨size,m⟩,mv) l,W.ownsRow n0 107 257 p.2.2 p.2.1.m.length (rblkC p.2.1.m):=fun p hp=>by
 rcases mem_putA hp with rfl | hp
 ·exact ownsRow_below hmv hb
 ·exact ownsRow_below (h.blk p hp) hb
theorem add_row {W:World} {a N n size:Nat} {X mv:Value} {m:List (Nat × List UInt8)} {p q:List (Nat × (Vl × Value))} (h:W.ownsRow a 58 3 X N ((rvolC p ++ [.int .u64 (n:Int),.int .i64 (size:Int),mv]) ++ rvolC q)) (hN:(p ++ (n,(⟨size,m⟩,mv)) :: q).length=N) :
  W.ownsRow a 58 3 X (p ++ (n,(⟨size,m⟩,mv)) :: q).length (rvolC (p ++ (n,(⟨size,m⟩,mv)) :: q)):=by
 subst hN;rw [rvolC_app]
 simpa [rvolC] using h
theorem radd_any (n0:Nat) (w:World) (B:Nat) (sv:Value) (l:List (Nat × (Vl × Value))) (h:RDevAt n0 w B sv l) (hn0:n0≤w.heap.size) (n size:Nat) (m:List (Nat × List UInt8)) (mv:Value) (hmv:w.ownsRow n0 107 257 mv m.length (rblkC m)) (hl:l.length≤1000000) (hno:getA n l=none) (hris:Ris l) :
  Calls Tryz.prog 49 #[.pointer (some ⟨B,0,none⟩),.agg #[.int .u64 (n:Int),.int .i64 (size:Int),mv]] w fun e w'=>e = .returned (.tuple #[])∧RDevNew n0 w w' B (putA n (⟨size,m⟩,mv) l):=by
 obtain ⟨am,cm,rfl⟩:=row_slice hmv;obtain ⟨av,cv,rfl⟩:=row_slice h.row;obtain ⟨w1,hw1⟩:∃ W,w.alloc (.cells #[.int .u64 (n:Int),.int .i64 (size:Int),.slice am m.length cm] 58)=W:=⟨_,rfl⟩
 have hb1:Below w.heap.size w w1:=by rw [← hw1];exact balloc (Below.refl _ _) _
 have hx1:w1.heap[w.heap.size]? = some (.cells #[.int .u64 (n:Int),.int .i64 (size:Int),.slice am m.length cm] 58 (0,0)):=by rw [← hw1];exact heap_alloc_new w _
 have HS1:Hid (w1.heap.size=w.heap.size+1):=hid (by rw [← hw1];simp);have HH:=hid h;have HD1:=hid (h.below hb1);have HB1:=hid hb1;have HX1:=hid hx1;have HMV:=hid hmv;have HNO:=hid hno;have HRIS:=hid hris;have HN0:=hid hn0;obtain ⟨k,hk⟩:∃ k,l.length=k:=⟨_,rfl⟩
 have HN:=hid hk;obtain ⟨ml,hml⟩:∃ ml,m.length=ml:=⟨_,rfl⟩
 have HML:=hid hml;rw [hk] at hl HD1 HH;rw [hml] at HX1 hw1 ⊢;have hcap:k≤cv∧cv≤9223372036854775807:=by
  obtain ⟨_,_,e,_,_,⟨_,h1,h2⟩,_⟩:=Rd.of_own h.row;obtain ⟨rfl,_,rfl⟩:=Value.slice.inj e;unfold maxLen at h2;exact ⟨by omega,h2⟩
 clear h hmv hno hris hn0 hb1 hx1 hk hml
 go_enter Tryz.func49,Tryz.ntmps49
 go_wp2_with fail
 (try rw [hw1])
 clear hw1
 go_loopw [4] (fun i wr=>∃ at_:Nat,at_≤k∧i = .int .i64 (at_:Int)∧(∀ (j:Nat) (y:Nat × (Vl × Value)),j<at_→l[j]? = some y→y.1<n)∧Below w1.heap.size w1 wr) (fun i _=>k - (Go.Proofs.intOf i).toNat)
 case atStart=>exact ⟨0,by omega,rfl,fun j y hj=>absurd hj (Nat.not_lt_zero _),Below.refl _ _⟩
 case round =>
  obtain ⟨at_,hat,rfl,hall,hbw⟩:=hrel;have HALL:=hid hall;have HBW:=hid hbw;have HDR:=hid (HD1.out.below hbw);have HXR:=hid ((hbw.block _ (hLT HX1.out)).trans HX1.out);have HXL:=hid (hLT HXR.out);clear hall hbw
  by_cases hlt:at_<k
  ·obtain ⟨p,hp⟩:∃ p,l[at_]? = some p:=⟨_,List.getElem?_eq_getElem (by rw [HN.out];exact hlt)⟩
   have HP:=hid hp;obtain ⟨g,cap,hv,hc1,hc2,e0,_,_⟩:=HDR.out.at_ hp;obtain ⟨rfl,hkk,rfl⟩:=Value.slice.inj hv;clear hkk;have HE0:=hid e0;have HGL:Hid (g<wr.heap.size):=hid (World.block_lt_of_cell? wr _ e0);have hbc:=HDR.out.cell;have HBC:=hid hbc;clear hv hc1 hc2 e0 hbc hp;obtain ⟨pn,hpn⟩:∃ a,p.1=a:=⟨_,rfl⟩
   rw [hpn] at HE0;have HPN:=hid hpn;clear hpn
   by_cases hlt2:pn<n
   ·have HNEX:Hid (∀ (j:Nat) (y:Nat × (Vl × Value)),j<at_+1→l[j]? = some y→y.1<n):=hid (fun j y hj hy=>by
     by_cases e:j=at_
     ·subst e
      rw [HP.out] at hy;obtain rfl:=Option.some.inj hy;rw [HPN.out];exact hlt2
     ·exact HALL.out j y (by omega) hy)
    go_wp2_with fail;have HSS:Hid (∀ X,Below wr.heap.size wr X→(X.cell? ⟨B,0,none⟩=some (.slice (some ⟨g,0,none⟩) k cv)∧X.cell? ⟨g,at_ * 3,none⟩=some (.int .u64 (pn:Int))∧X.cell? ⟨w.heap.size,0,none⟩=some (.int .u64 (n:Int)))∧Below wr.heap.size wr X):=hid (fun X hb=>⟨⟨(World.cell?_of_block (hb.block _ (HDR.out.lt))).trans (HBC.out),(World.cell?_of_block (hb.block _ (HGL.out))).trans (HE0.out),(World.cell?_of_block (hb.block _ (HXL.out))).trans (cellOf HXR.out 0 rfl)⟩,hb⟩)
    refine region_normal (S:=fun X=>(X.cell? ⟨B,0,none⟩=some (.slice (some ⟨g,0,none⟩) k cv)∧X.cell? ⟨g,at_ * 3,none⟩=some (.int .u64 (pn:Int))∧X.cell? ⟨w.heap.size,0,none⟩=some (.int .u64 (n:Int)))∧Below wr.heap.size wr X) (by kernel_rfl) (HSS.out _ (Below.refl _ _).drew) (fun hHeld => ?_);have hbe:Below wr.heap.size wr wr.drew:=(Below.refl _ _).drew;obtain ⟨wd,hwd⟩:∃ y,wr.drew=y:=⟨_,rfl⟩
    rw [hwd] at hHeld hbe ⊢;have HBE:=hid hbe;have HS0:Hid (wr.heap.size≤wd.heap.size):=hid HBE.out.size;clear hwd hbe;refine tkR 0 rfl ?_;refine tkR 1 rfl ?_;refine tkR 2 rfl ?_;refine tkR 3 rfl ?_;refine tkR 4 rfl ?_;refine tkR 5 rfl ?_;refine tkS 6 (.bool true) rfl ?_ ?_
    ·(intro w hSw;simp only [gE1,gE2,gE3];(go_simp;first | done | (simp;omega)))
    refine tkR 7 rfl ?_;refine tkR 8 rfl ?_;refine tkR 12 rfl ?_;refine tkR 16 rfl ?_;refine tkR 9 rfl ?_;refine tkR 17 rfl ?_;refine tkR 10 rfl ?_;refine tkR 11 rfl ?_;refine tkR 13 rfl ?_;refine tkR 14 rfl ?_;refine tkR 15 rfl ?_;refine tkS 18 (.bool true) rfl ?_ ?_
    ·(intro w hSw;simp only [gE1,gE2,gE3];(go_simp;first | done | (simp;omega)))
    refine tkR 19 rfl ?_;refine wpAnyH_done (by kernel_rfl) ⟨rfl,?_⟩ _;have HEND:=hid hHeld.2;have HSE:=hid hHeld.1;clear hHeld;clear HSE HSS HBE;go_wp2_with fail;go_roundw
    case rel=>exact ⟨at_+1,by omega,by go_num,HNEX.out,bthen HBW.out HEND.out⟩
    case measure=>simp [Go.Proofs.intOf];omega
   ·have HEX:Hid (∀ y,l[at_]? = some y→n≤y.1):=hid (fun y hy=>by
     rw [HP.out] at hy;obtain rfl:=Option.some.inj hy;rw [HPN.out]
     omega)
    go_wp2_with fail;have HSS:Hid (∀ X,Below wr.heap.size wr X→(X.cell? ⟨B,0,none⟩=some (.slice (some ⟨g,0,none⟩) k cv)∧X.cell? ⟨g,at_ * 3,none⟩=some (.int .u64 (pn:Int))∧X.cell? ⟨w.heap.size,0,none⟩=some (.int .u64 (n:Int)))∧Below wr.heap.size wr X):=hid (fun X hb=>⟨⟨(World.cell?_of_block (hb.block _ (HDR.out.lt))).trans (HBC.out),(World.cell?_of_block (hb.block _ (HGL.out))).trans (HE0.out),(World.cell?_of_block (hb.block _ (HXL.out))).trans (cellOf HXR.out 0 rfl)⟩,hb⟩)
    refine region_normal (S:=fun X=>(X.cell? ⟨B,0,none⟩=some (.slice (some ⟨g,0,none⟩) k cv)∧X.cell? ⟨g,at_ * 3,none⟩=some (.int .u64 (pn:Int))∧X.cell? ⟨w.heap.size,0,none⟩=some (.int .u64 (n:Int)))∧Below wr.heap.size wr X) (by kernel_rfl) (HSS.out _ (Below.refl _ _).drew) (fun hHeld => ?_);have hbe:Below wr.heap.size wr wr.drew:=(Below.refl _ _).drew;obtain ⟨wd,hwd⟩:∃ y,wr.drew=y:=⟨_,rfl⟩
    rw [hwd] at hHeld hbe ⊢;have HBE:=hid hbe;have HS0:Hid (wr.heap.size≤wd.heap.size):=hid HBE.out.size;clear hwd hbe;refine tkR 0 rfl ?_;refine tkR 1 rfl ?_;refine tkR 2 rfl ?_;refine tkR 3 rfl ?_;refine tkR 4 rfl ?_;refine tkR 5 rfl ?_;refine tkS 6 (.bool true) rfl ?_ ?_
    ·(intro w hSw;simp only [gE1,gE2,gE3];(go_simp;first | done | (simp;omega)))
    refine tkR 7 rfl ?_;refine tkR 8 rfl ?_;refine tkR 12 rfl ?_;refine tkR 16 rfl ?_;refine tkR 9 rfl ?_;refine tkR 17 rfl ?_;refine tkR 10 rfl ?_;refine tkR 11 rfl ?_;refine tkR 13 rfl ?_;refine tkR 14 rfl ?_;refine tkR 15 rfl ?_;refine tkS 18 (.bool false) rfl ?_ ?_
    ·(intro w hSw;simp only [gE1,gE2,gE3];(go_simp;first | done | (simp;omega)))
    refine tkR 19 rfl ?_;refine wpAnyH_done (by kernel_rfl) ⟨rfl,?_⟩ _;have HEND:=hid hHeld.2;have HSE:=hid hHeld.1;clear hHeld;obtain ⟨W3,hW3⟩:∃ W3,W3=wd:=⟨_,rfl⟩
    subst hW3;have HB3:=hid (bthen HBW.out HEND.out);have HR3:=hid (HD1.out.below HB3.out);have hcB:=HR3.out.cell;have hcut:=fun W=>run_cutH (P:=Tryz.prog) W 28 (some ⟨g,0,none⟩) k cv 3 undVols szVols (at_:Int) (by omega) (by omega);have hone:=rvolC_cells (fun p hp=>HD1.out.one p (List.mem_of_mem_take (i:=at_) hp));have hrd:=Rd.vhead (Rd.below (by have h1:=Rd.of_own HD1.out.row;rw [HN.out] at h1;exact h1) HB3.out) (k:=at_) (by omega);have hwz:w1.heap.size≤W3.heap.size:=HB3.out.size;have HONE:=hid hone;have HRD:=hid hrd
    rw [Int.toNat_natCast] at hcut;clear HSE HSS HBE hone hrd
    go_wp2_with (at_builtin;go_must (refine wpList_apps rfl _ _ 28 rfl w1.heap.size 58 _ 3 40 Tryz.underlying28 infoVols rfl (by decide) (by decide) (.slice none 0 0) 0 [] rfl (World.ownsRow_nil _ _ _ _) (.slice (cutA (some ⟨g,0,none⟩) cv 0 3) at_ cv) at_ (rvolC (l.take at_)) rfl HRD.out HONE.out (by omega) hwz ?_);intro v5 w5 ho5 hb5 hg5 hs5 hn5)
    have HBX5:=hid (HB3.out.trans hb5);rw [List.nil_append,Nat.zero_add] at ho5;have HO5:=hid ho5;have HX5:Hid (w5.heap[w.heap.size]? = some (.cells #[.int .u64 (n:Int),.int .i64 (size:Int),.slice am ml cm] 58 (0,0))):=hid ((HBX5.out.block _ (hLT HX1.out)).trans HX1.out);have HL5:=hid (hLT HX5.out);have HBL:Hid (B<w1.heap.size):=hid HD1.out.lt;have HCB5:Hid (w5.cell? ⟨B,0,none⟩=some (.slice (some ⟨g,0,none⟩) k cv)):=hid ((HBX5.out.cell (p:=⟨B,0,none⟩) HBL.out).trans HD1.out.cell)
    have HOB:Hid (∀ k∈ob v5,w1.heap.size≤k):=hid (fun k hk=>ownsRow_ge HO5.out k hk);have HNF:Hid (w.heap.size∉(B :: ob v5)):=hid (fun hh=>by
     rcases List.mem_cons.1 hh with e | hh
     ·have h1:=HH.out.lt
      omega
     ·have h1:=HOB.out _ hh
      have h2:=HS1.out
      omega)
    have HLE5:Hid (w1.heap.size≤w5.heap.size):=hid HBX5.out.size;have HRD1:Hid (Rd w1 3 (.slice (some ⟨g,0,none⟩) k cv) k (rvolC l)):=hid (by have h1:=Rd.of_own HD1.out.row;rw [HN.out] at h1;exact h1);have HCT:Hid (∀ W,(Instr.slice 28 (.slice (some ⟨g,0,none⟩) k cv) (some (.int .i64 (at_:Int))) none none).run Tryz.prog W = .ok (.slice (cutA (some ⟨g,0,none⟩) cv at_ 3) (k - at_) (cv - at_)) W):=hid (fun W=>by
     have h1:=run_cutT (P:=Tryz.prog) W 28 (some ⟨g,0,none⟩) k cv 3 undVols szVols (at_:Int) (by omega) (by omega)
     rwa [Int.toNat_natCast] at h1)
    have HPUT:Hid (l.take at_ ++ (n,(⟨size,m⟩,.slice am ml cm)) :: l.drop at_=putA n (⟨size,m⟩,.slice am ml cm) l):=hid (add_at HALL.out HEX.out HNO.out (by rw [HN.out];omega));have hone2:=rvolC_cells (fun p hp=>HD1.out.one p (List.mem_of_mem_drop (i:=at_) hp));have HONE2:=hid hone2;clear hcut hb5 hg5 hs5 hn5 ho5 hcB hone2
    have HSS:Hid (∀ X,Mods (B :: ob v5) w5 X→(X.cell? ⟨w.heap.size,0,none⟩=some (.int .u64 (n:Int))∧X.cell? ⟨w.heap.size,1,none⟩=some (.int .i64 (size:Int))∧X.cell? ⟨w.heap.size,2,none⟩=some (.slice am ml cm))∧Mods (B :: ob v5) w5 X):=hid (fun X hb=>⟨⟨(World.cell?_of_block (hb.block _ (HL5.out) (HNF.out))).trans (cellOf HX5.out 0 rfl),(World.cell?_of_block (hb.block _ (HL5.out) (HNF.out))).trans (cellOf HX5.out 1 rfl),(World.cell?_of_block (hb.block _ (HL5.out) (HNF.out))).trans (cellOf HX5.out 2 rfl)⟩,hb⟩)
    refine wp_region_held_drew (S:=fun X=>(X.cell? ⟨w.heap.size,0,none⟩=some (.int .u64 (n:Int))∧X.cell? ⟨w.heap.size,1,none⟩=some (.int .i64 (size:Int))∧X.cell? ⟨w.heap.size,2,none⟩=some (.slice am ml cm))∧Mods (B :: ob v5) w5 X) (by kernel_rfl) (HSS.out _ (Mods.of_below (Below.refl _ _).drew)) (fun hHeld => ?_);have hbe:Below w5.heap.size w5 w5.drew:=(Below.refl _ _).drew;obtain ⟨wd,hwd⟩:∃ y,w5.drew=y:=⟨_,rfl⟩
    rw [hwd] at hHeld hbe ⊢;have HBE:=hid hbe;have HS0:Hid (w5.heap.size≤wd.heap.size):=hid HBE.out.size;clear hwd hbe;refine tkP 0 rfl ?_;refine tkP 1 rfl ?_;refine tkP 2 rfl ?_;refine tkP 5 rfl ?_;refine tkP 9 rfl ?_;refine tkP 6 rfl ?_;refine tkP 7 rfl ?_;refine rd2 3 8 rfl rfl (fun K hK => ?_) fun K hK => ?_
    ·skip
     simp only [gE1,gE2,gE3];go_simp;obtain ⟨b3,y3,hw3,hy3,hx3,HN3⟩:=al wd (.cells #[.int .u64 (n:Int),.int .i64 (size:Int),.slice am ml cm] 58);rw [hy3,hw3];have HG3:Hid (w5.heap.size≤b3):=hid (by have:=HBE.out.size;omega);clear hy3 hw3;have HBE:=hid (bthen HBE.out hx3);clear hHeld;refine hK.out _ _ (HSS.out _ (Mods.of_below HBE.out)) fun hHeld => ?_;clear hK K;try simp only [Act.put,pE1,pE2,pE3]
     clear hx3;refine rd2 4 8 rfl rfl (fun K hK => ?_) fun K hK => ?_
     ·skip
      simp only [gE1,gE2,gE3];rw [if_pos (by rfl)];refine wp_apps _ _ 28 rfl w1.heap.size 58 _ 3 40 Tryz.underlying28 infoVols rfl (by decide) (by decide) v5 at_ _ (by rfl) (ownsRow_below HO5.out HBE.out) _ 1 _ (by rfl) (rd_cells HN3.out rfl (by omega)) (by simp [Value.oneCell']) (by omega) (Nat.le_trans HLE5.out HBE.out.size) ?_;intro v6 w6 ho6 hb6 hg6 hs6 hn6;refine hK.out _ _ ?_ (fun hHeld => ?_)
      ·exact HSS.out _ ((Mods.of_below HBE.out).trans (Chg.of_grown hg6 hs6).1 (fun i hi=>.inl (List.mem_cons_of_mem _ hi)))
      clear hK K;try simp only [Act.put,pE1,pE2,pE3]
      have HMD:Hid (Mods (B :: ob v5) w5 w6):=hid ((Mods.of_below HBE.out).trans (Chg.of_grown hg6 hs6).1 (fun i hi=>.inl (List.mem_cons_of_mem _ hi)));have HBX6:Hid (Below w1.heap.size w5 w6):=hid ((HBE.out.mono HLE5.out).trans hb6);have HCB6:Hid (w6.cell? ⟨B,0,none⟩=some (.slice (some ⟨g,0,none⟩) k cv)):=hid ((HBX6.out.cell (p:=⟨B,0,none⟩) HBL.out).trans HCB5.out);have HOB6:Hid (∀ k∈ob v6,k∈ob v5∨w5.heap.size≤k):=hid (fun k hk=>((Chg.of_grown hg6 hs6).2 k hk).imp id (fun h=>Nat.le_trans HBE.out.size h));have HO6:=hid ho6;clear ho6 hb6 hg6 hs6 hn6
      refine rd1 8 rfl fun K hK => ?_;have hrd:=(show w6.cell? ⟨B,0,none⟩=some (.slice (some ⟨g,0,none⟩) k cv) by first | exact (World.cell?_of_block (HBE.out.block B (Nat.lt_of_lt_of_le HBL.out HLE5.out))).trans HCB5.out | exact HCB6.out)
      simp only [gE1,gE2,gE3];go_simp;clear hrd;refine hK.out _ _ ?_ (fun hHeld => ?_)
      ·exact (by first | exact HSS.out _ (Mods.of_below HBE.out) | exact HSS.out _ HMD.out)
      clear hK K;try simp only [Act.put,pE1,pE2,pE3]
      refine tkQ 10 (.slice (cutA (some ⟨g,0,none⟩) cv at_ 3) (k - at_) (cv - at_)) rfl ?_ ?_
      ·(intro w hSw;simp only [gE1,gE2,gE3];(have h6:=HCT.out w;go_simp;first | done | with_reducible rfl))
      refine rd1 11 rfl fun K hK => ?_;simp only [gE1,gE2,gE3];rw [if_pos (by rfl)];refine wp_apps _ _ 28 rfl w1.heap.size 58 _ 3 40 Tryz.underlying28 infoVols rfl (by decide) (by decide) v6 (at_+1) _ (by rfl) HO6.out _ (k - at_) _ (by rfl) (Rd.vtail (Rd.below HRD1.out (HBX5.out.trans HBX6.out)) (by omega)) HONE2.out (by omega) (Nat.le_trans HLE5.out HBX6.out.size) ?_;intro v7 w7 ho7 hb7 hg7 hs7 hn7;refine hK.out _ _ ?_ (fun hHeld => ?_)
      ·exact HSS.out _ (HMD.out.trans (Chg.of_grown hg7 hs7).1 (fun i hi=>(HOB6.out i hi).imp (fun h=>List.mem_cons_of_mem _ h) id))
      clear hK K;try simp only [Act.put,pE1,pE2,pE3]
      have HM7:Hid (Mods (B :: ob v5) w5 w7):=hid (HMD.out.trans (Chg.of_grown hg7 hs7).1 (fun i hi=>(HOB6.out i hi).imp (fun h=>List.mem_cons_of_mem _ h) id));have HBX7:Hid (Below w1.heap.size w5 w7):=hid (HBX6.out.trans hb7);obtain ⟨a7,c7,hv7⟩:=row_slice ho7;subst hv7;have HO7:=hid ho7;clear ho7 hb7 hg7 hs7 hn7;refine tkP 12 rfl ?_;refine tkP 13 rfl ?_;refine rd1 14 rfl fun K hK => ?_;have hc9:=(HBX7.out.cell (p:=⟨B,0,none⟩) HBL.out).trans HCB5.out
      have hf9:w7.frozen? ⟨B,0,none⟩=false:=by rw [(HBX5.out.trans HBX7.out).frozen (p:=⟨B,0,none⟩) HBL.out];exact frozenOf HD1.out.box 0
      simp only [gE1,gE2,gE3];go_simp;refine hK.out _ _ ?_ (fun hHeld => ?_)
      ·exact HSS.out _ (HM7.out.setCell (p:=⟨B,0,none⟩) (List.mem_cons_self ..) _)
      clear hK K;try simp only [Act.put,pE1,pE2,pE3]
      refine wpAnyH_done (by kernel_rfl) ?_ _;have HEND:=hid hHeld.2;have HSE:=hid hHeld.1;clear hHeld;clear HSE HSS;go_wp2_with fail
      go_end0
      refine ⟨rfl,?_⟩;rw [← HPUT.out];have hrow:w7.ownsRow w1.heap.size 58 3 _ (l.take at_ ++ (n,(⟨size,m⟩,.slice am ml cm)) :: l.drop at_).length (rvolC (l.take at_ ++ (n,(⟨size,m⟩,.slice am ml cm)) :: l.drop at_)):=add_row HO7.out (by simp only [List.length_append,List.length_cons,List.length_take,List.length_drop,HN.out];omega);refine RDevAt.of_row HH.out (HB1.out.trans ((HBX5.out.trans HBX7.out).mono (by have:=HS1.out;omega))) (ownsRow_base hrow (by have:=HS1.out;omega)) HN0.out ?_;rw [HPUT.out];have hmv:=HMV.out;have hml:=HML.out;rw [← hml]
      exact vol_new HH.out hmv (HB1.out.trans ((HBX5.out.trans HBX7.out).mono (by have:=HS1.out;omega)))
     ·skip
      have hrd:=(show y3.cell? ⟨B,0,none⟩=some (.slice (some ⟨g,0,none⟩) k cv) by first | exact (World.cell?_of_block (HBE.out.block B (Nat.lt_of_lt_of_le HBL.out HLE5.out))).trans HCB5.out | exact HCB6.out)
      simp only [gE1,gE2,gE3];go_simp;clear hrd;refine hK.out _ _ ?_ (fun hHeld => ?_)
      ·exact (by first | exact HSS.out _ (Mods.of_below HBE.out) | exact HSS.out _ HMD.out)
      clear hK K;try simp only [Act.put,pE1,pE2,pE3]
      refine tkQ 10 (.slice (cutA (some ⟨g,0,none⟩) cv at_ 3) (k - at_) (cv - at_)) rfl ?_ ?_
      ·(intro w hSw;simp only [gE1,gE2,gE3];(have h6:=HCT.out w;go_simp;first | done | with_reducible rfl))
      refine rd1 4 rfl fun K hK => ?_;simp only [gE1,gE2,gE3];rw [if_pos (by rfl)];refine wp_apps _ _ 28 rfl w1.heap.size 58 _ 3 40 Tryz.underlying28 infoVols rfl (by decide) (by decide) v5 at_ _ (by rfl) (ownsRow_below HO5.out HBE.out) _ 1 _ (by rfl) (rd_cells HN3.out rfl (by omega)) (by simp [Value.oneCell']) (by omega) (Nat.le_trans HLE5.out HBE.out.size) ?_;intro v6 w6 ho6 hb6 hg6 hs6 hn6;refine hK.out _ _ ?_ (fun hHeld => ?_)
      ·exact HSS.out _ ((Mods.of_below HBE.out).trans (Chg.of_grown hg6 hs6).1 (fun i hi=>.inl (List.mem_cons_of_mem _ hi)))
      clear hK K;try simp only [Act.put,pE1,pE2,pE3]
      have HMD:Hid (Mods (B :: ob v5) w5 w6):=hid ((Mods.of_below HBE.out).trans (Chg.of_grown hg6 hs6).1 (fun i hi=>.inl (List.mem_cons_of_mem _ hi)));have HBX6:Hid (Below w1.heap.size w5 w6):=hid ((HBE.out.mono HLE5.out).trans hb6);have HCB6:Hid (w6.cell? ⟨B,0,none⟩=some (.slice (some ⟨g,0,none⟩) k cv)):=hid ((HBX6.out.cell (p:=⟨B,0,none⟩) HBL.out).trans HCB5.out);have HOB6:Hid (∀ k∈ob v6,k∈ob v5∨w5.heap.size≤k):=hid (fun k hk=>((Chg.of_grown hg6 hs6).2 k hk).imp id (fun h=>Nat.le_trans HBE.out.size h));have HO6:=hid ho6;clear ho6 hb6 hg6 hs6 hn6
      refine rd1 11 rfl fun K hK => ?_;simp only [gE1,gE2,gE3];rw [if_pos (by rfl)];refine wp_apps _ _ 28 rfl w1.heap.size 58 _ 3 40 Tryz.underlying28 infoVols rfl (by decide) (by decide) v6 (at_+1) _ (by rfl) HO6.out _ (k - at_) _ (by rfl) (Rd.vtail (Rd.below HRD1.out (HBX5.out.trans HBX6.out)) (by omega)) HONE2.out (by omega) (Nat.le_trans HLE5.out HBX6.out.size) ?_;intro v7 w7 ho7 hb7 hg7 hs7 hn7;refine hK.out _ _ ?_ (fun hHeld => ?_)
      ·exact HSS.out _ (HMD.out.trans (Chg.of_grown hg7 hs7).1 (fun i hi=>(HOB6.out i hi).imp (fun h=>List.mem_cons_of_mem _ h) id))
      clear hK K;try simp only [Act.put,pE1,pE2,pE3]
      have HM7:Hid (Mods (B :: ob v5) w5 w7):=hid (HMD.out.trans (Chg.of_grown hg7 hs7).1 (fun i hi=>(HOB6.out i hi).imp (fun h=>List.mem_cons_of_mem _ h) id));have HBX7:Hid (Below w1.heap.size w5 w7):=hid (HBX6.out.trans hb7);obtain ⟨a7,c7,hv7⟩:=row_slice ho7;subst hv7;have HO7:=hid ho7;clear ho7 hb7 hg7 hs7 hn7;refine tkP 12 rfl ?_;refine tkP 13 rfl ?_;refine rd1 14 rfl fun K hK => ?_;have hc9:=(HBX7.out.cell (p:=⟨B,0,none⟩) HBL.out).trans HCB5.out
      have hf9:w7.frozen? ⟨B,0,none⟩=false:=by rw [(HBX5.out.trans HBX7.out).frozen (p:=⟨B,0,none⟩) HBL.out];exact frozenOf HD1.out.box 0
      simp only [gE1,gE2,gE3];go_simp;refine hK.out _ _ ?_ (fun hHeld => ?_)
      ·exact HSS.out _ (HM7.out.setCell (p:=⟨B,0,none⟩) (List.mem_cons_self ..) _)
      clear hK K;try simp only [Act.put,pE1,pE2,pE3]
      refine wpAnyH_done (by kernel_rfl) ?_ _;have HEND:=hid hHeld.2;have HSE:=hid hHeld.1;clear hHeld;clear HSE HSS;go_wp2_with fail
      go_end0
      refine ⟨rfl,?_⟩;rw [← HPUT.out];have hrow:w7.ownsRow w1.heap.size 58 3 _ (l.take at_ ++ (n,(⟨size,m⟩,.slice am ml cm)) :: l.drop at_).length (rvolC (l.take at_ ++ (n,(⟨size,m⟩,.slice am ml cm)) :: l.drop at_)):=add_row HO7.out (by simp only [List.length_append,List.length_cons,List.length_take,List.length_drop,HN.out];omega);refine RDevAt.of_row HH.out (HB1.out.trans ((HBX5.out.trans HBX7.out).mono (by have:=HS1.out;omega))) (ownsRow_base hrow (by have:=HS1.out;omega)) HN0.out ?_;rw [HPUT.out];have hmv:=HMV.out;have hml:=HML.out;rw [← hml]
      exact vol_new HH.out hmv (HB1.out.trans ((HBX5.out.trans HBX7.out).mono (by have:=HS1.out;omega)))
    ·skip
     have hrd:=(show wd.cell? ⟨B,0,none⟩=some (.slice (some ⟨g,0,none⟩) k cv) by first | exact (World.cell?_of_block (HBE.out.block B (Nat.lt_of_lt_of_le HBL.out HLE5.out))).trans HCB5.out | exact HCB6.out)
     simp only [gE1,gE2,gE3];go_simp;clear hrd;refine hK.out _ _ ?_ (fun hHeld => ?_)
     ·exact (by first | exact HSS.out _ (Mods.of_below HBE.out) | exact HSS.out _ HMD.out)
     clear hK K;try simp only [Act.put,pE1,pE2,pE3]
     refine tkQ 10 (.slice (cutA (some ⟨g,0,none⟩) cv at_ 3) (k - at_) (cv - at_)) rfl ?_ ?_
     ·(intro w hSw;simp only [gE1,gE2,gE3];(have h6:=HCT.out w;go_simp;first | done | with_reducible rfl))
     refine rd1 3 rfl fun K hK => ?_;simp only [gE1,gE2,gE3];go_simp;obtain ⟨b3,y3,hw3,hy3,hx3,HN3⟩:=al wd (.cells #[.int .u64 (n:Int),.int .i64 (size:Int),.slice am ml cm] 58);rw [hy3,hw3];have HG3:Hid (w5.heap.size≤b3):=hid (by have:=HBE.out.size;omega);clear hy3 hw3;have HBE:=hid (bthen HBE.out hx3);clear hHeld;refine hK.out _ _ (HSS.out _ (Mods.of_below HBE.out)) fun hHeld => ?_;clear hK K;try simp only [Act.put,pE1,pE2,pE3]
     clear hx3;refine rd1 4 rfl fun K hK => ?_;simp only [gE1,gE2,gE3];rw [if_pos (by rfl)];refine wp_apps _ _ 28 rfl w1.heap.size 58 _ 3 40 Tryz.underlying28 infoVols rfl (by decide) (by decide) v5 at_ _ (by rfl) (ownsRow_below HO5.out HBE.out) _ 1 _ (by rfl) (rd_cells HN3.out rfl (by omega)) (by simp [Value.oneCell']) (by omega) (Nat.le_trans HLE5.out HBE.out.size) ?_;intro v6 w6 ho6 hb6 hg6 hs6 hn6;refine hK.out _ _ ?_ (fun hHeld => ?_)
     ·exact HSS.out _ ((Mods.of_below HBE.out).trans (Chg.of_grown hg6 hs6).1 (fun i hi=>.inl (List.mem_cons_of_mem _ hi)))
     clear hK K;try simp only [Act.put,pE1,pE2,pE3]
     have HMD:Hid (Mods (B :: ob v5) w5 w6):=hid ((Mods.of_below HBE.out).trans (Chg.of_grown hg6 hs6).1 (fun i hi=>.inl (List.mem_cons_of_mem _ hi)));have HBX6:Hid (Below w1.heap.size w5 w6):=hid ((HBE.out.mono HLE5.out).trans hb6);have HCB6:Hid (w6.cell? ⟨B,0,none⟩=some (.slice (some ⟨g,0,none⟩) k cv)):=hid ((HBX6.out.cell (p:=⟨B,0,none⟩) HBL.out).trans HCB5.out);have HOB6:Hid (∀ k∈ob v6,k∈ob v5∨w5.heap.size≤k):=hid (fun k hk=>((Chg.of_grown hg6 hs6).2 k hk).imp id (fun h=>Nat.le_trans HBE.out.size h));have HO6:=hid ho6;clear ho6 hb6 hg6 hs6 hn6
     refine rd1 11 rfl fun K hK => ?_;simp only [gE1,gE2,gE3];rw [if_pos (by rfl)];refine wp_apps _ _ 28 rfl w1.heap.size 58 _ 3 40 Tryz.underlying28 infoVols rfl (by decide) (by decide) v6 (at_+1) _ (by rfl) HO6.out _ (k - at_) _ (by rfl) (Rd.vtail (Rd.below HRD1.out (HBX5.out.trans HBX6.out)) (by omega)) HONE2.out (by omega) (Nat.le_trans HLE5.out HBX6.out.size) ?_;intro v7 w7 ho7 hb7 hg7 hs7 hn7;refine hK.out _ _ ?_ (fun hHeld => ?_)
     ·exact HSS.out _ (HMD.out.trans (Chg.of_grown hg7 hs7).1 (fun i hi=>(HOB6.out i hi).imp (fun h=>List.mem_cons_of_mem _ h) id))
     clear hK K;try simp only [Act.put,pE1,pE2,pE3]
     have HM7:Hid (Mods (B :: ob v5) w5 w7):=hid (HMD.out.trans (Chg.of_grown hg7 hs7).1 (fun i hi=>(HOB6.out i hi).imp (fun h=>List.mem_cons_of_mem _ h) id));have HBX7:Hid (Below w1.heap.size w5 w7):=hid (HBX6.out.trans hb7);obtain ⟨a7,c7,hv7⟩:=row_slice ho7;subst hv7;have HO7:=hid ho7;clear ho7 hb7 hg7 hs7 hn7;refine tkP 12 rfl ?_;refine tkP 13 rfl ?_;refine rd1 14 rfl fun K hK => ?_;have hc9:=(HBX7.out.cell (p:=⟨B,0,none⟩) HBL.out).trans HCB5.out
     have hf9:w7.frozen? ⟨B,0,none⟩=false:=by rw [(HBX5.out.trans HBX7.out).frozen (p:=⟨B,0,none⟩) HBL.out];exact frozenOf HD1.out.box 0
     simp only [gE1,gE2,gE3];go_simp;refine hK.out _ _ ?_ (fun hHeld => ?_)
     ·exact HSS.out _ (HM7.out.setCell (p:=⟨B,0,none⟩) (List.mem_cons_self ..) _)
     clear hK K;try simp only [Act.put,pE1,pE2,pE3]
     refine wpAnyH_done (by kernel_rfl) ?_ _;have HEND:=hid hHeld.2;have HSE:=hid hHeld.1;clear hHeld;clear HSE HSS;go_wp2_with fail
     go_end0
     refine ⟨rfl,?_⟩;rw [← HPUT.out];have hrow:w7.ownsRow w1.heap.size 58 3 _ (l.take at_ ++ (n,(⟨size,m⟩,.slice am ml cm)) :: l.drop at_).length (rvolC (l.take at_ ++ (n,(⟨size,m⟩,.slice am ml cm)) :: l.drop at_)):=add_row HO7.out (by simp only [List.length_append,List.length_cons,List.length_take,List.length_drop,HN.out];omega);refine RDevAt.of_row HH.out (HB1.out.trans ((HBX5.out.trans HBX7.out).mono (by have:=HS1.out;omega))) (ownsRow_base hrow (by have:=HS1.out;omega)) HN0.out ?_;rw [HPUT.out];have hmv:=HMV.out;have hml:=HML.out;rw [← hml]
     exact vol_new HH.out hmv (HB1.out.trans ((HBX5.out.trans HBX7.out).mono (by have:=HS1.out;omega)))
  ·obtain rfl:at_=k:=by omega
   have HEX:Hid (∀ y,l[at_]? = some y→n≤y.1):=hid (fun y hy=>by
    have:=(List.getElem?_eq_some_iff.1 hy).1;have:=HN.out
    omega)
   have hbc:=HDR.out.cell;have HBC:=hid hbc;clear hbc;go_wp2_with fail;have HSS:Hid (∀ X,Below wr.heap.size wr X→(X.cell? ⟨B,0,none⟩=some (.slice av at_ cv))∧Below wr.heap.size wr X):=hid (fun X hb=>⟨(World.cell?_of_block (hb.block _ (HDR.out.lt))).trans (HBC.out),hb⟩);refine region_normal (S:=fun X=>(X.cell? ⟨B,0,none⟩=some (.slice av at_ cv))∧Below wr.heap.size wr X) (by kernel_rfl) (HSS.out _ (Below.refl _ _).drew) (fun hHeld => ?_);have hbe:Below wr.heap.size wr wr.drew:=(Below.refl _ _).drew;obtain ⟨wd,hwd⟩:∃ y,wr.drew=y:=⟨_,rfl⟩
   rw [hwd] at hHeld hbe ⊢;have HBE:=hid hbe;have HS0:Hid (wr.heap.size≤wd.heap.size):=hid HBE.out.size;clear hwd hbe;refine tkR 0 rfl ?_;refine tkR 1 rfl ?_;refine tkR 2 rfl ?_;refine tkR 3 rfl ?_;refine tkR 4 rfl ?_;refine tkR 5 rfl ?_;refine tkS 6 (.bool false) rfl ?_ ?_
   ·(intro w hSw;simp only [gE1,gE2,gE3];(go_simp;first | done | (simp;omega)))
   refine tkR 7 rfl ?_;refine tkV 8 rfl ?_;refine tkV 12 rfl ?_;refine tkV 16 rfl ?_;refine tkV 9 rfl ?_;refine tkV 17 rfl ?_;refine tkV 10 rfl ?_;refine tkV 11 rfl ?_;refine tkV 13 rfl ?_;refine tkV 14 rfl ?_;refine tkV 15 rfl ?_;refine tkV 18 rfl ?_;refine tkR 19 rfl ?_;refine wpAnyH_done (by kernel_rfl) ⟨rfl,?_⟩ _;have HEND:=hid hHeld.2;have HSE:=hid hHeld.1;clear hHeld;obtain ⟨W3,hW3⟩:∃ W3,W3=wd:=⟨_,rfl⟩
   subst hW3;have HB3:=hid (bthen HBW.out HEND.out);have HR3:=hid (HD1.out.below HB3.out);have hcB:=HR3.out.cell;have hcut:=fun W=>run_cutH (P:=Tryz.prog) W 28 av at_ cv 3 undVols szVols (at_:Int) (by omega) (by omega);have hone:=rvolC_cells (fun p hp=>HD1.out.one p (List.mem_of_mem_take (i:=at_) hp));have hrd:=Rd.vhead (Rd.below (by have h1:=Rd.of_own HD1.out.row;rw [HN.out] at h1;exact h1) HB3.out) (k:=at_) (by omega);have hwz:w1.heap.size≤W3.heap.size:=HB3.out.size;have HONE:=hid hone;have HRD:=hid hrd;rw [Int.toNat_natCast] at hcut
   clear HSE HSS HBE hone hrd
   go_wp2_with (at_builtin;go_must (refine wpList_apps rfl _ _ 28 rfl w1.heap.size 58 _ 3 40 Tryz.underlying28 infoVols rfl (by decide) (by decide) (.slice none 0 0) 0 [] rfl (World.ownsRow_nil _ _ _ _) (.slice (cutA av cv 0 3) at_ cv) at_ (rvolC (l.take at_)) rfl HRD.out HONE.out (by omega) hwz ?_);intro v5 w5 ho5 hb5 hg5 hs5 hn5)
   have HBX5:=hid (HB3.out.trans hb5);rw [List.nil_append,Nat.zero_add] at ho5;have HO5:=hid ho5;have HX5:Hid (w5.heap[w.heap.size]? = some (.cells #[.int .u64 (n:Int),.int .i64 (size:Int),.slice am ml cm] 58 (0,0))):=hid ((HBX5.out.block _ (hLT HX1.out)).trans HX1.out);have HL5:=hid (hLT HX5.out);have HBL:Hid (B<w1.heap.size):=hid HD1.out.lt;have HCB5:Hid (w5.cell? ⟨B,0,none⟩=some (.slice av at_ cv)):=hid ((HBX5.out.cell (p:=⟨B,0,none⟩) HBL.out).trans HD1.out.cell)
   have HOB:Hid (∀ k∈ob v5,w1.heap.size≤k):=hid (fun k hk=>ownsRow_ge HO5.out k hk);have HNF:Hid (w.heap.size∉(B :: ob v5)):=hid (fun hh=>by
    rcases List.mem_cons.1 hh with e | hh
    ·have h1:=HH.out.lt
     omega
    ·have h1:=HOB.out _ hh
     have h2:=HS1.out
     omega)
   have HLE5:Hid (w1.heap.size≤w5.heap.size):=hid HBX5.out.size;have HRD1:Hid (Rd w1 3 (.slice av at_ cv) at_ (rvolC l)):=hid (by have h1:=Rd.of_own HD1.out.row;rw [HN.out] at h1;exact h1);have HCT:Hid (∀ W,(Instr.slice 28 (.slice av at_ cv) (some (.int .i64 (at_:Int))) none none).run Tryz.prog W = .ok (.slice (cutA av cv at_ 3) 0 (cv - at_)) W):=hid (fun W=>by
    have h1:=run_cutT (P:=Tryz.prog) W 28 av at_ cv 3 undVols szVols (at_:Int) (by omega) (by omega)
    rwa [Int.toNat_natCast,Nat.sub_self] at h1)
   have HPUT:Hid (l.take at_ ++ (n,(⟨size,m⟩,.slice am ml cm)) :: l.drop at_=putA n (⟨size,m⟩,.slice am ml cm) l):=hid (add_at HALL.out HEX.out HNO.out (by rw [HN.out];omega));have hone2:=rvolC_cells (fun p hp=>HD1.out.one p (List.mem_of_mem_drop (i:=at_) hp));have HONE2:=hid hone2;clear hcut hb5 hg5 hs5 hn5 ho5 hcB hone2
   have HSS:Hid (∀ X,Mods (B :: ob v5) w5 X→(X.cell? ⟨w.heap.size,0,none⟩=some (.int .u64 (n:Int))∧X.cell? ⟨w.heap.size,1,none⟩=some (.int .i64 (size:Int))∧X.cell? ⟨w.heap.size,2,none⟩=some (.slice am ml cm))∧Mods (B :: ob v5) w5 X):=hid (fun X hb=>⟨⟨(World.cell?_of_block (hb.block _ (HL5.out) (HNF.out))).trans (cellOf HX5.out 0 rfl),(World.cell?_of_block (hb.block _ (HL5.out) (HNF.out))).trans (cellOf HX5.out 1 rfl),(World.cell?_of_block (hb.block _ (HL5.out) (HNF.out))).trans (cellOf HX5.out 2 rfl)⟩,hb⟩)
   refine wp_region_held_drew (S:=fun X=>(X.cell? ⟨w.heap.size,0,none⟩=some (.int .u64 (n:Int))∧X.cell? ⟨w.heap.size,1,none⟩=some (.int .i64 (size:Int))∧X.cell? ⟨w.heap.size,2,none⟩=some (.slice am ml cm))∧Mods (B :: ob v5) w5 X) (by kernel_rfl) (HSS.out _ (Mods.of_below (Below.refl _ _).drew)) (fun hHeld => ?_);have hbe:Below w5.heap.size w5 w5.drew:=(Below.refl _ _).drew;obtain ⟨wd,hwd⟩:∃ y,w5.drew=y:=⟨_,rfl⟩
   rw [hwd] at hHeld hbe ⊢;have HBE:=hid hbe;have HS0:Hid (w5.heap.size≤wd.heap.size):=hid HBE.out.size;clear hwd hbe;refine tkP 0 rfl ?_;refine tkP 1 rfl ?_;refine tkP 2 rfl ?_;refine tkP 5 rfl ?_;refine tkP 9 rfl ?_;refine tkP 6 rfl ?_;refine tkP 7 rfl ?_;refine rd2 3 8 rfl rfl (fun K hK => ?_) fun K hK => ?_
   ·skip
    simp only [gE1,gE2,gE3];go_simp;obtain ⟨b3,y3,hw3,hy3,hx3,HN3⟩:=al wd (.cells #[.int .u64 (n:Int),.int .i64 (size:Int),.slice am ml cm] 58);rw [hy3,hw3];have HG3:Hid (w5.heap.size≤b3):=hid (by have:=HBE.out.size;omega);clear hy3 hw3;have HBE:=hid (bthen HBE.out hx3);clear hHeld;refine hK.out _ _ (HSS.out _ (Mods.of_below HBE.out)) fun hHeld => ?_;clear hK K;try simp only [Act.put,pE1,pE2,pE3]
    clear hx3;refine rd2 4 8 rfl rfl (fun K hK => ?_) fun K hK => ?_
    ·skip
     simp only [gE1,gE2,gE3];rw [if_pos (by rfl)];refine wp_apps _ _ 28 rfl w1.heap.size 58 _ 3 40 Tryz.underlying28 infoVols rfl (by decide) (by decide) v5 at_ _ (by rfl) (ownsRow_below HO5.out HBE.out) _ 1 _ (by rfl) (rd_cells HN3.out rfl (by omega)) (by simp [Value.oneCell']) (by omega) (Nat.le_trans HLE5.out HBE.out.size) ?_;intro v6 w6 ho6 hb6 hg6 hs6 hn6;refine hK.out _ _ ?_ (fun hHeld => ?_)
     ·exact HSS.out _ ((Mods.of_below HBE.out).trans (Chg.of_grown hg6 hs6).1 (fun i hi=>.inl (List.mem_cons_of_mem _ hi)))
     clear hK K;try simp only [Act.put,pE1,pE2,pE3]
     have HMD:Hid (Mods (B :: ob v5) w5 w6):=hid ((Mods.of_below HBE.out).trans (Chg.of_grown hg6 hs6).1 (fun i hi=>.inl (List.mem_cons_of_mem _ hi)));have HBX6:Hid (Below w1.heap.size w5 w6):=hid ((HBE.out.mono HLE5.out).trans hb6);have HCB6:Hid (w6.cell? ⟨B,0,none⟩=some (.slice av at_ cv)):=hid ((HBX6.out.cell (p:=⟨B,0,none⟩) HBL.out).trans HCB5.out);have HOB6:Hid (∀ k∈ob v6,k∈ob v5∨w5.heap.size≤k):=hid (fun k hk=>((Chg.of_grown hg6 hs6).2 k hk).imp id (fun h=>Nat.le_trans HBE.out.size h));have HO6:=hid ho6;clear ho6 hb6 hg6 hs6 hn6
     refine rd1 8 rfl fun K hK => ?_;have hrd:=(show w6.cell? ⟨B,0,none⟩=some (.slice av at_ cv) by first | exact (World.cell?_of_block (HBE.out.block B (Nat.lt_of_lt_of_le HBL.out HLE5.out))).trans HCB5.out | exact HCB6.out)
     simp only [gE1,gE2,gE3];go_simp;clear hrd;refine hK.out _ _ ?_ (fun hHeld => ?_)
     ·exact (by first | exact HSS.out _ (Mods.of_below HBE.out) | exact HSS.out _ HMD.out)
     clear hK K;try simp only [Act.put,pE1,pE2,pE3]
     refine tkQ 10 (.slice (cutA av cv at_ 3) 0 (cv - at_)) rfl ?_ ?_
     ·(intro w hSw;simp only [gE1,gE2,gE3];(have h6:=HCT.out w;go_simp;first | done | with_reducible rfl))
     refine rd1 11 rfl fun K hK => ?_;simp only [gE1,gE2,gE3];rw [if_pos (by rfl)];refine wp_apps _ _ 28 rfl w1.heap.size 58 _ 3 40 Tryz.underlying28 infoVols rfl (by decide) (by decide) v6 (at_+1) _ (by rfl) HO6.out _ 0 _ (by rfl) (Rd.vtail0 (Rd.below HRD1.out (HBX5.out.trans HBX6.out))) HONE2.out (by omega) (Nat.le_trans HLE5.out HBX6.out.size) ?_;intro v7 w7 ho7 hb7 hg7 hs7 hn7;refine hK.out _ _ ?_ (fun hHeld => ?_)
     ·exact HSS.out _ (HMD.out.trans (Chg.of_grown hg7 hs7).1 (fun i hi=>(HOB6.out i hi).imp (fun h=>List.mem_cons_of_mem _ h) id))
     clear hK K;try simp only [Act.put,pE1,pE2,pE3]
     have HM7:Hid (Mods (B :: ob v5) w5 w7):=hid (HMD.out.trans (Chg.of_grown hg7 hs7).1 (fun i hi=>(HOB6.out i hi).imp (fun h=>List.mem_cons_of_mem _ h) id));have HBX7:Hid (Below w1.heap.size w5 w7):=hid (HBX6.out.trans hb7);obtain ⟨a7,c7,hv7⟩:=row_slice ho7;subst hv7;have HO7:=hid ho7;clear ho7 hb7 hg7 hs7 hn7;refine tkP 12 rfl ?_;refine tkP 13 rfl ?_;refine rd1 14 rfl fun K hK => ?_;have hc9:=(HBX7.out.cell (p:=⟨B,0,none⟩) HBL.out).trans HCB5.out
     have hf9:w7.frozen? ⟨B,0,none⟩=false:=by rw [(HBX5.out.trans HBX7.out).frozen (p:=⟨B,0,none⟩) HBL.out];exact frozenOf HD1.out.box 0
     simp only [gE1,gE2,gE3];go_simp;refine hK.out _ _ ?_ (fun hHeld => ?_)
     ·exact HSS.out _ (HM7.out.setCell (p:=⟨B,0,none⟩) (List.mem_cons_self ..) _)
     clear hK K;try simp only [Act.put,pE1,pE2,pE3]
     refine wpAnyH_done (by kernel_rfl) ?_ _;have HEND:=hid hHeld.2;have HSE:=hid hHeld.1;clear hHeld;clear HSE HSS;go_wp2_with fail
     go_end0
     refine ⟨rfl,?_⟩;rw [← HPUT.out];have hrow:w7.ownsRow w1.heap.size 58 3 _ (l.take at_ ++ (n,(⟨size,m⟩,.slice am ml cm)) :: l.drop at_).length (rvolC (l.take at_ ++ (n,(⟨size,m⟩,.slice am ml cm)) :: l.drop at_)):=add_row HO7.out (by simp only [List.length_append,List.length_cons,List.length_take,List.length_drop,HN.out];omega);refine RDevAt.of_row HH.out (HB1.out.trans ((HBX5.out.trans HBX7.out).mono (by have:=HS1.out;omega))) (ownsRow_base hrow (by have:=HS1.out;omega)) HN0.out ?_;rw [HPUT.out];have hmv:=HMV.out;have hml:=HML.out;rw [← hml]
     exact vol_new HH.out hmv (HB1.out.trans ((HBX5.out.trans HBX7.out).mono (by have:=HS1.out;omega)))
    ·skip
     have hrd:=(show y3.cell? ⟨B,0,none⟩=some (.slice av at_ cv) by first | exact (World.cell?_of_block (HBE.out.block B (Nat.lt_of_lt_of_le HBL.out HLE5.out))).trans HCB5.out | exact HCB6.out)
     simp only [gE1,gE2,gE3];go_simp;clear hrd;refine hK.out _ _ ?_ (fun hHeld => ?_)
     ·exact (by first | exact HSS.out _ (Mods.of_below HBE.out) | exact HSS.out _ HMD.out)
     clear hK K;try simp only [Act.put,pE1,pE2,pE3]
     refine tkQ 10 (.slice (cutA av cv at_ 3) 0 (cv - at_)) rfl ?_ ?_
     ·(intro w hSw;simp only [gE1,gE2,gE3];(have h6:=HCT.out w;go_simp;first | done | with_reducible rfl))
     refine rd1 4 rfl fun K hK => ?_;simp only [gE1,gE2,gE3];rw [if_pos (by rfl)];refine wp_apps _ _ 28 rfl w1.heap.size 58 _ 3 40 Tryz.underlying28 infoVols rfl (by decide) (by decide) v5 at_ _ (by rfl) (ownsRow_below HO5.out HBE.out) _ 1 _ (by rfl) (rd_cells HN3.out rfl (by omega)) (by simp [Value.oneCell']) (by omega) (Nat.le_trans HLE5.out HBE.out.size) ?_;intro v6 w6 ho6 hb6 hg6 hs6 hn6;refine hK.out _ _ ?_ (fun hHeld => ?_)
     ·exact HSS.out _ ((Mods.of_below HBE.out).trans (Chg.of_grown hg6 hs6).1 (fun i hi=>.inl (List.mem_cons_of_mem _ hi)))
     clear hK K;try simp only [Act.put,pE1,pE2,pE3]
     have HMD:Hid (Mods (B :: ob v5) w5 w6):=hid ((Mods.of_below HBE.out).trans (Chg.of_grown hg6 hs6).1 (fun i hi=>.inl (List.mem_cons_of_mem _ hi)));have HBX6:Hid (Below w1.heap.size w5 w6):=hid ((HBE.out.mono HLE5.out).trans hb6);have HCB6:Hid (w6.cell? ⟨B,0,none⟩=some (.slice av at_ cv)):=hid ((HBX6.out.cell (p:=⟨B,0,none⟩) HBL.out).trans HCB5.out);have HOB6:Hid (∀ k∈ob v6,k∈ob v5∨w5.heap.size≤k):=hid (fun k hk=>((Chg.of_grown hg6 hs6).2 k hk).imp id (fun h=>Nat.le_trans HBE.out.size h));have HO6:=hid ho6;clear ho6 hb6 hg6 hs6 hn6
     refine rd1 11 rfl fun K hK => ?_;simp only [gE1,gE2,gE3];rw [if_pos (by rfl)];refine wp_apps _ _ 28 rfl w1.heap.size 58 _ 3 40 Tryz.underlying28 infoVols rfl (by decide) (by decide) v6 (at_+1) _ (by rfl) HO6.out _ 0 _ (by rfl) (Rd.vtail0 (Rd.below HRD1.out (HBX5.out.trans HBX6.out))) HONE2.out (by omega) (Nat.le_trans HLE5.out HBX6.out.size) ?_;intro v7 w7 ho7 hb7 hg7 hs7 hn7;refine hK.out _ _ ?_ (fun hHeld => ?_)
     ·exact HSS.out _ (HMD.out.trans (Chg.of_grown hg7 hs7).1 (fun i hi=>(HOB6.out i hi).imp (fun h=>List.mem_cons_of_mem _ h) id))
     clear hK K;try simp only [Act.put,pE1,pE2,pE3]
     have HM7:Hid (Mods (B :: ob v5) w5 w7):=hid (HMD.out.trans (Chg.of_grown hg7 hs7).1 (fun i hi=>(HOB6.out i hi).imp (fun h=>List.mem_cons_of_mem _ h) id));have HBX7:Hid (Below w1.heap.size w5 w7):=hid (HBX6.out.trans hb7);obtain ⟨a7,c7,hv7⟩:=row_slice ho7;subst hv7;have HO7:=hid ho7;clear ho7 hb7 hg7 hs7 hn7;refine tkP 12 rfl ?_;refine tkP 13 rfl ?_;refine rd1 14 rfl fun K hK => ?_;have hc9:=(HBX7.out.cell (p:=⟨B,0,none⟩) HBL.out).trans HCB5.out
     have hf9:w7.frozen? ⟨B,0,none⟩=false:=by rw [(HBX5.out.trans HBX7.out).frozen (p:=⟨B,0,none⟩) HBL.out];exact frozenOf HD1.out.box 0
     simp only [gE1,gE2,gE3];go_simp;refine hK.out _ _ ?_ (fun hHeld => ?_)
     ·exact HSS.out _ (HM7.out.setCell (p:=⟨B,0,none⟩) (List.mem_cons_self ..) _)
     clear hK K;try simp only [Act.put,pE1,pE2,pE3]
     refine wpAnyH_done (by kernel_rfl) ?_ _;have HEND:=hid hHeld.2;have HSE:=hid hHeld.1;clear hHeld;clear HSE HSS;go_wp2_with fail
     go_end0
     refine ⟨rfl,?_⟩;rw [← HPUT.out];have hrow:w7.ownsRow w1.heap.size 58 3 _ (l.take at_ ++ (n,(⟨size,m⟩,.slice am ml cm)) :: l.drop at_).length (rvolC (l.take at_ ++ (n,(⟨size,m⟩,.slice am ml cm)) :: l.drop at_)):=add_row HO7.out (by simp only [List.length_append,List.length_cons,List.length_take,List.length_drop,HN.out];omega);refine RDevAt.of_row HH.out (HB1.out.trans ((HBX5.out.trans HBX7.out).mono (by have:=HS1.out;omega))) (ownsRow_base hrow (by have:=HS1.out;omega)) HN0.out ?_;rw [HPUT.out];have hmv:=HMV.out;have hml:=HML.out;rw [← hml]
     exact vol_new HH.out hmv (HB1.out.trans ((HBX5.out.trans HBX7.out).mono (by have:=HS1.out;omega)))
   ·skip
    have hrd:=(show wd.cell? ⟨B,0,none⟩=some (.slice av at_ cv) by first | exact (World.cell?_of_block (HBE.out.block B (Nat.lt_of_lt_of_le HBL.out HLE5.out))).trans HCB5.out | exact HCB6.out)
    simp only [gE1,gE2,gE3];go_simp;clear hrd;refine hK.out _ _ ?_ (fun hHeld => ?_)
    ·exact (by first | exact HSS.out _ (Mods.of_below HBE.out) | exact HSS.out _ HMD.out)
    clear hK K;try simp only [Act.put,pE1,pE2,pE3]
    refine tkQ 10 (.slice (cutA av cv at_ 3) 0 (cv - at_)) rfl ?_ ?_
    ·(intro w hSw;simp only [gE1,gE2,gE3];(have h6:=HCT.out w;go_simp;first | done | with_reducible rfl))
    refine rd1 3 rfl fun K hK => ?_;simp only [gE1,gE2,gE3];go_simp;obtain ⟨b3,y3,hw3,hy3,hx3,HN3⟩:=al wd (.cells #[.int .u64 (n:Int),.int .i64 (size:Int),.slice am ml cm] 58);rw [hy3,hw3];have HG3:Hid (w5.heap.size≤b3):=hid (by have:=HBE.out.size;omega);clear hy3 hw3;have HBE:=hid (bthen HBE.out hx3);clear hHeld;refine hK.out _ _ (HSS.out _ (Mods.of_below HBE.out)) fun hHeld => ?_;clear hK K;try simp only [Act.put,pE1,pE2,pE3]
    clear hx3;refine rd1 4 rfl fun K hK => ?_;simp only [gE1,gE2,gE3];rw [if_pos (by rfl)];refine wp_apps _ _ 28 rfl w1.heap.size 58 _ 3 40 Tryz.underlying28 infoVols rfl (by decide) (by decide) v5 at_ _ (by rfl) (ownsRow_below HO5.out HBE.out) _ 1 _ (by rfl) (rd_cells HN3.out rfl (by omega)) (by simp [Value.oneCell']) (by omega) (Nat.le_trans HLE5.out HBE.out.size) ?_;intro v6 w6 ho6 hb6 hg6 hs6 hn6;refine hK.out _ _ ?_ (fun hHeld => ?_)
    ·exact HSS.out _ ((Mods.of_below HBE.out).trans (Chg.of_grown hg6 hs6).1 (fun i hi=>.inl (List.mem_cons_of_mem _ hi)))
    clear hK K;try simp only [Act.put,pE1,pE2,pE3]
    have HMD:Hid (Mods (B :: ob v5) w5 w6):=hid ((Mods.of_below HBE.out).trans (Chg.of_grown hg6 hs6).1 (fun i hi=>.inl (List.mem_cons_of_mem _ hi)));have HBX6:Hid (Below w1.heap.size w5 w6):=hid ((HBE.out.mono HLE5.out).trans hb6);have HCB6:Hid (w6.cell? ⟨B,0,none⟩=some (.slice av at_ cv)):=hid ((HBX6.out.cell (p:=⟨B,0,none⟩) HBL.out).trans HCB5.out);have HOB6:Hid (∀ k∈ob v6,k∈ob v5∨w5.heap.size≤k):=hid (fun k hk=>((Chg.of_grown hg6 hs6).2 k hk).imp id (fun h=>Nat.le_trans HBE.out.size h));have HO6:=hid ho6;clear ho6 hb6 hg6 hs6 hn6
    refine rd1 11 rfl fun K hK => ?_;simp only [gE1,gE2,gE3];rw [if_pos (by rfl)];refine wp_apps _ _ 28 rfl w1.heap.size 58 _ 3 40 Tryz.underlying28 infoVols rfl (by decide) (by decide) v6 (at_+1) _ (by rfl) HO6.out _ 0 _ (by rfl) (Rd.vtail0 (Rd.below HRD1.out (HBX5.out.trans HBX6.out))) HONE2.out (by omega) (Nat.le_trans HLE5.out HBX6.out.size) ?_;intro v7 w7 ho7 hb7 hg7 hs7 hn7;refine hK.out _ _ ?_ (fun hHeld => ?_)
    ·exact HSS.out _ (HMD.out.trans (Chg.of_grown hg7 hs7).1 (fun i hi=>(HOB6.out i hi).imp (fun h=>List.mem_cons_of_mem _ h) id))
    clear hK K;try simp only [Act.put,pE1,pE2,pE3]
    have HM7:Hid (Mods (B :: ob v5) w5 w7):=hid (HMD.out.trans (Chg.of_grown hg7 hs7).1 (fun i hi=>(HOB6.out i hi).imp (fun h=>List.mem_cons_of_mem _ h) id));have HBX7:Hid (Below w1.heap.size w5 w7):=hid (HBX6.out.trans hb7);obtain ⟨a7,c7,hv7⟩:=row_slice ho7;subst hv7;have HO7:=hid ho7;clear ho7 hb7 hg7 hs7 hn7;refine tkP 12 rfl ?_;refine tkP 13 rfl ?_;refine rd1 14 rfl fun K hK => ?_;have hc9:=(HBX7.out.cell (p:=⟨B,0,none⟩) HBL.out).trans HCB5.out
    have hf9:w7.frozen? ⟨B,0,none⟩=false:=by rw [(HBX5.out.trans HBX7.out).frozen (p:=⟨B,0,none⟩) HBL.out];exact frozenOf HD1.out.box 0
    simp only [gE1,gE2,gE3];go_simp;refine hK.out _ _ ?_ (fun hHeld => ?_)
    ·exact HSS.out _ (HM7.out.setCell (p:=⟨B,0,none⟩) (List.mem_cons_self ..) _)
    clear hK K;try simp only [Act.put,pE1,pE2,pE3]
    refine wpAnyH_done (by kernel_rfl) ?_ _;have HEND:=hid hHeld.2;have HSE:=hid hHeld.1;clear hHeld;clear HSE HSS;go_wp2_with fail
    go_end0
    refine ⟨rfl,?_⟩;rw [← HPUT.out];have hrow:w7.ownsRow w1.heap.size 58 3 _ (l.take at_ ++ (n,(⟨size,m⟩,.slice am ml cm)) :: l.drop at_).length (rvolC (l.take at_ ++ (n,(⟨size,m⟩,.slice am ml cm)) :: l.drop at_)):=add_row HO7.out (by simp only [List.length_append,List.length_cons,List.length_take,List.length_drop,HN.out];omega);refine RDevAt.of_row HH.out (HB1.out.trans ((HBX5.out.trans HBX7.out).mono (by have:=HS1.out;omega))) (ownsRow_base hrow (by have:=HS1.out;omega)) HN0.out ?_;rw [HPUT.out];have hmv:=HMV.out;have hml:=HML.out;rw [← hml]
    exact vol_new HH.out hmv (HB1.out.trans ((HBX5.out.trans HBX7.out).mono (by have:=HS1.out;omega)))
end Go.Proofs.YthkmihedkddnmaaGreat
