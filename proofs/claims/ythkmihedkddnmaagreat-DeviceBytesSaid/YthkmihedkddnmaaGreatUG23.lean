import Derived.Test.YthkmihedkddnmaaGreatUG22
import Derived.Test.YthkmihedkddnmaaGreatUG3
import Derived.Test.YthkmihedkddnmaaGreatUG18
import Derived.Test.YthkmihedkddnmaaGreatUG2
import Derived.Test.YthkmihedkddnmaaGreatUG11
import Derived.Test.YthkmihedkddnmaaGreatUG1
import Derived.Test.YthkmihedkddnmaaGreatUG21
set_option linter.unusedVariables false
set_option linter.unusedSimpArgs false
set_option maxHeartbeats 6400000
set_option maxRecDepth 100000
namespace Go.Proofs.YthkmihedkddnmaaGreat
open Lib (hid)
open Go.RowKit Go.Maps Wire Cmd
def anyU (v:V):Value:=if v.letter=56 then .iface 38 (.int .u64 (v.n:Int)) else .iface 50 (bA v.x)
theorem anyU_one (v:V):(anyU v).oneCell'=true:=by unfold anyU;split <;> rfl
theorem ownsRow_keep {W W1:World} {base base2 size size2 k k2:Nat} {e e2:TypeId} {v v2:Value} {xs ys:List Value} (h:W.ownsRow base e size v k xs) (h2:W.ownsRow base2 e2 size2 v2 k2 ys) (hne:e≠e2) (hg:W.grownBy W1 v2.ownBlock):W1.ownsRow base e size v k xs:=by
 refine h.kept hg ?_
 rcases h.2 with ⟨rfl,_⟩ | ⟨g,cap,cur,rfl,_,hgb,_⟩
 ·exact .inl rfl
 ·refine .inr fun e' => ?_
  rcases h2.2 with ⟨rfl,_⟩ | ⟨g2,cap2,cur2,rfl,_,hgb2,_⟩
  ·simp [Value.ownBlock] at e'
  ·simp [Value.ownBlock] at e'
   subst e';rw [hgb] at hgb2
   cases hgb2
   exact hne rfl
theorem volV_num {l:List (Nat × Vl)} (h:DevOk l):∀ v∈volsV l,(v.letter=56∧v.n<18446744073709551616∧v.b=[])∨(v.letter=35∧v.x.length=256∧v.b=[]):=by
 intro v hv;unfold volsV at hv;obtain ⟨p,hp,hv⟩:=List.mem_flatMap.1 hv;have hn:=h.nat p hp;have ho:=h.vol p hp;have hs:=ho.size;have hl:=ho.len;unfold volV at hv
 rcases List.mem_append.1 hv with hv | hv
 ·simp only [List.mem_cons,List.not_mem_nil,or_false] at hv
  rcases hv with rfl | rfl | rfl
  ·exact .inl ⟨rfl,by show p.1<_;omega,rfl⟩
  ·exact .inl ⟨rfl,by show p.2.size<_;omega,rfl⟩
  ·exact .inl ⟨rfl,by show p.2.m.length<_;omega,rfl⟩
 ·unfold blksV at hv
  obtain ⟨q,hq,hv⟩:=List.mem_flatMap.1 hv;simp only [List.mem_cons,List.not_mem_nil,or_false] at hv
  rcases hv with rfl | rfl
  ·have:=ho.lt q hq
   exact .inl ⟨rfl,by show q.1<_;omega,rfl⟩
  ·exact .inr ⟨rfl,ho.blk q hq,rfl⟩
theorem devV_num {l:List (Nat × Vl)} (h:DevOk l) (hl:l.length<4294967296):∀ v∈devV l,(v.letter=56∧v.n<18446744073709551616∧v.b=[])∨(v.letter=35∧v.x.length=256∧v.b=[]):=by
 intro v hv;unfold devV at hv
 rcases List.mem_cons.1 hv with rfl | hv
 ·exact .inl ⟨rfl,by show l.length<_;omega,rfl⟩
 ·exact volV_num h v hv
theorem anyU_any (w:World) {v:V} (h:(v.letter=56∧v.n<18446744073709551616∧v.b=[])∨(v.letter=35∧v.x.length=256∧v.b=[])):AnyV w (anyU v) v:=by
 unfold anyU
 rcases h with ⟨h1,h2,_⟩ | ⟨h1,h2,_⟩
 ·rw [if_pos h1]
  exact .inl ⟨h1,rfl,h2⟩
 ·rw [if_neg (by rw [h1];decide)]
  exact .inr (.inr (.inr (.inl ⟨h1,rfl,h2⟩)))
theorem volsS_take {l:List (Nat × Vl)} {j:Nat} {p:Nat × Vl} (h:l[j]? = some p):volsS (l.take (j+1))=volsS (l.take j) ++ volS p:=by
 unfold volsS;rw [List.take_add_one,h,List.flatMap_append]
 simp
theorem volsV_take {l:List (Nat × Vl)} {j:Nat} {p:Nat × Vl} (h:l[j]? = some p):volsV (l.take (j+1))=volsV (l.take j) ++ volV p:=by
 unfold volsV;rw [List.take_add_one,h,List.flatMap_append]
 simp
theorem blksS_take {m:List (Nat × List UInt8)} {j:Nat} {q:Nat × List UInt8} (h:m[j]? = some q):blksS (m.take (j+1))=blksS (m.take j) ++ [52,35]:=by
 unfold blksS;rw [List.take_add_one,h,List.flatMap_append]
 simp
theorem blksV_take {m:List (Nat × List UInt8)} {j:Nat} {q:Nat × List UInt8} (h:m[j]? = some q):blksV (m.take (j+1))=blksV (m.take j) ++ [num q.1,blk q.2]:=by
 unfold blksV;rw [List.take_add_one,h,List.flatMap_append]
 simp
theorem volsV_len:∀ l:List (Nat × Vl),(volsV l).length=(volsS l).length
 | []=>rfl
 | p :: l=>by
  have e1:volsV (p :: l)=volV p ++ volsV l:=rfl;have e2:volsS (p :: l)=volS p ++ volsS l:=rfl;have e3:(blksV p.2.m).length=(blksS p.2.m).length:=by
   unfold blksV blksS
   induction p.2.m with
   | nil=>rfl
   | cons q m ih=>simp only [List.flatMap_cons,List.length_append,List.length_cons,List.length_nil,ih]
  rw [e1,e2,List.length_append,List.length_append,volsV_len l];unfold volV volS;simp only [List.length_append,List.length_cons,List.length_nil,e3]
theorem volsS_le {l:List (Nat × Vl)} {j:Nat}:(volsS (l.take j)).length≤(volsS l).length:=by
 have h:volsS l=volsS (l.take j) ++ volsS (l.drop j):=by
  unfold volsS;rw [← List.flatMap_append,List.take_append_drop]
 rw [h,List.length_append];omega
theorem blksS_len (m:List (Nat × List UInt8)):(blksS m).length=m.length * 2:=by
 unfold blksS
 induction m with
 | nil=>rfl
 | cons q m ih=>simp only [List.flatMap_cons,List.length_append,List.length_cons,List.length_nil,ih];omega
theorem ownsRow_new (w:World) (base:Nat) (cs:Array Value) (t:TypeId) (hb:base≤w.heap.size) (hl:cs.size≤1000000):(w.alloc (.cells cs t)).ownsRow base t 1 (.slice (some ⟨w.heap.size,0,none⟩) cs.size cs.size) cs.size cs.toList :=
 ⟨by simp,.inr ⟨w.heap.size,cs.size,cs,rfl,hb,heap_alloc_new w _,Nat.le_refl _,by unfold maxLen;omega,by simp,by rw [Nat.mul_one];exact List.take_of_length_le (by simp)⟩⟩
theorem Rd.new3 (w:World) (a b c:Value) (t:TypeId):Rd (w.alloc (.cells #[a,b,c] t)) 1 (.slice (some ⟨w.heap.size,0,none⟩) 3 3) 3 [a,b,c]:=Rd.of_own (ownsRow_new w 0 #[a,b,c] t (Nat.zero_le _) (by simp))
theorem Rd.new2 (w:World) (a b:Value) (t:TypeId):Rd (w.alloc (.cells #[a,b] t)) 1 (.slice (some ⟨w.heap.size,0,none⟩) 2 2) 2 [a,b]:=Rd.of_own (ownsRow_new w 0 #[a,b] t (Nat.zero_le _) (by simp))
theorem fldVol0:∀ (w:World) (s:Int) (p:Option Nat),(Instr.field 84 (.agg #[.int .i64 s,.map p]) 0).run Tryz.prog w = .ok (.int .i64 s) w:=fun w s p=>by kernel_rfl
def eS (S:List UInt8) (m:List (Nat × List UInt8)) (t:Nat):List UInt8:=52 :: (S ++ [52,52,52] ++ blksS (m.take t))
def eV (n:Nat) (U:List V) (a b c:Nat) (m:List (Nat × List UInt8)) (t:Nat):List V:=num n :: (U ++ [num a,num b,num c] ++ blksV (m.take t))
def eL (S:List UInt8) (m:List (Nat × List UInt8)) (t:Nat):Nat:=1+(S ++ [52,52,52] ++ blksS (m.take t)).length
theorem dbytes_at (n0:Nat) (w:World) (B Ba:Nat) (l:List (Nat × (Vl × Nat))) (h:DevAt n0 w B Ba l) (hsh:(devS (strip l)).length≤100000) (hl:l.length≤100000) :
  Calls Tryz.prog 29 #[.pointer (some ⟨B,0,none⟩)] w fun e w'=>∃ v,e = .returned v∧w'.ownsRow w.heap.size 5 1 v (devB (strip l)).length (bV (devB (strip l)))∧Below w.heap.size w w':=by
 have CT:=dthere_any w _ true h.dv;have CV:=dvolumes_at n0 w B Ba l h (by omega);have HH:=hid h;have HSH:=hid hsh;obtain ⟨n,hn⟩:∃ n,l.length=n:=⟨_,rfl⟩
 have HN:=hid hn;rw [hn] at CV hl;clear h hsh hn
 go_enter Tryz.func29,Tryz.ntmps29
 go_wp2_with fail;refine CT.mono ?_;rintro e w1 ⟨rfl,rfl⟩;go_wp2_with fail;refine CV.mono ?_;rintro e w2 ⟨vl,rfl,hrow,hb⟩;obtain ⟨al,cl,rfl⟩:=row_slice hrow;have HROW:=hid hrow;have HB:=hid hb;clear CT CV hrow hb;have hwn:IntKind.u64.wrap (n:Int)=(n:Int):=by rw [IntKind.wrap_u64];omega
 go_wp2_with fail;have hd2:=(HH.out.below HB.out).below (balloc (Below.refl _ w2) (.cells #[.iface 38 (.int .u64 (n:Int))] 20));have hb2:Below w.heap.size w (w2.alloc (.cells #[.iface 38 (.int .u64 (n:Int))] 20)):=balloc HB.out _;have hrv:=ownsRow_below HROW.out (balloc (Below.refl _ w2) (.cells #[.iface 38 (.int .u64 (n:Int))] 20));have hr0:(w2.alloc (.cells #[.iface 38 (.int .u64 (n:Int))] 20)).ownsRow w.heap.size 20 1 (.slice (some ⟨w2.heap.size,0,none⟩) 1 1) 1 ([num n].map anyU):=by
  exact ownsRow_new w2 w.heap.size #[.iface 38 (.int .u64 (n:Int))] 20 HB.out.size (by simp)
 obtain ⟨W2,hW2⟩:∃ W2,w2.alloc (.cells #[.iface 38 (.int .u64 (n:Int))] 20)=W2:=⟨_,rfl⟩
 rw [hW2] at hd2 hb2 hrv hr0 ⊢;obtain ⟨v0,hv0⟩:∃ v0,Value.slice (some ⟨w2.heap.size,0,none⟩) 1 1=v0:=⟨_,rfl⟩
 rw [hv0] at hr0 ⊢;have HD2:=hid hd2;have HB2:=hid hb2;have HRV:=hid hrv;have HR0:=hid hr0;have HLEN:Hid ((strip l).length=n):=hid (by unfold strip;rw [mapA_len];exact HN.out);have HVS:Hid ((volsS (strip l)).length≤100000):=hid (by have:=HSH.out;unfold devS at this;simp at this;omega);clear hd2 hb2 hrv hr0 hW2 hwn
 go_loopw [4,5,25] (fun s4 s5 d wr=>∃ (j:Nat) (v':Value),v'=s5∧j≤n∧d = .int .i64 (j:Int)∧s4 = .string (strB (52 :: volsS ((strip l).take j)))∧wr.ownsRow w.heap.size 20 1 v' (1+(volsS ((strip l).take j)).length) ((num n :: volsV ((strip l).take j)).map anyU) ∧
   wr.ownsRow w.heap.size 38 1 (.slice al n cl) n (l.map fun p=>.int .u64 (p.1:Int))∧Below w.heap.size w wr) (fun _ _ d _=>n - (Go.Proofs.intOf d).toNat)
 case atStart =>
  subst hv0;exact ⟨0,_,rfl,Nat.zero_le _,rfl,rfl,HR0.out,HRV.out,HB2.out⟩
 case round =>
  obtain ⟨j,v',hv',hj,rfl,rfl,hr1,hr2,hbw⟩:=hrel;subst hv';obtain ⟨a5,c5,rfl⟩:=row_slice hr1;have HR1:=hid hr1;have HR2:=hid hr2;have HBW:=hid hbw;clear hr1 hr2 hbw hv0
  by_cases hlt:j<n
  ·obtain ⟨p,hp⟩:∃ p,l[j]? = some p:=⟨_,List.getElem?_eq_getElem (by rw [HN.out];exact hlt)⟩
   have hps:(strip l)[j]? = some (p.1,p.2.1):=by unfold strip mapA;simp [hp]
   obtain ⟨g,cap,cur,ev,hg,hgb,hcur,hcap,_⟩:=row_cell HR2.out (i:=j) (x:=.int .u64 (p.1:Int)) (by simp [hp]);obtain ⟨rfl,_,rfl⟩:=Value.slice.inj ev;have cg:=cellOf hgb j hcur;have hd3:=HH.out.below HBW.out;have hgp:getA p.1 l=some p.2:=getA_at ((ris_map (fun x:Vl × Nat=>x.1)).1 HH.out.ok.ris) hp;have hpn:p.1<18446744073709551616:=Nat.lt_trans (HH.out.ok.nat (p.1,p.2.1) (List.mem_of_getElem? hps)).2 (by decide);have CM:=dmapped_in n0 _ B Ba l hd3 p.1 hpn p.2 hgp;have HPS:=hid hps;have HGP:=hid hgp;have HPN:=hid hpn
   have HVOK:=hid (HH.out.ok.vol (p.1,p.2.1) (List.mem_of_getElem? hps));have hjl:(j:Int)<(n:Int):=by omega
   have hml:p.2.1.m.length≤256:=HVOK.out.len;have hsz:p.2.1.size≤256:=HVOK.out.size;have hwz:IntKind.u64.wrap ((p.2.1.size:Nat):Int)=((p.2.1.size:Nat):Int):=by rw [IntKind.wrap_u64];omega
   have hwm:IntKind.u64.wrap ((p.2.1.m.length:Nat):Int)=((p.2.1.m.length:Nat):Int):=by rw [IntKind.wrap_u64];omega
   have HPIX:Hid (∃ cur,wr.heap[g]? = some (.cells cur 38 (0,0))∧cur[j]? = some (.int .u64 (p.1:Int))):=hid ⟨_,hgb,hcur⟩;have hvt:=hid (volsS_take hps);have hvv:=hid (volsV_take hps);have HLE:Hid ((volsS ((strip l).take j)).length+3+p.2.1.m.length * 2≤100000):=hid (by
    have h1:=hvt.out;have h2:(volsS ((strip l).take (j+1))).length≤(volsS (strip l)).length:=volsS_le;have h3:=HVS.out;rw [h1,List.length_append] at h2;unfold volS at h2;rw [List.length_append,blksS_len] at h2
    simp at h2
    omega)
   obtain ⟨S,hS⟩:∃ S,volsS ((strip l).take j)=S:=⟨_,rfl⟩
   obtain ⟨U,hU⟩:∃ U,volsV ((strip l).take j)=U:=⟨_,rfl⟩
   have HSU:Hid (U.length=S.length):=hid (by rw [← hS,← hU];exact volsV_len _);rw [hS] at HR1 HLE hvt ⊢;rw [hU] at HR1 hvv;clear hp hps hgb hcur hgp hpn ev hS hU hd3;go_wp2_with fail;refine CM.mono ?_;rintro e w3 ⟨v8,rfl,hrow8,_,hb8⟩;obtain ⟨a8,c8,rfl⟩:=row_slice hrow8;have hd4:=(HH.out.below HBW.out).below hb8;have cB:=hd4.cell;have hlk:=(hd4.look HPN.out HGP.out).2;have hfl:=fldVol;have hfl0:=fldVol0;have hss:(strB (52 :: S)).size≤1000000:=by have:=HLE.out;rw [str_size];simp;omega
   have HCAT:Hid (strB (52 :: S) ++ ⟨#[52,52,52]⟩=strB (52 :: (S ++ [52,52,52]))):=hid (by show strB (52 :: S) ++ strB [52,52,52]=_;rw [strB_appD];rfl);have HROW8:=hid hrow8;have HB8:=hid hb8;have HR18:=hid (ownsRow_below HR1.out hb8);have HR28:=hid (ownsRow_below HR2.out hb8);have HBW8:=hid (bthen HBW.out hb8);obtain ⟨sa,hsa⟩:∃ sa,strB (52 :: S)=sa:=⟨_,rfl⟩
   rw [hsa] at hss HCAT ⊢;clear CM cg hrow8 hb8 hd4 hsa
   go_wp2_with (at_builtin;go_must (refine wpList_apps rfl _ _ 117 rfl w.heap.size 20 _ 1 16 Tryz.underlying117 infoAny rfl (by decide) (by decide) (.slice a5 (1+S.length) c5) (1+S.length) _ rfl (HR18.out.alloc _) (.slice (some ⟨w3.heap.size,0,none⟩) 3 3) 3 ([num p.1,num p.2.1.size,num p.2.1.m.length].map anyU) rfl (Rd.new3 w3 _ _ _ _) (by simp [anyU_one]) (by have:=HLE.out;omega) (by have:=HBW8.out.size;simp;omega) ?_);intro v9 w9 ho9 hb9 hg9 hs9 hn9)
   have HA9:Hid (w9.ownsRow w.heap.size 20 1 v9 (1+(S ++ [52,52,52]).length) ((num n :: (U ++ [num p.1,num p.2.1.size,num p.2.1.m.length])).map anyU)):=hid (by
    have h1:=ho9;rw [← List.map_append] at h1;have e1:1+(S ++ [52,52,52]).length=1+S.length+3:=by simp only [List.length_append,List.length_cons,List.length_nil];omega
    rw [e1];exact h1)
   have HV9:Hid (w9.ownsRow w.heap.size 38 1 (.slice (some ⟨g,0,none⟩) n cl) n (l.map fun p=>.int .u64 (p.1:Int))):=hid (ownsRow_keep (HR28.out.alloc _) (HR18.out.alloc _) (by decide) hg9);have HM9:Hid (w9.ownsRow wr.heap.size 3 1 (.slice a8 p.2.1.m.length c8) p.2.1.m.length (p.2.1.m.map fun p=>.int .i64 (p.1:Int))):=hid (ownsRow_keep (HROW8.out.alloc _) (HR18.out.alloc _) (by decide) hg9);have HBW9:Hid (Below w.heap.size w w9):=hid ((balloc HBW8.out _).trans hb9);clear ho9 hb9 hg9 hs9 hn9 cB hlk hss hwz hwm hfl0;obtain ⟨a9,c9,rfl⟩:=row_slice HA9.out
   obtain ⟨m,hm⟩:∃ m,p.2.1.m.length=m:=⟨_,rfl⟩
   have HML:=hid hm;rw [hm] at HM9 HLE hml ⊢;rw [hm] at HA9;clear hm;rw [HCAT.out]
   go_loopw [4,5,54] (fun s4 s5 d wi=>∃ (t:Nat) (v':Value),v'=s5∧t≤m∧d = .int .i64 (t:Int)∧s4 = .string (strB (eS S p.2.1.m t))∧wi.ownsRow w.heap.size 20 1 v' (eL S p.2.1.m t) ((eV n U p.1 p.2.1.size m p.2.1.m t).map anyU) ∧
    wi.ownsRow w.heap.size 38 1 (.slice (some ⟨g,0,none⟩) n cl) n (l.map fun p=>.int .u64 (p.1:Int))∧wi.ownsRow wr.heap.size 3 1 (.slice a8 m c8) m (p.2.1.m.map fun p=>.int .i64 (p.1:Int))∧Below w.heap.size w wi) (fun _ _ d _=>m - (Go.Proofs.intOf d).toNat)
   case atStart =>
    refine ⟨0,_,rfl,Nat.zero_le _,rfl,by simp [eS,blksS],?_,HV9.out,HM9.out,HBW9.out⟩;have h1:=HA9.out
    simpa [eL,eV,blksS,blksV] using h1
   case round =>
    obtain ⟨t,v',hv',ht,rfl,rfl,hi1,hi2,hi3,hbi⟩:=hrel;subst hv';obtain ⟨ai,ci,rfl⟩:=row_slice hi1;have HI1:=hid hi1;have HI2:=hid hi2;have HI3:=hid hi3;have HBI:=hid hbi;clear hi1 hi2 hi3 hbi
    by_cases hlt2:t<m
    ·obtain ⟨q,hq⟩:∃ q,p.2.1.m[t]? = some q:=⟨_,List.getElem?_eq_getElem (by rw [HML.out];exact hlt2)⟩
     obtain ⟨g2,cap2,cur2,ev2,hg2,hgb2,hcur2,hcap2,_⟩:=row_cell HI3.out (i:=t) (x:=.int .i64 (q.1:Int)) (by simp [hq]);obtain ⟨rfl,_,rfl⟩:=Value.slice.inj ev2;have cg2:=cellOf hgb2 t hcur2;have hd5:=HH.out.below HBI.out;have cB:=hd5.cell;have hlk:=(hd5.look HPN.out HGP.out).2;have hqs:q.1<256:=by have h1:q.1<p.2.1.size:=HVOK.out.lt q (List.mem_of_getElem? hq);omega
     have hbk:=(hd5.vol _ (getA_some HGP.out)).blk (n:=q.1) (by omega);have hqb:blkAt p.2.1.m q.1=q.2:=by unfold blkAt;rw [getA_at HVOK.out.ris hq];rfl
     dsimp only at hbk;rw [hqb] at hbk;have hwq:IntKind.u64.wrap ((q.1:Nat):Int)=((q.1:Nat):Int):=by rw [IntKind.wrap_u64];omega
     have HBL:Hid ((blksS (p.2.1.m.take t)).length=t * 2):=hid (by rw [blksS_len,List.length_take,HML.out];congr 1;omega);have HCT2:Hid (strB (eS S p.2.1.m t) ++ ⟨#[52,35]⟩=strB (eS S p.2.1.m (t+1))):=hid (by show strB (eS S p.2.1.m t) ++ strB [52,35]=_;rw [strB_appD];unfold eS;rw [blksS_take hq];simp);have HEV:Hid (eV n U p.1 p.2.1.size m p.2.1.m t ++ [num q.1,blk q.2]=eV n U p.1 p.2.1.size m p.2.1.m (t+1)):=hid (by unfold eV;rw [blksV_take hq];simp)
     have HEL:Hid (eL S p.2.1.m t+2=eL S p.2.1.m (t+1)):=hid (by unfold eL;rw [blksS_take hq];simp only [List.length_append,List.length_cons,List.length_nil];omega);have hss:(strB (eS S p.2.1.m t)).size≤1000000:=by have:=HLE.out;have:=HBL.out;rw [str_size];unfold eS;simp only [List.length_append,List.length_cons,List.length_nil];omega
     have HN1:Hid (eL S p.2.1.m t≤200000):=hid (by have:=HLE.out;have:=HBL.out;unfold eL;simp only [List.length_append,List.length_cons,List.length_nil];omega);obtain ⟨sb,hsb⟩:∃ sb,strB (eS S p.2.1.m t)=sb:=⟨_,rfl⟩
     rw [hsb] at hss HCT2 ⊢;obtain ⟨N1,hN1⟩:∃ N1,eL S p.2.1.m t=N1:=⟨_,rfl⟩
     rw [hN1] at HI1 HN1 HEL ⊢;obtain ⟨UU,hUU⟩:∃ UU,eV n U p.1 p.2.1.size m p.2.1.m t=UU:=⟨_,rfl⟩
     rw [hUU] at HI1 HEV;have htl:(t:Int)<(m:Int):=by omega
     clear hq hgb2 hcur2 hd5 hqb ev2 hsb hN1 hUU
     go_wp2_with (at_builtin;go_must (refine wpList_apps rfl _ _ 117 rfl w.heap.size 20 _ 1 16 Tryz.underlying117 infoAny rfl (by decide) (by decide) (.slice ai N1 ci) N1 _ rfl (HI1.out.alloc _) (.slice (some ⟨wr.heap.size,0,none⟩) 2 2) 2 ([num q.1,blk q.2].map anyU) rfl (Rd.new2 wr _ _ _) (by simp [anyU_one]) (by have:=HN1.out;omega) (by have:=HBI.out.size;simp;omega) ?_);intro v7 w7 ho7 hb7 hg7 hs7 hn7)
     have HA7:=hid ho7;have HV7:Hid (w7.ownsRow w.heap.size 38 1 (.slice (some ⟨g,0,none⟩) n cl) n (l.map fun p=>.int .u64 (p.1:Int))):=hid (ownsRow_keep (HI2.out.alloc _) (HI1.out.alloc _) (by decide) hg7);have HM7:=hid (ownsRow_keep (HI3.out.alloc _) (HI1.out.alloc _) (by decide) hg7);have HBW7:Hid (Below w.heap.size w w7):=hid ((balloc HBI.out _).trans hb7);clear ho7 hb7 hg7 hs7 hn7 cB hlk hss hwq;rw [HCT2.out];refine ⟨⟨_,_,_,_,?rel,rfl,rfl,rfl,rfl⟩,?measure⟩
     case rel =>
      refine ⟨t+1,by omega,by go_num,rfl,?_,HV7.out,HM7.out,HBW7.out⟩;have h1:=HA7.out;rw [← List.map_append,HEV.out,HEL.out] at h1;exact h1
     case measure=>simp [Go.Proofs.intOf];omega
    ·obtain rfl:t=m:=by omega
     have HS1:Hid (eS S p.2.1.m t=52 :: volsS ((strip l).take (j+1))):=hid (by
      rw [hvt.out];unfold eS volS;rw [List.take_of_length_le (by rw [HML.out];omega),List.append_assoc])
     have HS2:Hid (eV n U p.1 p.2.1.size t p.2.1.m t=num n :: volsV ((strip l).take (j+1))):=hid (by
      rw [hvv.out];unfold eV volV;rw [List.take_of_length_le (by rw [HML.out];omega),List.append_assoc];dsimp only;rw [HML.out])
     have HS3:Hid (eL S p.2.1.m t=1+(volsS ((strip l).take (j+1))).length):=hid (by
      have h1:=HS1.out;unfold eS at h1;unfold eL;rw [(List.cons.inj h1).2])
     rw [HS2.out,HS3.out] at HI1;rw [HS1.out,HS3.out];go_wp2_with fail;go_roundw
     case rel=>exact ⟨j+1,_,rfl,by omega,by go_num,rfl,HI1.out,HI2.out,HBI.out⟩
     case measure=>simp [Go.Proofs.intOf];omega
  ·obtain rfl:j=n:=by omega
   have HTK:Hid ((strip l).take j=strip l):=hid (List.take_of_length_le (by rw [HLEN.out];omega));rw [HTK.out] at HR1 ⊢;have HDV:Hid (num j :: volsV (strip l)=devV (strip l)):=hid (by unfold devV;rw [HLEN.out]);rw [HDV.out] at HR1;have HLV:Hid ((devV (strip l)).length=1+(volsS (strip l)).length):=hid (by unfold devV;rw [List.length_cons,volsV_len];omega);have hany:Anys wr a5 (1+(volsS (strip l)).length) c5 (devV (strip l)):=by
    obtain ⟨ao',cap',e,hm1,hm2,⟨_,h1,h2⟩,hc⟩:=Rd.of_own HR1.out;obtain ⟨rfl,_,rfl⟩:=Value.slice.inj e;refine ⟨HLV.out,h1,h2,fun i v hv => ?_⟩;obtain ⟨b,off,e,hl,hh⟩:=hc i (anyU v) (by rw [List.getElem?_map,hv];rfl);exact ⟨b,off,_,e,hl,hh,anyU_any _ (devV_num HH.out.ok (by rw [HLEN.out];omega) v (List.mem_of_getElem? hv))⟩
   have hcap0:a5=none→c5=0:=by
    rintro rfl
    rcases HR1.out.2 with ⟨e,h0⟩ | ⟨g,cap,cur,e,_⟩
    ·omega
    ·cases e
   have hvl:=HVS.out;have CP:=pack_any (strB (52 :: volsS (strip l))) hany 0 (fun v hv=>by
    rcases devV_num HH.out.ok (by rw [HLEN.out];omega) v hv with ⟨_,_,h⟩ | ⟨_,_,h⟩ <;> rw [h] <;> exact Nat.le_refl _) (by omega) (by rw [str_size];simp;omega) hcap0
   rw [chs_str,show (52 :: volsS (strip l):List UInt8)=devS (strip l) from rfl,pack_dev HH.out.ok (by rw [HLEN.out];omega)] at CP;rw [show (52 :: volsS (strip l):List UInt8)=devS (strip l) from rfl];clear hany hcap0 hvl;go_wp2_with fail;refine CP.mono ?_;rintro e w9 ⟨hb9,v9,rfl,ho9⟩;have HO9:=hid ho9;have HB9:=hid (bthen HBW.out hb9);have hws:=HBW.out.size;clear CP hb9 ho9;obtain ⟨a9,c9,rfl⟩:=row_slice HO9.out;go_wp2_with fail;go_ret;exact ⟨_,rfl,ownsRow_base HO9.out hws,HB9.out⟩
end Go.Proofs.YthkmihedkddnmaaGreat
namespace Go.Proofs.YthkmihedkddnmaaGreat
open Go.RowKit
def rblkC (m:List (Nat × List UInt8)):List Value:=m.flatMap fun q=>.int .i64 (q.1:Int) :: bV q.2
def rvolC:List (Nat × (Vl × Value))→List Value
 | []=>[]
 | p :: l=>.int .u64 (p.1:Int) :: .int .i64 (p.2.1.size:Int) :: p.2.2 :: rvolC l
theorem rvolC_get:∀ {l:List (Nat × (Vl × Value))} {i:Nat} {p:Nat × (Vl × Value)},l[i]? = some p→(rvolC l)[i * 3]? = some (.int .u64 (p.1:Int))∧(rvolC l)[i * 3+1]? = some (.int .i64 (p.2.1.size:Int))∧(rvolC l)[i * 3+2]? = some p.2.2
 | y :: l,0,p,h=>by obtain rfl:=Option.some.inj h;exact ⟨rfl,rfl,rfl⟩
 | y :: l,i+1,p,h=>by
  have h2:=rvolC_get (l:=l) (i:=i) (p:=p) (by simpa using h);have e:(i+1) * 3=i * 3+1+1+1:=by omega
  have e1:(i+1) * 3+1=i * 3+1+1+1+1:=by omega
  have e2:(i+1) * 3+2=i * 3+2+1+1+1:=by omega
  rw [e2,e1,e]
  simpa only [rvolC,List.getElem?_cons_succ] using h2
structure RDevAt (n0:Nat) (w:World) (B:Nat) (sv:Value) (l:List (Nat × (Vl × Value))):Prop where
 box:w.heap[B]? = some (.cells #[sv] 30 (0,0))
 row:w.ownsRow n0 58 3 sv l.length (rvolC l)
 blk:∀ p∈l,w.ownsRow n0 107 257 p.2.2 p.2.1.m.length (rblkC p.2.1.m)
 ge:n0≤B
theorem RDevAt.lt {n0:Nat} {w:World} {B:Nat} {sv:Value} {l:List (Nat × (Vl × Value))} (h:RDevAt n0 w B sv l):B<w.heap.size:=(hLT h.box)
theorem RDevAt.cell {n0:Nat} {w:World} {B:Nat} {sv:Value} {l:List (Nat × (Vl × Value))} (h:RDevAt n0 w B sv l):w.cell? ⟨B,0,none⟩=some sv:=cellOf h.box 0 rfl
theorem RDevAt.below {n0:Nat} {w w':World} {B:Nat} {sv:Value} {l:List (Nat × (Vl × Value))} (h:RDevAt n0 w B sv l) (hb:Below w.heap.size w w'):RDevAt n0 w' B sv l :=
 ⟨(hb.block _ h.lt).trans h.box,ownsRow_below h.row hb,fun p hp=>ownsRow_below (h.blk p hp) hb,h.ge⟩
theorem RDevAt.at_ {n0:Nat} {w:World} {B:Nat} {sv:Value} {l:List (Nat × (Vl × Value))} (h:RDevAt n0 w B sv l) {i:Nat} {p:Nat × (Vl × Value)} (hp:l[i]? = some p) :
  ∃ g cap,sv = .slice (some ⟨g,0,none⟩) l.length cap∧l.length≤cap∧cap≤maxLen∧w.cell? ⟨g,i * 3,none⟩=some (.int .u64 (p.1:Int))∧w.cell? ⟨g,i * 3+1,none⟩=some (.int .i64 (p.2.1.size:Int))∧w.cell? ⟨g,i * 3+2,none⟩=some p.2.2:=by
 obtain ⟨ao,cap,rfl,_,_,⟨_,h1,h2⟩,hc⟩:=Rd.of_own h.row;obtain ⟨g0,g1,g2⟩:=rvolC_get hp
 rcases h.row.2 with ⟨he,_⟩ | ⟨g,cap',cur,he,_⟩
 ·obtain ⟨b,off,e,_⟩:=hc _ _ g0
  rw [e] at he;cases he
 ·obtain ⟨rfl,_,rfl⟩:=Value.slice.inj he
  refine ⟨g,cap,rfl,h1,h2,?_,?_,?_⟩
  ·obtain ⟨b,off,e,_,hh⟩:=hc _ _ g0
   obtain ⟨rfl,rfl,_⟩:=Addr.mk.inj (Option.some.inj e)
   simpa using hh
  ·obtain ⟨b,off,e,_,hh⟩:=hc _ _ g1
   obtain ⟨rfl,rfl,_⟩:=Addr.mk.inj (Option.some.inj e)
   simpa using hh
  ·obtain ⟨b,off,e,_,hh⟩:=hc _ _ g2
   obtain ⟨rfl,rfl,_⟩:=Addr.mk.inj (Option.some.inj e)
   simpa using hh
def findI {α:Type} (k:Nat) (l:List (Nat × α)):Int:=match findA k l with | some i=>(i:Int) | none => -1
end Go.Proofs.YthkmihedkddnmaaGreat
namespace Go.Proofs.YthkmihedkddnmaaGreat
open Go.RowKit Go.Maps Wire Cmd
def o0:Op0:=⟨0,0,0,0,0,0,[]⟩
def oF:Op0:=⟨8,0,0,0,0,0,[]⟩
theorem eqlFn (k:Nat) (W:World):(binOp .eql 67 (.func (.func 55) #[] #[.pointer (some ⟨k,0,none⟩)]) .nilFunc).run Tryz.prog W = .ok (.bool false) W:=by kernel_rfl
end Go.Proofs.YthkmihedkddnmaaGreat
