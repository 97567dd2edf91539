import Derived.Test.YthkmihedkddnmaaGreatUG2
import Derived.Test.YthkmihedkddnmaaGreatUG1
import Derived.Deep.DeepCutAuto
set_option linter.unusedVariables false
set_option linter.unusedSimpArgs false
set_option maxHeartbeats 6400000
set_option maxRecDepth 100000
namespace Go.Proofs.YthkmihedkddnmaaGreat
open Lib (hid)
open Go.RowKit
open Wire
def OddV (u:Value):Prop:=(∃ n,u = .iface 3 (.int .i64 n))∨u = .nilIface
def AnyV (w:World) (u:Value) (v:V):Prop :=
 (v.letter=56∧u = .iface 38 (.int .u64 (v.n:Int))∧v.n<18446744073709551616) ∨
 (v.letter=63∧u = .iface 4 (.bool v.yes)) ∨
 (v.letter=42∧∃ sl,u = .iface 33 sl∧Rd w 1 sl v.b.length (bV v.b)) ∨
 (v.letter=35∧u = .iface 50 (bA v.x)∧v.x.length=256) ∨
 (v.letter≠56∧v.letter≠63∧v.letter≠42∧v.letter≠35∧OddV u)
theorem AnyV.below {w w':World} {u:Value} {v:V} (h:AnyV w u v) (hb:Below w.heap.size w w'):AnyV w' u v:=by
 rcases h with h | h | ⟨h,sl,h1,h2⟩ | h | h
 ·exact .inl h
 ·exact .inr (.inl h)
 ·exact .inr (.inr (.inl ⟨h,sl,h1,h2.below hb⟩))
 ·exact .inr (.inr (.inr (.inl h)))
 ·exact .inr (.inr (.inr (.inr h)))
def layI (r:Int) (v:V):Option (List UInt8) :=
 if v.letter=56 then (if isNumI r=true∧v.n<256 ^ widI r then some (low v.n (widI r)) else none)
 else if v.letter=63 then (if r=63 then some [if v.yes then 1 else 0] else none)
 else if v.letter=42 then (if r=42∧v.b.length≤16777216 then some (low v.b.length 4 ++ v.b) else none)
 else if v.letter=35 then (if r=35 then some v.x else none)
 else none
theorem byteI {c k:UInt8}:((c.toNat:Int)=(k.toNat:Int)) ↔ c=k:=⟨fun h=>UInt8.toNat_inj.1 (by omega),fun h=>by rw [h]⟩
theorem isNumI_byte (c:UInt8):isNumI (c.toNat:Int)=isNum c:=by
 have e:∀ k:UInt8,((c.toNat:Int) == (k.toNat:Int))=(c == k):=fun k=>by
  rw [Bool.eq_iff_iff,beq_iff_eq,beq_iff_eq];exact byteI
 have e1:=e 49;have e2:=e 50;have e3:=e 52;have e4:=e 56;unfold isNumI isNum;rw [← e1,← e2,← e3,← e4]
 rfl
theorem layI_byte (c:UInt8) (v:V):layI (c.toNat:Int) v=lay c v:=by
 have e:∀ k:UInt8,((c.toNat:Int)=(k.toNat:Int)) ↔ c=k:=fun k=>byteI;have e1:=e 63;have e2:=e 42;have e3:=e 35;simp only [UInt8.reduceToNat,Int.cast_ofNat_Int] at e1 e2 e3;unfold layI lay;rw [isNumI_byte];simp only [e1,e2,e3]
 rfl
theorem layI_far {r:Int} (h:128≤r) (v:V):layI r v=none:=by
 have h1:isNumI r=false:=by simp [isNumI];omega
 unfold layI;rw [h1,if_neg (fun hh:_∧_=>by cases hh.1),if_neg (show r≠63 by omega),if_neg (fun hh:r=42∧_=>by omega),if_neg (show r≠35 by omega)]
 simp
def LayP (base:Nat) (w:World) (v0:Value) (m:Nat) (xs:List UInt8) (o:Option (List UInt8)) (e:Ending) (w':World):Prop :=
 ∃ v',Mods (ob v0) w w'∧match o with
  | some bs=>e = .returned (.tuple #[v',.bool true])∧w'.ownsRow base 5 1 v' (m+bs.length) (bV (xs ++ bs))∧Chg (ob v0) w w' (ob v')
  | none=>e = .returned (.tuple #[v',.bool false])
theorem LayP.none_of {base:Nat} {w:World} {v0 v':Value} {m:Nat} {xs:List UInt8} {o:Option (List UInt8)} {e:Ending} {w':World} (ho:o=none) (he:e = .returned (.tuple #[v',.bool false])) (hm:Mods (ob v0) w w'):LayP base w v0 m xs o e w':=by
 subst ho;exact ⟨v',hm,he⟩
theorem LayP.some_of {base:Nat} {w:World} {v0 v':Value} {m:Nat} {xs bs:List UInt8} {o:Option (List UInt8)} {e:Ending} {w':World} (ho:o=some bs) (he:e = .returned (.tuple #[v',.bool true])) (hr:w'.ownsRow base 5 1 v' (m+bs.length) (bV (xs ++ bs))) (hc:Chg (ob v0) w w' (ob v')):LayP base w v0 m xs o e w':=by
 subst ho;exact ⟨v',hc.1,he,hr,hc⟩
theorem lay_num {w0 w:World} {v0:Value} {m:Nat} {xs:List UInt8} (hb:Below w0.heap.size w0 w) (ho:w.ownsRow w0.heap.size 5 1 v0 m (bV xs)) (hm:m≤50000000) (r:Int) (h1:0≤r) (h2:r≤2147483647) (v:V) (hl:v.letter=56) (hn:v.n<18446744073709551616) :
  Calls Tryz.prog 85 #[v0,.int .i32 r,.iface 38 (.int .u64 (v.n:Int))] w (LayP w0.heap.size w v0 m xs (layI r v)):=by
 have CR:=contR_any r w h1 h2;have ta:=fun W=>run_assert_hit (P:=Tryz.prog) (xT:=20) Tryz.underlying38 rfl (.int .u64 (v.n:Int)) W;have HB:=hid hb;have HO:=hid ho;have HV:=hid hl;clear ho hb hl
 generalize hy:v.n=y at *
 have HY:=hid hy;clear hy
 cases hi:isNumI r with
 | false =>
  rw [hi] at CR;have HE:Hid (layI r v=none):=hid (by unfold layI;rw [if_pos HV.out,hi];simp);clear hi
  go_enter Tryz.func85,Tryz.ntmps85
  go_wp2_with fail;refine (CR).mono ?_;rintro e w1 ⟨rfl,hb1⟩;have HB1:=hid hb1;clear hb1 CR;go_wp2_with fail
  go_ret2
  exact LayP.none_of HE.out rfl (Mods.of_below HB1.out)
 | true =>
  rw [hi] at CR;have hw8:1≤widI r∧widI r≤8:=by
   simp only [isNumI,Bool.or_eq_true,beq_iff_eq] at hi
   rcases hi with ((rfl | rfl) | rfl) | rfl <;> decide
  have HI:=hid hi;clear hi
  go_enter Tryz.func85,Tryz.ntmps85
  go_wp2_with fail;refine (CR).mono ?_;rintro e w1 ⟨rfl,hb1⟩;have HB1:=hid hb1;have CW:=width_any r w1 (by omega) h2;have CL:=low_any (ownsRow_below HO.out hb1) (Nat.le_trans HB.out.size hb1.size) y (widI r) hn hw8.2 (by omega);clear hb1 CR;go_wp2_with fail;refine CW.mono ?_;rintro e w2 ⟨rfl,rfl⟩;clear CW;go_wp2_with fail;refine CL.mono ?_;rintro e w3 ⟨v',rfl,ho3,hc3⟩
  by_cases hf:y<256 ^ widI r
  ·have hz:(y / 256 ^ widI r == 0)=true:=by rw [Nat.div_eq_of_lt hf];rfl
   rw [hz];have HE:Hid (layI r v=some (low y (widI r))):=hid (by unfold layI;rw [if_pos HV.out,HI.out,HY.out];simp [hf]);have HO3:=hid ho3;have HC3:=hid hc3;clear ho3 hc3 CL hz hf;go_wp2_with fail
   go_ret2
   exact LayP.some_of HE.out rfl (by rw [low_len];exact HO3.out) (Chg.pre HB1.out HC3.out)
  ·have hz:(y / 256 ^ widI r == 0)=false:=by
    rw [beq_eq_false_iff_ne];have:=Nat.div_pos (Nat.le_of_not_lt hf) (Nat.pow_pos (n:=widI r) (show 0<256 by omega));omega
   rw [hz];have HE:Hid (layI r v=none):=hid (by unfold layI;rw [if_pos HV.out,HI.out,HY.out];simp [hf]);have HC3:=hid hc3;clear ho3 hc3 CL hz hf;go_wp2_with fail
   go_ret2
   exact LayP.none_of HE.out rfl (Chg.pre HB1.out HC3.out).1
theorem lay_flag {w0 w:World} {v0:Value} {m:Nat} {xs:List UInt8} (hb:Below w0.heap.size w0 w) (ho:w.ownsRow w0.heap.size 5 1 v0 m (bV xs)) (hm:m≤50000000) (r:Int) (v:V) (hl:v.letter=63) :
  Calls Tryz.prog 85 #[v0,.int .i32 r,.iface 4 (.bool v.yes)] w (LayP w0.heap.size w v0 m xs (layI r v)):=by
 have ta:=fun y W=>run_assert_miss (P:=Tryz.prog) (t':=4) (xT:=20) Tryz.underlying38 rfl (by decide) zeroU64 y W;have tb:=fun y W=>run_assert_hit (P:=Tryz.prog) (xT:=20) Tryz.underlying4 rfl y W;have hb':=hb.size;have HV:=hid hl;clear hl
 by_cases hr:r=63
 ·subst hr
  cases hy:v.yes
  ·have HE:Hid (layI 63 v=some [0]):=hid (by unfold layI;rw [HV.out,hy];rfl)
   clear hy
   go_enter Tryz.func85,Tryz.ntmps85
   go_wp2_with (at_builtin;go_must (refine wpList_app rfl _ _ 33 rfl w0.heap.size 5 _ 1 1 Tryz.underlying33 infoByte rfl (by decide) (by decide) _ m _ rfl ho rfl rfl (by simp [Value.oneCell']) (by omega) hb' ?_);intro v1 w1 ho1 hb1 hg1 hs1 hn1)
   have HO1:=hid ho1;have HC1:=hid (Chg.of_grown hg1 hs1);clear ho1 hb1 hg1 hs1 hn1
   go_ret2
   exact LayP.some_of HE.out rfl (by rw [bV_app];exact HO1.out) HC1.out
  ·have HE:Hid (layI 63 v=some [1]):=hid (by unfold layI;rw [HV.out,hy];rfl)
   clear hy
   go_enter Tryz.func85,Tryz.ntmps85
   go_wp2_with (at_builtin;go_must (refine wpList_app rfl _ _ 33 rfl w0.heap.size 5 _ 1 1 Tryz.underlying33 infoByte rfl (by decide) (by decide) _ m _ rfl ho rfl rfl (by simp [Value.oneCell']) (by omega) hb' ?_);intro v1 w1 ho1 hb1 hg1 hs1 hn1)
   have HO1:=hid ho1;have HC1:=hid (Chg.of_grown hg1 hs1);clear ho1 hb1 hg1 hs1 hn1
   go_ret2
   exact LayP.some_of HE.out rfl (by rw [bV_app];exact HO1.out) HC1.out
 ·have HE:Hid (layI r v=none):=hid (by unfold layI;rw [HV.out,if_neg (by decide),if_pos rfl,if_neg hr])
  have hr2:(r == 63)=false:=by simpa using hr
  clear hr
  cases hy:v.yes
  all_goals
   clear hy
   go_enter Tryz.func85,Tryz.ntmps85
   go_wp2_with (at_builtin;go_must (refine wpList_app rfl _ _ 33 rfl w0.heap.size 5 _ 1 1 Tryz.underlying33 infoByte rfl (by decide) (by decide) _ m _ rfl ho rfl rfl (by simp [Value.oneCell']) (by omega) hb' ?_);intro v1 w1 ho1 hb1 hg1 hs1 hn1)
   have HC1:=hid (Chg.of_grown hg1 hs1);clear ho1 hb1 hg1 hs1 hn1
   go_ret2
   exact LayP.none_of HE.out rfl HC1.out.1
theorem lay_blob {w0 w:World} {v0:Value} {m:Nat} {xs:List UInt8} (hb:Below w0.heap.size w0 w) (ho:w.ownsRow w0.heap.size 5 1 v0 m (bV xs)) (hm:m≤50000000) (r:Int) (v:V) (hl:v.letter=42) (sl:Value) (hrd:Rd w0 1 sl v.b.length (bV v.b)) (hbl:v.b.length≤50000000) :
  Calls Tryz.prog 85 #[v0,.int .i32 r,.iface 33 sl] w (LayP w0.heap.size w v0 m xs (layI r v)):=by
 have ta:=fun y W=>run_assert_miss (P:=Tryz.prog) (t':=33) (xT:=20) Tryz.underlying38 rfl (by decide) zeroU64 y W;have tb:=fun y W=>run_assert_miss (P:=Tryz.prog) (t':=33) (xT:=20) Tryz.underlying4 rfl (by decide) zeroBool y W;have tc:=fun y W=>run_assert_hit (P:=Tryz.prog) (xT:=20) Tryz.underlying33 rfl y W;have HRD:=hid hrd;have HV:=hid hl;have HB:=hid hb;obtain ⟨ao,cap,rfl,_⟩:=hrd;clear hl hb
 by_cases hr:r=42∧v.b.length≤16777216
 ·obtain ⟨rfl,hle⟩:=hr
  have HE:Hid (layI 42 v=some (low v.b.length 4 ++ v.b)):=hid (by unfold layI;rw [HV.out,if_neg (by decide),if_neg (by decide),if_pos rfl,if_pos ⟨rfl,hle⟩]);have CL:=low_any ho HB.out.size v.b.length 4 (by omega) (by omega) (by omega)
  generalize hL:v.b.length=L at *
  have HL:=hid hL;have HGE:=hid (ownsRow_ge ho);clear hL ho
  go_enter Tryz.func85,Tryz.ntmps85
  go_wp2_with fail;refine CL.mono ?_;rintro e w1 ⟨v1,rfl,ho1,hc1⟩;have hb1:Below w0.heap.size w w1:=hc1.below HGE.out HB.out.size;have hrd1:=HRD.out.below (HB.out.trans hb1);have hs1:w0.heap.size≤w1.heap.size:=(HB.out.trans hb1).size;have HC1:=hid hc1
  generalize (L / 256 ^ 4 == 0)=q
  clear hc1 hb1 CL
  go_wp2_with (at_builtin;go_must (refine wpList_apps rfl _ _ 33 rfl w0.heap.size 5 _ 1 1 Tryz.underlying33 infoByte rfl (by decide) (by decide) _ (m+4) _ rfl ho1 _ L _ rfl hrd1 (bV_one _) (by omega) hs1 ?_);intro v2 w2 ho2 hb2 hg2 hsn2 hn2)
  have HO2:=hid ho2;have HC2:=hid (Chg.of_grown hg2 hsn2);clear ho2 hb2 hg2 hsn2 hn2 ho1 hrd1
  go_ret2
  refine LayP.some_of (by rw [HE.out]) rfl ?_ (HC1.out.trans HC2.out);have:=HO2.out;rw [← bV_app,List.append_assoc] at this;rw [List.length_append,low_len,HL.out,← Nat.add_assoc];exact this
 ·have HE:Hid (layI r v=none):=hid (by unfold layI;rw [HV.out,if_neg (by decide),if_neg (by decide),if_pos rfl,if_neg hr])
  by_cases hr2:r=42
  ·subst hr2
   have hlen:16777216<v.b.length:=by omega
   generalize v.b.length=L at *
   clear hr
   go_enter Tryz.func85,Tryz.ntmps85
   go_wp2
   go_ret2
   exact LayP.none_of HE.out rfl (Mods.refl _ _)
  ·have hr3:(r != 42)=true:=by simpa using hr2
   generalize v.b.length=L at *
   clear hr hr2
   go_enter Tryz.func85,Tryz.ntmps85
   go_wp2
   go_ret2
   exact LayP.none_of HE.out rfl (Mods.refl _ _)
theorem lay_odd {w0 w:World} {v0:Value} {m:Nat} {xs:List UInt8} (r:Int) (v:V) (hl:v.letter≠56∧v.letter≠63∧v.letter≠42∧v.letter≠35) (n:Int) :
  Calls Tryz.prog 85 #[v0,.int .i32 r,.iface 3 (.int .i64 n)] w (LayP w0.heap.size w v0 m xs (layI r v)):=by
 have ta:=fun y W=>run_assert_miss (P:=Tryz.prog) (t':=3) (xT:=20) Tryz.underlying38 rfl (by decide) zeroU64 y W;have tb:=fun y W=>run_assert_miss (P:=Tryz.prog) (t':=3) (xT:=20) Tryz.underlying4 rfl (by decide) zeroBool y W;have tc:=fun y W=>run_assert_miss (P:=Tryz.prog) (t':=3) (xT:=20) Tryz.underlying33 rfl (by decide) zeroBytes y W;obtain ⟨z,hz⟩:=zeroBlock;have td:=fun y W=>run_assert_miss (P:=Tryz.prog) (t':=3) (xT:=20) Tryz.underlying50 rfl (by decide) hz y W
 have HE:Hid (layI r v=none):=hid (by unfold layI;rw [if_neg hl.1,if_neg hl.2.1,if_neg hl.2.2.1,if_neg hl.2.2.2]);clear hl hz
 go_enter Tryz.func85,Tryz.ntmps85
 go_wp2
 go_ret2
 exact LayP.none_of HE.out rfl (Mods.refl _ _)
theorem lay_nil {w0 w:World} {v0:Value} {m:Nat} {xs:List UInt8} (r:Int) (v:V) (hl:v.letter≠56∧v.letter≠63∧v.letter≠42∧v.letter≠35) :
  Calls Tryz.prog 85 #[v0,.int .i32 r,.nilIface] w (LayP w0.heap.size w v0 m xs (layI r v)):=by
 have ta:=fun W=>run_assert_nil (P:=Tryz.prog) (xT:=20) Tryz.underlying38 rfl zeroU64 W;have tb:=fun W=>run_assert_nil (P:=Tryz.prog) (xT:=20) Tryz.underlying4 rfl zeroBool W;have tc:=fun W=>run_assert_nil (P:=Tryz.prog) (xT:=20) Tryz.underlying33 rfl zeroBytes W;obtain ⟨z,hz⟩:=zeroBlock;have td:=fun W=>run_assert_nil (P:=Tryz.prog) (xT:=20) Tryz.underlying50 rfl hz W;have HE:Hid (layI r v=none):=hid (by unfold layI;rw [if_neg hl.1,if_neg hl.2.1,if_neg hl.2.2.1,if_neg hl.2.2.2]);clear hl hz
 go_enter Tryz.func85,Tryz.ntmps85
 go_wp2
 go_ret2
 exact LayP.none_of HE.out rfl (Mods.refl _ _)
theorem lay_blk {w0 w:World} {v0:Value} {m:Nat} {xs:List UInt8} (hb:Below w0.heap.size w0 w) (ho:w.ownsRow w0.heap.size 5 1 v0 m (bV xs)) (hm:m≤50000000) (r:Int) (v:V) (hl:v.letter=35) (hx:v.x.length=256) :
  Calls Tryz.prog 85 #[v0,.int .i32 r,.iface 50 (bA v.x)] w (LayP w0.heap.size w v0 m xs (layI r v)):=by
 have ta:=fun y W=>run_assert_miss (P:=Tryz.prog) (t':=50) (xT:=20) Tryz.underlying38 rfl (by decide) zeroU64 y W;have tb:=fun y W=>run_assert_miss (P:=Tryz.prog) (t':=50) (xT:=20) Tryz.underlying4 rfl (by decide) zeroBool y W;have tc:=fun y W=>run_assert_miss (P:=Tryz.prog) (t':=50) (xT:=20) Tryz.underlying33 rfl (by decide) zeroBytes y W;have td:=fun y W=>run_assert_hit (P:=Tryz.prog) (xT:=20) Tryz.underlying50 rfl y W;have HV:=hid hl;clear hl;have hb':=hb.size
 have hst:=run_storeNew (P:=Tryz.prog) w 50 Tryz.zeroCells50 (bV v.x).toArray (by rw [show Tryz.zeroCells50.size=256 from by kernel_rfl];simp [bV_len,hx]) (by simpa using bV_one v.x);have hrd:=Rd.new w 50 v.x 256 hx (by omega);have HRD:=hid hrd;clear hrd;unfold bA
 generalize hcs:(bV v.x).toArray=cs at *
 have hsz:cs.size=256:=by rw [← hcs];simp [bV_len,hx]
 have ho1:=ho.alloc (.cells cs 50);have hb1:Below w.heap.size w (w.alloc (.cells cs 50)):=balloc (Below.refl _ w) _;have HB1:=hid hb1;have hs1:w0.heap.size≤(w.alloc (.cells cs 50)).heap.size:=Nat.le_trans hb' hb1.size;clear hcs ho hb hb1 hb'
 by_cases hr:r=35
 ·subst hr
  have HE:Hid (layI 35 v=some v.x):=hid (by unfold layI;rw [HV.out];rfl)
  go_enter Tryz.func85,Tryz.ntmps85
  go_wp2_with (at_builtin;go_must (refine wpList_apps rfl _ _ 33 rfl w0.heap.size 5 _ 1 1 Tryz.underlying33 infoByte rfl (by decide) (by decide) _ m _ rfl ho1 _ 256 _ rfl HRD.out (bV_one _) (by omega) hs1 ?_);intro v2 w2 ho2 hb2 hg2 hsn2 hn2)
  have HO2:=hid ho2;have HC2:=hid (Chg.of_grown hg2 hsn2);clear ho2 hb2 hg2 hsn2 hn2 ho1
  go_ret2
  exact LayP.some_of HE.out rfl (by rw [bV_app,hx];exact HO2.out) (Chg.pre HB1.out HC2.out)
 ·have HE:Hid (layI r v=none):=hid (by unfold layI;rw [if_neg (by rw [HV.out];decide),if_neg (by rw [HV.out];decide),if_neg (by rw [HV.out];decide),if_pos HV.out,if_neg hr])
  have hr2:(r == 35)=false:=by simpa using hr
  clear hr
  go_enter Tryz.func85,Tryz.ntmps85
  go_wp2_with (at_builtin;go_must (refine wpList_apps rfl _ _ 33 rfl w0.heap.size 5 _ 1 1 Tryz.underlying33 infoByte rfl (by decide) (by decide) _ m _ rfl ho1 _ 256 _ rfl HRD.out (bV_one _) (by omega) hs1 ?_);intro v2 w2 ho2 hb2 hg2 hsn2 hn2)
  have HC2:=hid (Chg.of_grown hg2 hsn2);clear ho2 hb2 hg2 hsn2 hn2 ho1
  go_ret2
  exact LayP.none_of HE.out rfl (Chg.pre HB1.out HC2.out).1
theorem lay_any {w0 w:World} {v0 u:Value} {m:Nat} {xs:List UInt8} (hb:Below w0.heap.size w0 w) (ho:w.ownsRow w0.heap.size 5 1 v0 m (bV xs)) (hm:m≤50000000) (r:Int) (h1:0≤r) (h2:r≤2147483647) (v:V) (ha:AnyV w0 u v) (hl:v.b.length≤50000000) :
  Calls Tryz.prog 85 #[v0,.int .i32 r,u] w (LayP w0.heap.size w v0 m xs (layI r v)):=by
 rcases ha with ⟨h,rfl,hn⟩ | ⟨h,rfl⟩ | ⟨h,sl,rfl,hrd⟩ | ⟨h,rfl,hx⟩ | ⟨h3,h4,h5,h6,⟨n,rfl⟩ | rfl⟩
 ·exact lay_num hb ho hm r h1 h2 v h hn
 ·exact lay_flag hb ho hm r v h
 ·exact lay_blob hb ho hm r v h sl hrd hl
 ·exact lay_blk hb ho hm r v h hx
 ·exact lay_odd r v ⟨h3,h4,h5,h6⟩ n
 ·exact lay_nil r v ⟨h3,h4,h5,h6⟩
end Go.Proofs.YthkmihedkddnmaaGreat
namespace Go.Proofs.YthkmihedkddnmaaGreat
open Lib (hid)
open Go.RowKit
open Wire
def Anys (w:World) (ao:Option Addr) (n cap:Nat) (vs:List V):Prop :=
 vs.length=n∧n≤cap∧cap≤maxLen∧∀ j v,vs[j]? = some v→∃ b off x,ao=some ⟨b,off,none⟩∧b<w.heap.size∧w.cell? ⟨b,off+j,none⟩=some x∧AnyV w x v
theorem Anys.below {w w':World} {ao:Option Addr} {n cap:Nat} {vs:List V} (h:Anys w ao n cap vs) (hb:Below w.heap.size w w'):Anys w' ao n cap vs:=by
 obtain ⟨h1,h2,h3,h4⟩:=h;refine ⟨h1,h2,h3,fun j v hj => ?_⟩;obtain ⟨b,off,x,e,hl,hc,ha⟩:=h4 j v hj;exact ⟨b,off,x,e,Nat.lt_of_lt_of_le hl hb.size,(hb.cell (p:=⟨b,off+j,none⟩) hl).trans hc,ha.below hb⟩
theorem Anys.head {w:World} {ao:Option Addr} {n cap:Nat} {v:V} {vs:List V} (h:Anys w ao n cap (v :: vs)):∃ b off x,ao=some ⟨b,off,none⟩∧b<w.heap.size∧w.cell? ⟨b,off,none⟩=some x∧AnyV w x v:=by
 obtain ⟨b,off,x,e,hl,hc,ha⟩:=h.2.2.2 0 v rfl;exact ⟨b,off,x,e,hl,by simpa using hc,ha⟩
theorem Anys.tail {w:World} {ao:Option Addr} {n cap:Nat} {v:V} {vs:List V} (h:Anys w ao (n+1) cap (v :: vs)):Anys w (cutA ao cap 1 1) n (cap - 1) vs:=by
 obtain ⟨h1,h2,h3,h4⟩:=h;refine ⟨by simpa using h1,by omega,by omega,fun j u hj => ?_⟩;obtain ⟨b,off,x,rfl,hl,hc,ha⟩:=h4 (j+1) u (by simpa using hj);have hn:cap≠1:=by
  have hlen:j<vs.length:=(List.getElem?_eq_some_iff.1 hj).1
  simp at h1
  omega
 refine ⟨b,off+1,x,?_,hl,?_,ha⟩
 ·unfold cutA
  rw [if_neg hn]
  simp [Addr.add_lit]
 ·rw [← hc];congr 1;simp only [Addr.mk.injEq,true_and,and_true];omega
theorem lay_len {c:UInt8} {v:V} {bs:List UInt8} (h:lay c v=some bs) (hx:v.letter=35→v.x.length=256):bs.length≤260+v.b.length:=by
 unfold lay at h
 split at h
 ·split at h
  ·obtain rfl:=Option.some.inj h
   rw [low_len];have:=widI_le (c.toNat:Int);unfold wid;omega
  ·cases h
 split at h
 ·split at h
  ·obtain rfl:=Option.some.inj h;simp;omega
  ·cases h
 split at h
 ·split at h
  ·obtain rfl:=Option.some.inj h;simp [low_len];try omega
  ·cases h
 split at h
 ·split at h
  ·obtain rfl:=Option.some.inj h;have:=hx (by assumption);omega
  ·cases h
 ·cases h
theorem run_cutL {P:Program} (w:World) (t:TypeId) (ao:Option Addr) (n cap size:Nat) (ht:P.underlying t=some (.slice (P.elem t))) (hs:∀ w,(sizeOf (P.elem t)).run P w = .ok size w) (l:Int) (h0:0≤l) (h1:l≤n) :
  (Instr.slice t (.slice ao n cap) (some (.int .i64 l)) none none).run P w = .ok (.slice (cutA ao cap l.toNat size) (n - l.toNat) (cap - l.toNat)) w:=by
 rw [run_slice_l w t ao n cap ht .i64 l h0 h1,hs]
 rfl
def PackP (w:World) (o:Option (List UInt8)) (e:Ending) (w':World):Prop :=
 Below w.heap.size w w'∧match o with
  | some bs=>∃ v',e = .returned (.tuple #[v',.int .i64 0])∧w'.ownsRow w.heap.size 5 1 v' bs.length (bV bs)
  | none=>e = .returned (.tuple #[.slice none 0 0,.int .i64 2])
theorem PackP.none_of {w w':World} {o:Option (List UInt8)} {e:Ending} (ho:o=none) (he:e = .returned (.tuple #[.slice none 0 0,.int .i64 2])) (hb:Below w.heap.size w w'):PackP w o e w':=by
 subst ho;exact ⟨hb,he⟩
theorem PackP.some_of {w w':World} {o:Option (List UInt8)} {bs:List UInt8} {v':Value} {e:Ending} (ho:o=some bs) (he:e = .returned (.tuple #[v',.int .i64 0])) (hr:w'.ownsRow w.heap.size 5 1 v' bs.length (bV bs)) (hb:Below w.heap.size w w'):PackP w o e w':=by
 subst ho;exact ⟨hb,v',he,hr⟩
theorem szAny (w:World):(sizeOf (Tryz.prog.elem 117)).run Tryz.prog w = .ok 1 w:=by kernel_rfl
theorem undAny:Tryz.prog.underlying 117=some (.slice (Tryz.prog.elem 117)):=by kernel_rfl
theorem pack_any (s:ByteArray) {w:World} {ao:Option Addr} {n cap:Nat} {vs:List V} (hv:Anys w ao n cap vs) (L:Nat) (hl:∀ v∈vs,v.b.length≤L) (hL:L≤40000000) (hs:s.size * (L+260)≤40000000) (hcap:ao=none→cap=0) :
  Calls Tryz.prog 62 #[.string s,.slice ao n cap] w (PackP w (pack (chs s) vs)):=by
 have HV:=hid hv;have HLL:=hid hl;have hs1:s.size≤1000000:=by
  have:s.size * 260≤s.size * (L+260):=Nat.mul_le_mul_left _ (by omega);omega
 have hnm:n≤cap∧cap≤9223372036854775807:=by obtain ⟨_,h2,h3,_⟩:=hv;unfold maxLen at h3;exact ⟨h2,h3⟩
 obtain ⟨B,hB⟩:∃ B,w.heap.size=B:=⟨_,rfl⟩
 have HI:Hid (((w.alloc (.cells #[] 5)).iter s 0).heap[B+1]? = some (.stringIter s 0)∧Below B w ((w.alloc (.cells #[] 5)).iter s 0)∧((w.alloc (.cells #[] 5)).iter s 0).ownsRow B 5 1 (.slice (some ⟨B,0,none⟩) 0 0) 0 []):=hid (by
  have h1:=World.iter_heap (w.alloc (.cells #[] 5)) s 0;simp only [World.size_alloc,hB] at h1;have h2:Below w.heap.size w (w.alloc (.cells #[] 5)):=balloc (Below.refl _ w) _;have h3:Below w.heap.size w ((w.alloc (.cells #[] 5)).iter s 0):=balloc h2 _;have h4:(w.alloc (.cells #[] 5)).ownsRow w.heap.size 5 1 (.slice (some ⟨w.heap.size,0,none⟩) 0 0) 0 []:=World.ownsRow_made w #[] 0 (Nat.le_refl _) (by decide) rfl;have h5:=h4.alloc (.stringIter s 0);rw [hB] at h3 h5;exact ⟨h1,h3,h5⟩)
 clear hv hl
 go_enter Tryz.func62,Tryz.ntmps62
 go_wp2_with fail
 generalize (w.alloc (.cells #[] 5)).iter s 0=w1 at HI ⊢
 have HB:=hid hB;clear hB
 go_loopg [6,7,16] s.size (fun g o l u wr=>∃ (pos q cq:Nat) (A:Option Addr) (v':Value) (acc:List UInt8) (lt:List V),pos≤s.size∧g=s.size - pos∧wr.heap[B+1]? = some (.stringIter s pos)∧v'=o∧wr.ownsRow B 5 1 v' acc.length (bV acc)∧(∀ j∈ob v',j≠B+1)∧B+1<wr.heap.size ∧
  l = .slice A q cq∧Anys w A q cq lt∧q≤n∧q≤cq∧cq≤cap∧(∀ v∈lt,v∈vs)∧Below B w wr∧acc.length≤pos * (L+260)∧pack (chs s) vs=(pack ((chs s).drop pos) lt).map (acc ++ ·))
 case atStart =>
  refine ⟨0,n,cap,ao,_,[],vs,by omega,by omega,HI.out.1,rfl,HI.out.2.2,?_,(hLT HI.out.1),rfl,HV.out,Nat.le_refl _,hnm.1,Nat.le_refl _,fun v h=>h,HI.out.2.1,by simp,?_⟩
  ·intro j hj;rw [ob_some] at hj;simp at hj;omega
  ·simp
 case round =>
  obtain ⟨pos,q,cq,A,v',acc,lt,hp,hg,hh,rfl,ho,hob,hbl,rfl,han,hq,hqc,hcc,hmem,hb,hacc,hpk⟩:=hrel;have HG:=hid hg;have HP:=hid hpk;have HO:=hid ho;have HAN:=hid han;have HM:=hid hmem;have HBW:=hid hb;have HOB:=hid hob;have hql:lt.length=q:=han.1;have HQL:=hid hql;clear hg hpk ho han hmem hob hql
  by_cases hlt:pos<s.size
  ·have hdr:=chs_drop hlt
   have hle:=decode_le s pos;have h0:(0:Int)≤((Utf8.decode s pos).1:Int):=by omega
   have hnx:=fun ty=>Lib.run_next_any_at (P:=Tryz.prog) wr (B+1) s pos ty hh hlt;have HD:=hid hdr;have hbi:=Lib.below_iterAt hb (show B≤B+1 by omega) s (pos+(Utf8.decode s pos).2);have HBI:=hid hbi;clear hdr hb hbi
   by_cases hq0:q=0
   ·subst hq0
    have HE:Hid (pack (chs s) vs=none):=hid (by
     have:lt=[]:=List.eq_nil_of_length_eq_zero HQL.out;rw [HP.out,HD.out,this];rfl)
    clear hh;go_wp2_with fail
    go_ret2
    exact PackP.none_of HE.out rfl (by rw [HB.out];exact HBI.out)
   ·obtain ⟨q,rfl⟩:∃ q',q=q'+1:=⟨q - 1,by omega⟩
    obtain ⟨v,lt,rfl⟩:∃ v l,lt=v :: l:=by
     cases lt with
     | nil=>have:=HQL.out;simp at this
     | cons v l=>exact ⟨v,l,rfl⟩
    obtain ⟨b,off,x,rfl,hbx,hcell,hav⟩:=HAN.out.head;have htl:=HAN.out.tail;have HTL:=hid htl;have hvl:=HLL.out v (HM.out v (by simp));have hq1:(((q+1:Nat):Int) == 0)=false:=by simp;omega
    have hgx:v.letter=35→v.x.length=256:=by
     intro h35
     rcases hav with ⟨h,_⟩ | ⟨h,_⟩ | ⟨h,_⟩ | ⟨_,_,h⟩ | ⟨_,_,_,h,_⟩
     ·rw [h35] at h;cases h
     ·rw [h35] at h;cases h
     ·rw [h35] at h;cases h
     ·exact h
     ·exact absurd h35 h
    have HGX:=hid hgx;have hmm:acc.length≤40000000:=by
     have:pos * (L+260)≤s.size * (L+260):=Nat.mul_le_mul_right _ hp;omega
    have hown:(wr.iterAt (B+1) s (pos+(Utf8.decode s pos).2)).ownsRow B 5 1 v' acc.length (bV acc):=ownsRow_at HO.out (fun j hj=>Lib.iterAt_other _ _ _ _ _ (HOB.out j hj));have CL:=lay_any (w0:=w) (by rw [HB.out];exact HBI.out) (by rw [HB.out];exact hown) (by omega) ((Utf8.decode s pos).1:Int) h0 (by omega) v hav (by omega);have hcw:(wr.iterAt (B+1) s (pos+(Utf8.decode s pos).2)).cell? ⟨b,off,none⟩=some x:=(HBI.out.cell (p:=⟨b,off,none⟩) (by rw [← HB.out];exact hbx)).trans hcell
    have HHN:=hid (Lib.iterAt_heap wr (B+1) s pos (pos+(Utf8.decode s pos).2) hh);have hsz:(wr.iterAt (B+1) s (pos+(Utf8.decode s pos).2)).heap.size=wr.heap.size:=Lib.iterAt_size _ _ _ _;have HSZ:=hid hsz;have hcut:=fun W=>run_cutL (P:=Tryz.prog) W 117 (some ⟨b,off,none⟩) (q+1) cq 1 undAny szAny 1 (by omega) (by omega);simp only [Nat.add_sub_cancel,Int.toNat_one] at hcut;have hOW:=hid hown;clear htl hav hgx hh hcell hown hsz hq0;rw [HB.out] at CL;go_wp2_with fail;refine CL.mono ?_;intro e w2 hP;obtain ⟨v1,hm1,hP⟩:=hP
    have hb2:Below B (wr.iterAt (B+1) s (pos+(Utf8.decode s pos).2)) w2:=hm1.below (fun j hj=>ownsRow_ge HO.out j hj) (Nat.le_trans (Nat.le_of_lt (Nat.lt_of_succ_lt hbl)) (Nat.le_of_eq HSZ.out.symm));have HB2:=hid (HBI.out.trans hb2)
    cases hlay:layI ((Utf8.decode s pos).1:Int) v with
    | none =>
     rw [hlay] at hP;subst hP;have HE:Hid (pack (chs s) vs=none):=hid (by
      rw [HP.out,HD.out]
      by_cases ha:(s[pos]'hlt).toNat<128
      ·rw [decode_ascii s pos hlt ha] at hlay
       rw [pack,← layI_byte,hlay];rfl
      ·rw [pack,← layI_byte,layI_far (by omega)];rfl)
     clear hlay hm1 hb2 CL hcut;go_wp2_with fail
     go_ret2
     exact PackP.none_of HE.out rfl (by rw [HB.out];exact HB2.out)
    | some bs =>
     rw [hlay] at hP;obtain ⟨rfl,ho2,hc2⟩:=hP;have ha:(s[pos]'hlt).toNat<128:=by
      rcases Nat.lt_or_ge (s[pos]'hlt).toNat 128 with h | h
      ·exact h
      ·have:=(decode_high s pos hlt h).1
       rw [layI_far (by omega)] at hlay;cases hlay
     have hdec:=decode_ascii s pos hlt ha;have hlc:lay (s[pos]'hlt) v=some bs:=by rw [hdec] at hlay;rw [← layI_byte];exact hlay
     have hbs:=lay_len hlc HGX.out;have HNX:Hid (pack (chs s) vs=(pack ((chs s).drop (pos+1)) lt).map ((acc ++ bs) ++ ·)):=hid (by
      rw [HP.out,HD.out,pack,hlc];simp only [Option.bind_some,Option.map_map]
      congr 1
      funext z
      simp [Function.comp])
     have HO2:Hid (w2.ownsRow B 5 1 v1 (acc ++ bs).length (bV (acc ++ bs))):=hid (by rw [List.length_append];exact ho2);have hob1:∀ j∈ob v1,j≠B+1:=fun j hj=>by
      rcases hc2.2 j hj with h | h
      ·exact HOB.out j h
      ·rw [HSZ.out] at h;omega
     have HOB1:=hid hob1;have hh2:w2.heap[B+1]? = some (.stringIter s (pos+1)):=by
      have h1:=hm1.block (B+1) (by rw [HSZ.out];exact hbl) (fun hj=>HOB.out _ hj rfl);rw [h1,HHN.out,hdec]
     have HH2:=hid hh2;have HS2:Hid (B+1<w2.heap.size):=hid (by have:=hc2.size;rw [HSZ.out] at this;omega);have HAC:Hid ((acc ++ bs).length≤(pos+1) * (L+260)):=hid (by rw [List.length_append,Nat.add_mul];omega);clear hlay hm1 hb2 CL ho2 hc2 hdec hlc hob1 hh2;go_wp2_with fail
     go_quiet (fail)
     go_wp2_with fail
     go_roundg (s.size - (pos+1))
     case rel =>
      refine ⟨pos+1,q,cq - 1,_,v1,acc ++ bs,lt,by omega,rfl,HH2.out,rfl,(ownsRow_below HO2.out (below_drewN (Below.refl _ _) _)),HOB1.out,?_,rfl,HTL.out,by omega,by omega,by omega,fun u hu=>HM.out u (by simp [hu]),below_drewN HB2.out _,HAC.out,HNX.out⟩
      simpa using HS2.out
     case measure=>have:=HG.out;omega
  ·obtain rfl:pos=s.size:=by omega
   have hnx:=fun ty=>Lib.run_next_end_at (P:=Tryz.prog) wr (B+1) s s.size ty hh (by omega);have hde:(chs s).drop s.size=[]:=List.drop_eq_nil_of_le (by rw [chs_len];exact Nat.le_refl _);have HDE:=hid hde;clear hde hb
   by_cases hq0:q=0
   ·subst hq0
    have HE:Hid (pack (chs s) vs=some acc):=hid (by
     have:lt=[]:=List.eq_nil_of_length_eq_zero HQL.out;rw [HP.out,HDE.out,this];simp [pack])
    go_wp2_with fail
    go_ret2
    exact PackP.some_of HE.out rfl (by rw [HB.out];exact HO.out) (by rw [HB.out];exact HBW.out)
   ·have HE:Hid (pack (chs s) vs=none):=hid (by
     rw [HP.out,HDE.out]
     cases lt with
     | nil=>have:=HQL.out;simp at this;omega
     | cons v l=>rfl)
    have hqp:0<q:=by omega
    clear hq0;go_wp2_with fail
    go_ret2
    exact PackP.none_of HE.out rfl (by rw [HB.out];exact HBW.out)
end Go.Proofs.YthkmihedkddnmaaGreat
namespace Go.Proofs.YthkmihedkddnmaaGreat
open Lib (hid)
open Go.RowKit
open Wire
def AnyO (base:Nat) (w:World) (u:Value) (v:V):Prop :=
 (v.letter=56∧u = .iface 38 (.int .u64 (v.n:Int))∧v.n<18446744073709551616) ∨
 (v.letter=63∧u = .iface 4 (.bool v.yes)) ∨
 (v.letter=42∧∃ sl,u = .iface 33 sl∧w.ownsRow base 5 1 sl v.b.length (bV v.b)) ∨
 (v.letter=35∧u = .iface 50 (bA v.x)∧v.x.length=256)
theorem AnyO.any {base:Nat} {w:World} {u:Value} {v:V} (h:AnyO base w u v):AnyV w u v:=by
 rcases h with h | h | ⟨h,sl,h1,h2⟩ | h
 ·exact .inl h
 ·exact .inr (.inl h)
 ·exact .inr (.inr (.inl ⟨h,sl,h1,Rd.of_own h2⟩))
 ·exact .inr (.inr (.inr (.inl h)))
theorem AnyO.below {base:Nat} {w w':World} {u:Value} {v:V} (h:AnyO base w u v) (hb:Below w.heap.size w w'):AnyO base w' u v:=by
 rcases h with h | h | ⟨h,sl,h1,h2⟩ | h
 ·exact .inl h
 ·exact .inr (.inl h)
 ·exact .inr (.inr (.inl ⟨h,sl,h1,ownsRow_below h2 hb⟩))
 ·exact .inr (.inr (.inr h))
theorem AnyO.iface {base:Nat} {w:World} {u:Value} {v:V} (h:AnyO base w u v):∃ t y,u = .iface t y:=by
 rcases h with ⟨_,h,_⟩ | ⟨_,h⟩ | ⟨_,_,h,_⟩ | ⟨_,h,_⟩ <;> exact ⟨_,_,h⟩
def LiftP (w:World) (o:Option (V × Nat)) (e:Ending) (w':World):Prop :=
 Below w.heap.size w w'∧match o with
  | some (x,k)=>∃ u,e = .returned (.tuple #[u,.int .i64 (k:Int)])∧AnyO w.heap.size w' u x
  | none=>e = .returned (.tuple #[.nilIface,.int .i64 0])
theorem LiftP.none_of {w w':World} {o:Option (V × Nat)} {e:Ending} (ho:o=none) (he:e = .returned (.tuple #[.nilIface,.int .i64 0])) (hb:Below w.heap.size w w'):LiftP w o e w':=by
 subst ho;exact ⟨hb,he⟩
theorem LiftP.some_of {w w':World} {o:Option (V × Nat)} {x:V} {k:Nat} {u:Value} {e:Ending} (ho:o=some (x,k)) (he:e = .returned (.tuple #[u,.int .i64 (k:Int)])) (ha:AnyO w.heap.size w' u x) (hb:Below w.heap.size w w'):LiftP w o e w':=by
 subst ho;exact ⟨hb,u,he,ha⟩
theorem run_cutH {P:Program} (w:World) (t:TypeId) (ao:Option Addr) (n cap size:Nat) (ht:P.underlying t=some (.slice (P.elem t))) (hs:∀ w,(sizeOf (P.elem t)).run P w = .ok size w) (h:Int) (h0:0≤h) (h1:h≤cap) :
  (Instr.slice t (.slice ao n cap) none (some (.int .i64 h)) none).run P w = .ok (.slice (cutA ao cap 0 size) h.toNat cap) w:=by
 rw [run_slice_h w t ao n cap ht .i64 h h0 h1,hs]
 rfl
theorem szBytes (w:World):(sizeOf (Tryz.prog.elem 33)).run Tryz.prog w = .ok 1 w:=by kernel_rfl
theorem undBytes:Tryz.prog.underlying 33=some (.slice (Tryz.prog.elem 33)):=by kernel_rfl
theorem Rd.head {w:World} {n cap:Nat} {ao:Option Addr} {bs:List UInt8} (h:Rd w 1 (.slice ao n cap) n (bV bs)) {k:Nat} (hk:k≤n):Rd w 1 (.slice (cutA ao cap 0 1) k cap) k (bV (bs.take k)):=by
 have:=h.cut (Nat.zero_le k) hk
 simpa [bV] using this
theorem Rd.mid {w:World} {n cap:Nat} {ao:Option Addr} {bs:List UInt8} (h:Rd w 1 (.slice ao n cap) n (bV bs)) {l k:Nat} (hl:l≤k) (hk:k≤n):Rd w 1 (.slice (cutA ao cap l 1) (k - l) (cap - l)) (k - l) (bV ((bs.drop l).take (k - l))):=by
 have:=h.cut hl hk
 simpa [bV] using this
theorem sum_take_lt (bs:List UInt8) (k:Nat) (hk:k≤8):sum (bs.take k)<18446744073709551616:=by
 refine Nat.lt_of_lt_of_le (sum_lt _) ?_;have:256 ^ (bs.take k).length≤256 ^ 8:=Nat.pow_le_pow_right (by omega) (by rw [List.length_take];omega);exact Nat.le_trans this (by decide)
theorem lift_num (c:UInt8) (hc:isNum c=true) {w:World} {v:Value} {m:Nat} {bs:List UInt8} (hrd:Rd w 1 v m (bV bs)) (hm:m≤100000000) :
  Calls Tryz.prog 111 #[.int .i32 (c.toNat:Int),v] w (LiftP w (lift c bs)):=by
 obtain ⟨k,hk,hk1,hk8⟩:∃ k,widI (c.toNat:Int)=k∧1≤k∧k≤8:=by
  refine ⟨_,rfl,?_⟩;simp only [isNum,Bool.or_eq_true,beq_iff_eq] at hc
  rcases hc with ((rfl | rfl) | rfl) | rfl <;> decide
 have h63:c≠63:=by rintro rfl;cases hc
 have h42:c≠42:=by rintro rfl;cases hc
 have h35:c≠35:=by rintro rfl;cases hc
 have hlen:bs.length=m:=by obtain ⟨_,_,_,hl,_⟩:=hrd;simpa [bV] using hl
 have HSP:Hid (lift c bs=if m<k then none else some (num (sum (bs.take k)),k)):=hid (by
  unfold lift wid;rw [hlen,hk,if_neg h63,if_neg h42,if_neg h35])
 have HS:=hid (sum_take_lt bs k hk8);have CW:=width_any (c.toNat:Int) w (by omega) (by have:=c.toNat_lt;omega);rw [hk] at CW;have g63:((c.toNat:Int) == 63)=false:=by
  rw [beq_eq_false_iff_ne];intro h;exact h63 (UInt8.toNat_inj.1 (by simp only [UInt8.reduceToNat];omega))
 have g42:((c.toNat:Int) == 42)=false:=by
  rw [beq_eq_false_iff_ne];intro h;exact h42 (UInt8.toNat_inj.1 (by simp only [UInt8.reduceToNat];omega))
 have g35:((c.toNat:Int) == 35)=false:=by
  rw [beq_eq_false_iff_ne];intro h;exact h35 (UInt8.toNat_inj.1 (by simp only [UInt8.reduceToNat];omega))
 have hcr:=c.toNat_lt
 generalize (c.toNat:Int)=r at *
 have HRD:=hid hrd;obtain ⟨ao,cap,rfl,_,_,⟨_,hc1,hc2⟩,_⟩:=hrd;have HCH:=hid (fun hkm:k≤m=>high_any _ k (bs.take k) w (HRD.out.head hkm) hk8);clear hlen hk h63 h42 h35 hc hcr
 by_cases hlt:m<k
 ·have HE:Hid (lift c bs=none):=hid (by rw [HSP.out,if_pos hlt])
  go_enter Tryz.func111,Tryz.ntmps111
  go_wp2_with fail;refine CW.mono ?_;rintro e w1 ⟨rfl,rfl⟩;go_wp2_with fail
  go_ret2
  exact LiftP.none_of HE.out rfl (Below.refl _ _)
 ·have hcut:=fun W=>run_cutH (P:=Tryz.prog) W 33 ao m cap 1 undBytes szBytes (k:Int) (by omega) (by omega)
  have HE:Hid (lift c bs=some (num (sum (bs.take k)),k)):=hid (by rw [HSP.out,if_neg hlt]);have CH:=HCH.out (by omega);simp only [Int.toNat_natCast] at hcut
  go_enter Tryz.func111,Tryz.ntmps111
  go_wp2_with fail;refine CW.mono ?_;rintro e w1 ⟨rfl,rfl⟩;go_wp2_with fail;refine CH.mono ?_;rintro e w2 ⟨rfl,hb⟩;have HB:=hid hb;clear hb CH CW;go_wp2_with fail
  go_ret2
  exact LiftP.some_of HE.out rfl (.inl ⟨rfl,rfl,HS.out⟩) HB.out
theorem lift_flag {w:World} {v:Value} {m:Nat} {bs:List UInt8} (hrd:Rd w 1 v m (bV bs)) (hm:m≤100000000) :
  Calls Tryz.prog 111 #[.int .i32 63,v] w (LiftP w (lift 63 bs)):=by
 have hlen:bs.length=m:=by obtain ⟨_,_,_,hl,_⟩:=hrd;simpa [bV] using hl
 have CW:=width_any 63 w (by omega) (by omega);rw [show widI 63=1 from rfl] at CW;have HRD:=hid hrd;obtain ⟨ao,cap,rfl,_,_,⟨_,hc1,hc2⟩,hcell⟩:=hrd
 cases bs with
 | nil =>
  obtain rfl:m=0:=by simpa using hlen.symm
  have HE:Hid (lift 63 []=none):=hid rfl;clear hcell hlen
  go_enter Tryz.func111,Tryz.ntmps111
  go_wp2_with fail;refine CW.mono ?_;rintro e w1 ⟨rfl,rfl⟩;go_wp2_with fail
  go_ret2
  exact LiftP.none_of HE.out rfl (Below.refl _ _)
 | cons b0 bs =>
  obtain ⟨b,off,rfl,hbl,hce⟩:=hcell 0 _ (bV_get rfl);rw [Nat.add_zero] at hce;have hm1:1≤m:=by simp at hlen;omega
  have hb0:=b0.toNat_lt;have HSP:Hid (lift 63 (b0 :: bs)=if 1<b0.toNat then none else some (flag (b0 == 1),1)):=hid (by
   unfold lift;rw [if_neg (by rw [show wid 63=1 from rfl];simp),if_pos rfl]
   rfl)
  have HQ:Hid ((b0 == 1)=((b0.toNat:Int) == 1)):=hid (by
   rw [Bool.eq_iff_iff,beq_iff_eq,beq_iff_eq]
   constructor
   ·rintro rfl;rfl
   ·intro h;exact UInt8.toNat_inj.1 (by simp only [UInt8.reduceToNat];omega))
  generalize (b0.toNat)=q at *
  clear hcell hlen
  by_cases hq:1<q
  ·have HE:Hid (lift 63 (b0 :: bs)=none):=hid (by rw [HSP.out,if_pos hq])
   go_enter Tryz.func111,Tryz.ntmps111
   go_wp2_with fail;refine CW.mono ?_;rintro e w1 ⟨rfl,rfl⟩;go_wp2_with fail
   go_ret2
   exact LiftP.none_of HE.out rfl (Below.refl _ _)
  ·have HE:Hid (lift 63 (b0 :: bs)=some (flag (b0 == 1),1)):=hid (by rw [HSP.out,if_neg hq])
   go_enter Tryz.func111,Tryz.ntmps111
   go_wp2_with fail;refine CW.mono ?_;rintro e w1 ⟨rfl,rfl⟩;go_wp2_with fail
   go_ret2
   exact LiftP.some_of HE.out rfl (.inr (.inl ⟨rfl,by rw [HQ.out];rfl⟩)) (Below.refl _ _)
theorem lift_blob {w:World} {v:Value} {m:Nat} {bs:List UInt8} (hrd:Rd w 1 v m (bV bs)) (hm:m≤100000000) :
  Calls Tryz.prog 111 #[.int .i32 42,v] w (LiftP w (lift 42 bs)):=by
 have hlen:bs.length=m:=by obtain ⟨_,_,_,hl,_⟩:=hrd;simpa [bV] using hl
 have CW:=width_any 42 w (by omega) (by omega);rw [show widI 42=4 from rfl] at CW;have HRD:=hid hrd;obtain ⟨ao,cap,rfl,_,_,⟨_,hc1,hc2⟩,_⟩:=hrd
 by_cases hlt:m<4
 ·have HE:Hid (lift 42 bs=none):=hid (by unfold lift;rw [if_pos (by rw [hlen];exact hlt)])
  clear hlen
  go_enter Tryz.func111,Tryz.ntmps111
  go_wp2_with fail;refine CW.mono ?_;rintro e w1 ⟨rfl,rfl⟩;go_wp2_with fail
  go_ret2
  exact LiftP.none_of HE.out rfl (Below.refl _ _)
 ·have HSP:Hid (lift 42 bs=if 16777216<sum (bs.take 4)∨m - 4<sum (bs.take 4) then none else some (blob ((bs.drop 4).take (sum (bs.take 4))),4+sum (bs.take 4))):=hid (by
   unfold lift;rw [if_neg (by rw [hlen];exact hlt),if_neg (by decide),if_pos rfl,hlen])
  have CH:=high_any _ 4 (bs.take 4) w (HRD.out.head (by omega)) (by omega);have hcut:=fun W=>run_cutH (P:=Tryz.prog) W 33 ao m cap 1 undBytes szBytes (4:Int) (by omega) (by omega);have hs8:=sum_take_lt bs 4 (by omega);have HL:=hid hlen;simp only [Int.reduceToNat] at hcut
  generalize sum (bs.take 4)=s at *
  clear hlen
  by_cases hbig:16777216<s
  ·have HE:Hid (lift 42 bs=none):=hid (by rw [HSP.out,if_pos (.inl hbig)])
   go_enter Tryz.func111,Tryz.ntmps111
   go_wp2_with fail;refine CW.mono ?_;rintro e w1 ⟨rfl,rfl⟩;go_wp2_with fail;refine CH.mono ?_;rintro e w2 ⟨rfl,hb⟩;have HB:=hid hb;clear hb CH CW;go_wp2_with fail
   go_ret2
   exact LiftP.none_of HE.out rfl HB.out
  ·by_cases hsh:m - 4<s
   ·have HE:Hid (lift 42 bs=none):=hid (by rw [HSP.out,if_pos (.inr hsh)])
    go_enter Tryz.func111,Tryz.ntmps111
    go_wp2_with fail;refine CW.mono ?_;rintro e w1 ⟨rfl,rfl⟩;go_wp2_with fail;refine CH.mono ?_;rintro e w2 ⟨rfl,hb⟩;have HB:=hid hb;clear hb CH CW;go_wp2_with fail
    go_ret2
    exact LiftP.none_of HE.out rfl HB.out
   ·have HE:Hid (lift 42 bs=some (blob ((bs.drop 4).take s),4+s)):=hid (by rw [HSP.out,if_neg (by omega)])
    have hcut2:=fun W=>run_cut (P:=Tryz.prog) W 33 ao m cap 1 undBytes szBytes (4:Int) (4+s:Int) (by omega) (by omega) (by omega);rw [show ((4:Int)+(s:Int)).toNat=4+s by omega] at hcut2;simp only [Int.reduceToNat] at hcut2;have hrm:=HRD.out.mid (show 4≤4+s by omega) (show 4+s≤m by omega);rw [show 4+s - 4=s by omega] at hrm;have HRM:=hid hrm;have HBL:Hid (((bs.drop 4).take s).length=s):=hid (by rw [List.length_take,List.length_drop,HL.out];omega);clear hrm
    go_enter Tryz.func111,Tryz.ntmps111
    go_wp2_with fail;refine CW.mono ?_;rintro e w1 ⟨rfl,rfl⟩;go_wp2_with fail;refine CH.mono ?_;rintro e w2 ⟨rfl,hb⟩;have HB:=hid hb;have hr2:=HRM.out.below hb;have CC:=clone8 _ s _ w2 hr2 (by omega);clear hb CH CW hr2;go_wp2_with fail;refine CC.mono ?_;rintro e w3 ⟨v3,rfl,ho3,hb3⟩;have HO3:=hid ho3;have HB3:=hid hb3;clear CC ho3 hb3;go_wp2_with fail
    go_ret2
    refine LiftP.some_of HE.out rfl (.inr (.inr (.inl ⟨rfl,v3,rfl,?_⟩))) (HB.out.trans (HB3.out.mono HB.out.size));have:=HO3.out;have hl:(blob ((bs.drop 4).take s)).b.length=s:=HBL.out;rw [hl];exact ownsRow_base this HB.out.size
theorem lift_blk {w:World} {v:Value} {m:Nat} {bs:List UInt8} (hrd:Rd w 1 v m (bV bs)) (hm:m≤100000000) :
  Calls Tryz.prog 111 #[.int .i32 35,v] w (LiftP w (lift 35 bs)):=by
 have hlen:bs.length=m:=by obtain ⟨_,_,_,hl,_⟩:=hrd;simpa [bV] using hl
 have CW:=width_any 35 w (by omega) (by omega);rw [show widI 35=256 from rfl] at CW;have HRD:=hid hrd;obtain ⟨ao,cap,rfl,_,_,⟨_,hc1,hc2⟩,hcell⟩:=hrd
 by_cases hlt:m<256
 ·have HE:Hid (lift 35 bs=none):=hid (by unfold lift;rw [if_pos (by rw [hlen];exact hlt)])
  clear hlen hcell
  go_enter Tryz.func111,Tryz.ntmps111
  go_wp2_with fail;refine CW.mono ?_;rintro e w1 ⟨rfl,rfl⟩;go_wp2_with fail
  go_ret2
  exact LiftP.none_of HE.out rfl (Below.refl _ _)
 ·have HE:Hid (lift 35 bs=some (blk (bs.take 256),256)):=hid (by
   unfold lift;rw [if_neg (by rw [hlen];exact hlt),if_neg (by decide),if_neg (by decide),if_pos rfl])
  have h256:(bs.take 256).length=256:=by rw [List.length_take,hlen];omega
  have H256:=hid h256;obtain ⟨b,off,rfl⟩:∃ b off,ao=some ⟨b,off,none⟩:=by
   obtain ⟨b,off,h,_,_⟩:=hcell 0 _ (bV_get (List.getElem?_eq_getElem (by omega)));exact ⟨b,off,h⟩
  have hra:w.rangeAt b off (bV (bs.take 256)):=fun j u hj=>by
   have hj1:(bV bs)[j]? = some u:=by
    unfold bV at hj ⊢;rw [List.map_take,List.getElem?_take] at hj
    split at hj
    ·exact hj
    ·cases hj
   obtain ⟨b',off',e,_,hce⟩:=hcell j u hj1;obtain ⟨rfl,rfl⟩:b=b'∧off=off':=by simpa using e
   exact hce
  have hcut:=fun W=>run_cutH (P:=Tryz.prog) W 33 (some ⟨b,off,none⟩) m cap 1 undBytes szBytes (256:Int) (by omega) (by omega);have hca:cutA (some ⟨b,off,none⟩) cap 0 1=some ⟨b,off,none⟩:=by
   unfold cutA
   split
   ·rfl
   ·simp [Addr.add_lit]
  rw [hca] at hcut;simp only [Int.reduceToNat] at hcut;have hi:(Tryz.prog.info? 50).map (·.size)=some (bV (bs.take 256)).length:=by rw [bV_len,h256];kernel_rfl
  have HIR:=hid (And.intro hra hi);have hat:=fun W=>run_arrayAt (P:=Tryz.prog) (w:=W) 50 _ 256 (some ⟨b,off,none⟩) 256 cap Tryz.underlying50 (Nat.le_refl _)
  generalize hgl:bV (bs.take 256)=L at *
  clear hlen hcell h256 hra hca hi
  go_enter Tryz.func111,Tryz.ntmps111
  go_wp2_with fail;refine CW.mono ?_;rintro e w1 ⟨rfl,rfl⟩;go_wp2_with fail;refine wp_load_mid 50 _ rfl b off rfl L _ HIR.out.1 Tryz.underlying50 rfl HIR.out.2 ?_
  generalize hgc:L.toArray=C
  go_wp2_with fail
  go_ret2
  subst hgc;subst hgl;exact LiftP.some_of HE.out rfl (.inr (.inr (.inr ⟨rfl,rfl,H256.out⟩))) (Below.refl _ _)
theorem lift_any (c:UInt8) (hc:wid c≠0) {w:World} {v:Value} {m:Nat} {bs:List UInt8} (hrd:Rd w 1 v m (bV bs)) (hm:m≤100000000) :
  Calls Tryz.prog 111 #[.int .i32 (c.toNat:Int),v] w (LiftP w (lift c bs)):=by
 by_cases h1:isNum c=true
 ·exact lift_num c h1 hrd hm
 by_cases h2:c=63
 ·subst h2;exact lift_flag hrd hm
 by_cases h3:c=42
 ·subst h3;exact lift_blob hrd hm
 by_cases h4:c=35
 ·subst h4;exact lift_blk hrd hm
 exfalso
 apply hc
 simp only [isNum,Bool.or_eq_true,beq_iff_eq,not_or] at h1;have e:∀ k:UInt8,c≠k→((c.toNat:Int)≠(k.toNat:Int)):=fun k h hh=>h (byteI.1 hh);have e1:=e 49 h1.1.1.1;have e2:=e 50 h1.1.1.2;have e3:=e 52 h1.1.2;have e4:=e 56 h1.2;have e5:=e 63 h2;have e6:=e 42 h3;have e7:=e 35 h4;simp only [UInt8.reduceToNat,Int.cast_ofNat_Int] at e1 e2 e3 e4 e5 e6 e7;unfold wid widI
 simp [e1,e2,e3,e4,e5,e6,e7]
end Go.Proofs.YthkmihedkddnmaaGreat
namespace Go.Proofs.YthkmihedkddnmaaGreat
open Lib (hid)
open Go.RowKit
open Wire
theorem infoAny:(Tryz.prog.info? 20).map (fun i=>(i.zero,i.size,i.bytes))=some (some .nilIface,1,16):=by kernel_rfl
def Outs (base:Nat) (w:World) (v:Value) (l:List V):Prop :=
 ∃ xs,w.ownsRow base 20 1 v l.length xs∧∀ (j:Nat) (x:V),l[j]? = some x→∃ u,xs[j]? = some u∧AnyO base w u x
theorem Outs.nil (base:Nat) (w:World):Outs base w (.slice none 0 0) []:=⟨[],World.ownsRow_nil _ _ _ _,fun j x h=>by simp at h⟩
theorem Outs.below {base:Nat} {w w':World} {v:Value} {l:List V} (h:Outs base w v l) (hb:Below w.heap.size w w'):Outs base w' v l:=by
 obtain ⟨xs,ho,hx⟩:=h;refine ⟨xs,ownsRow_below ho hb,fun j x hj => ?_⟩;obtain ⟨u,h1,h2⟩:=hx j x hj;exact ⟨u,h1,h2.below hb⟩
def ib:Value→List Nat
 | .iface _ v=>ob v
 | _=>[]
def Outs2 (base:Nat) (w:World) (v:Value) (l:List V):Prop :=
 ∃ xs,w.ownsRow base 20 1 v l.length xs∧∀ (j:Nat) (x:V),l[j]? = some x→∃ u,xs[j]? = some u∧AnyO base w u x∧∀ k∈ib u,k∉ob v
theorem Outs2.outs {base:Nat} {w:World} {v:Value} {l:List V} (h:Outs2 base w v l):Outs base w v l:=by
 obtain ⟨xs,ho,hx⟩:=h;refine ⟨xs,ho,fun j x hj => ?_⟩;obtain ⟨u,h1,h2,_⟩:=hx j x hj;exact ⟨u,h1,h2⟩
theorem Outs2.nil (base:Nat) (w:World):Outs2 base w (.slice none 0 0) []:=⟨[],World.ownsRow_nil _ _ _ _,fun j x h=>by simp at h⟩
theorem Outs2.below {base:Nat} {w w':World} {v:Value} {l:List V} (h:Outs2 base w v l) (hb:Below w.heap.size w w'):Outs2 base w' v l:=by
 obtain ⟨xs,ho,hx⟩:=h;refine ⟨xs,ownsRow_below ho hb,fun j x hj => ?_⟩;obtain ⟨u,h1,h2,h3⟩:=hx j x hj;exact ⟨u,h1,h2.below hb,h3⟩
theorem Outs2.at {base:Nat} {w w':World} {v:Value} {l:List V} (h:Outs2 base w v l) (hs:∀ k,base≤k→k<w.heap.size→(∃ t c f,w.heap[k]? = some (.cells c t f))→w'.heap[k]? = w.heap[k]?):Outs2 base w' v l:=by
 have key:∀ {e:TypeId} {n:Nat} {u:Value} {xs:List Value},w.ownsRow base e 1 u n xs→w'.ownsRow base e 1 u n xs:=by
  intro e n u xs ho;refine ownsRow_at ho (fun k hk => ?_)
  rcases ho.2 with ⟨rfl,_⟩ | ⟨g,cap,cur,rfl,hg,hh,_⟩
  ·simp [ob_nil] at hk
  ·rw [ob_some] at hk
   obtain rfl:k=g:=by simpa using hk
   exact hs k hg (hLT hh) ⟨_,_,_,hh⟩
 obtain ⟨xs,ho,hx⟩:=h;refine ⟨xs,key ho,fun j x hj => ?_⟩;obtain ⟨u,h1,h2,h3⟩:=hx j x hj;refine ⟨u,h1,?_,h3⟩
 rcases h2 with h2 | h2 | ⟨h2,sl,h4,h5⟩ | h2
 ·exact .inl h2
 ·exact .inr (.inl h2)
 ·exact .inr (.inr (.inl ⟨h2,sl,h4,key h5⟩))
 ·exact .inr (.inr (.inr h2))
theorem AnyO.lt {base:Nat} {w:World} {u:Value} {x:V} (h:AnyO base w u x):∀ k∈ib u,base≤k∧k<w.heap.size:=by
 intro k hk
 rcases h with ⟨_,rfl,_⟩ | ⟨_,rfl⟩ | ⟨_,sl,rfl,h5⟩ | ⟨_,rfl,_⟩
 ·simp [ib,ob,Value.ownBlock] at hk
 ·simp [ib,ob,Value.ownBlock] at hk
 ·exact ⟨ownsRow_ge h5 k hk,ownsRow_lt h5 k hk⟩
 ·simp [ib,ob,bA,Value.ownBlock] at hk
theorem AnyO.base {base base':Nat} {w:World} {u:Value} {x:V} (h:AnyO base w u x) (hb:base'≤base):AnyO base' w u x:=by
 rcases h with h2 | h2 | ⟨h2,sl,h4,h5⟩ | h2
 ·exact .inl h2
 ·exact .inr (.inl h2)
 ·exact .inr (.inr (.inl ⟨h2,sl,h4,ownsRow_base h5 hb⟩))
 ·exact .inr (.inr (.inr h2))
theorem AnyO.at {base:Nat} {w w':World} {u:Value} {x:V} (h:AnyO base w u x) (hs:∀ k∈ib u,w'.heap[k]? = w.heap[k]?):AnyO base w' u x:=by
 rcases h with h2 | h2 | ⟨h2,sl,h4,h5⟩ | h2
 ·exact .inl h2
 ·exact .inr (.inl h2)
 ·refine .inr (.inr (.inl ⟨h2,sl,h4,ownsRow_at h5 (fun k hk=>hs k ?_)⟩))
  rw [h4];exact hk
 ·exact .inr (.inr (.inr h2))
theorem Outs2.snoc {base:Nat} {w w1:World} {v v1 u:Value} {l:List V} {x:V} {xs:List Value} (hx:∀ (j:Nat) (y:V),l[j]? = some y→∃ z,xs[j]? = some z∧AnyO base w z y∧∀ k∈ib z,k∉ob v)
  (hn:xs.length=l.length) (hu:AnyO base w u x) (hd:∀ k∈ib u,k∉ob v) (ho1:w1.ownsRow base 20 1 v1 (l.length+1) (xs ++ [u])) (hg:w.grownBy w1 v.ownBlock) (hs:SameOrNew w v v1):Outs2 base w1 v1 (l ++ [x]):=by
 have key:∀ {z y},AnyO base w z y→(∀ k∈ib z,k∉ob v)→AnyO base w1 z y∧∀ k∈ib z,k∉ob v1:=by
  intro z y hz hk;refine ⟨hz.at fun k h=>hg.block k (hz.lt k h).2 (fun e=>hk k h (by simp [ob,← e])),fun k h hm => ?_⟩
  rcases (Chg.of_grown hg hs).2 k hm with h1 | h1
  ·exact hk k h h1
  ·have:=(hz.lt k h).2;omega
 refine ⟨xs ++ [u],by simpa using ho1,fun j y hj => ?_⟩
 rcases Nat.lt_trichotomy j l.length with h | h | h
 ·rw [List.getElem?_append_left h] at hj
  obtain ⟨z,h1,h2,h3⟩:=hx j y hj;obtain ⟨k1,k2⟩:=key h2 h3;exact ⟨z,by rw [List.getElem?_append_left (by omega)];exact h1,k1,k2⟩
 ·subst h
  rw [List.getElem?_append_right (Nat.le_refl _),Nat.sub_self] at hj;obtain rfl:x=y:=by simpa using hj
  obtain ⟨k1,k2⟩:=key hu hd;exact ⟨u,by rw [List.getElem?_append_right (by omega),hn,Nat.sub_self];rfl,k1,k2⟩
 ·rw [List.getElem?_eq_none (by simp;omega)] at hj
  cases hj
def UnpackP (w:World) (y:Bool) (o:Option (List V × Nat)) (e:Ending) (w':World):Prop :=
 Below w.heap.size w w'∧if y then (match o with
  | some (l,k)=>∃ v',e = .returned (.tuple #[v',.int .i64 (k:Int),.int .i64 0])∧Outs w.heap.size w' v' l
  | none=>e = .returned (.tuple #[.slice none 0 0,.int .i64 0,.int .i64 4])) else e = .returned (.tuple #[.slice none 0 0,.int .i64 0,.int .i64 2])
theorem UnpackP.no_of {w w':World} {y:Bool} {o:Option (List V × Nat)} {e:Ending} (hy:y=false) (he:e = .returned (.tuple #[.slice none 0 0,.int .i64 0,.int .i64 2])) (hb:Below w.heap.size w w'):UnpackP w y o e w':=by
 subst hy;exact ⟨hb,by simpa using he⟩
theorem UnpackP.none_of {w w':World} {y:Bool} {o:Option (List V × Nat)} {e:Ending} (hy:y=true) (ho:o=none) (he:e = .returned (.tuple #[.slice none 0 0,.int .i64 0,.int .i64 4])) (hb:Below w.heap.size w w'):UnpackP w y o e w':=by
 subst hy;subst ho;exact ⟨hb,by simpa using he⟩
theorem UnpackP.some_of {w w':World} {y:Bool} {o:Option (List V × Nat)} {l:List V} {k:Nat} {v':Value} {e:Ending} (hy:y=true) (ho:o=some (l,k)) (he:e = .returned (.tuple #[v',.int .i64 (k:Int),.int .i64 0])) (hr:Outs w.heap.size w' v' l) (hb:Below w.heap.size w w'):UnpackP w y o e w':=by
 subst hy;subst ho;exact ⟨hb,by simpa using ⟨v',he,hr⟩⟩
theorem lift_le {c:UInt8} {b:List UInt8} {x:V} {k:Nat} (h:lift c b=some (x,k)):k≤b.length∧k≤16777220:=by
 unfold lift at h
 split at h
 ·cases h
 rename_i h0
 split at h
 ·rename_i hc
  split at h
  ·cases h
  ·obtain ⟨_,rfl⟩:=Prod.mk.inj (Option.some.inj h)
   subst hc;rw [show wid 63=1 from rfl] at h0;omega
 split at h
 ·rename_i hc
  split at h
  ·cases h
  ·obtain ⟨_,rfl⟩:=Prod.mk.inj (Option.some.inj h)
   subst hc;rw [show wid 42=4 from rfl] at h0;omega
 split at h
 ·rename_i hc
  obtain ⟨_,rfl⟩:=Prod.mk.inj (Option.some.inj h);subst hc;rw [show wid 35=256 from rfl] at h0;omega
 ·obtain ⟨_,rfl⟩:=Prod.mk.inj (Option.some.inj h)
  have:=widI_le (c.toNat:Int);unfold wid at h0 ⊢;omega
theorem unpack_any (s:ByteArray) {w:World} {v:Value} {m:Nat} {bs:List UInt8} (hrd:Rd w 1 v m (bV bs)) (hm:m≤100000000) (hs:s.size≤1000000) :
  Calls Tryz.prog 86 #[.string s,v] w (UnpackP w (may (chs s)) (unpack (chs s) bs)):=by
 have hlen:bs.length=m:=by obtain ⟨_,_,_,hl,_⟩:=hrd;simpa [bV] using hl
 have HLN:=hid hlen;have HRD:=hid hrd;have C:=may_any s w hs;obtain ⟨ao,cap,rfl,_,_,⟨_,hc1,hc2⟩,_⟩:=hrd;obtain ⟨B,hB⟩:∃ B,w.heap.size=B:=⟨_,rfl⟩
 have HB:=hid hB;clear hlen hB
 cases hy:may (chs s) with
 | false =>
  rw [hy] at C;have HE:=hid hy;clear hy
  go_enter Tryz.func86,Tryz.ntmps86
  go_wp2_with fail;refine C.mono ?_;rintro e w1 ⟨rfl,hb⟩;have HB1:=hid hb;clear hb C;go_wp2_with fail
  go_ret3
  exact UnpackP.no_of rfl rfl HB1.out
 | true =>
  rw [hy] at C;have HY:=hid hy;clear hy
  go_enter Tryz.func86,Tryz.ntmps86
  go_wp2_with fail;refine C.mono ?_;rintro e w1 ⟨rfl,hb⟩;have HB1:=hid hb;clear hb C;obtain ⟨R,hR⟩:∃ R,w1.heap.size=R:=⟨_,rfl⟩
  have HI:Hid ((w1.iter s 0).heap[R]? = some (.stringIter s 0)∧Below B w (w1.iter s 0)):=hid (by
   have h1:=World.iter_heap w1 s 0;rw [hR] at h1;have h2:Below w.heap.size w (w1.iter s 0):=balloc HB1.out _;rw [HB.out] at h2;exact ⟨h1,h2⟩)
  go_wp2_with fail
  generalize w1.iter s 0=w2 at HI ⊢
  have HR:=hid hR;clear hR;have HRB:Hid (B≤R):=hid (by rw [← HB.out,← HR.out];exact HB1.out.size)
  go_loopg [7,8] s.size (fun g o a wr=>∃ (pos k:Nat) (v':Value) (l:List V),pos≤s.size∧g=s.size - pos∧wr.heap[R]? = some (.stringIter s pos)∧v'=o∧a = .int .i64 (k:Int)∧k≤m∧Outs2 B wr v' l∧(∀ j∈ob v',j≠R)∧l.length≤pos∧may ((chs s).drop pos)=true∧Below B w wr ∧
   unpack (chs s) bs=(unpack ((chs s).drop pos) (bs.drop k)).map (fun q=>(l ++ q.1,k+q.2)))
  case atStart =>
   refine ⟨0,0,_,[],by omega,by omega,HI.out.1,rfl,rfl,by omega,Outs2.nil _ _,by simp [ob_nil],by simp,HY.out,HI.out.2,?_⟩
   simp
  case round =>
   obtain ⟨pos,k,v',l,hp,hg,hh,rfl,rfl,hk,ho,hob,hll,hmy,hb,hun⟩:=hrel;have HG:=hid hg;have HU:=hid hun;have HO:=hid ho;have HBW:=hid hb;have HOB:=hid hob;have HMY:=hid hmy;have HH:=hid hh;clear hg hun ho hob hmy
   by_cases hlt:pos<s.size
   ·have hmd:=HMY.out
    rw [may_drop hlt,Bool.and_eq_true] at hmd;have hw:wid (s[pos]'hlt)≠0:=by simpa using hmd.1
    have ha:=wid_small hw;have hnx:=fun ty=>Lib.run_next_any_at (P:=Tryz.prog) wr R s pos ty hh hlt;rw [decode_ascii s pos hlt ha] at hnx;have hbi:=Lib.below_iterAt hb HRB.out s (pos+1);have HBI:=hid hbi;have HM2:=hid hmd.2;have hcut:=fun W=>run_cutL (P:=Tryz.prog) W 33 ao m cap 1 undBytes szBytes (k:Int) (by omega) (by omega);simp only [Int.toNat_natCast] at hcut;have HSZ:=hid (Lib.iterAt_size wr R s (pos+1));have HHN:=hid (Lib.iterAt_heap wr R s pos (pos+1) hh)
    have ho1:Outs2 B (wr.iterAt R s (pos+1)) v' l:=HO.out.at (fun j _ _ ⟨t,c,f,hc⟩=>Lib.iterAt_other _ _ _ _ _ (fun e=>by subst e;rw [HH.out] at hc;cases hc));have HO1:=hid ho1;have hdr:bV (bs.drop k)=bV ((bs.drop k).take (m - k)):=by
     rw [List.take_of_length_le (by rw [List.length_drop,HLN.out];exact Nat.le_refl _)]
    have hr1:Rd (wr.iterAt R s (pos+1)) 1 (.slice (cutA ao cap k 1) (m - k) (cap - k)) (m - k) (bV (bs.drop k)):=by
     rw [hdr];exact ((HRD.out.below (by rw [HB.out];exact HBI.out)).mid hk (Nat.le_refl m))
    have CL:=lift_any (s[pos]'hlt) hw hr1 (by omega);have HD:=hid (chs_drop hlt);have HRL:=hid (hLT hh);clear hmd hw hb hbi ho1 hdr hr1 hh
    generalize hcc:s[pos]'hlt=c at *
    clear hcc;go_wp2_with fail;refine CL.mono ?_;intro e w3 hP;have HB3:=hid (hP.1);have hbs1:B≤(wr.iterAt R s (pos+1)).heap.size:=by rw [← HB.out];exact HBI.out.size
    have HBT:=hid (HBI.out.trans (hP.1.mono hbs1));have HBS:=hid hbs1;clear hbs1
    cases hli:lift c (bs.drop k) with
    | none =>
     rw [hli] at hP;obtain ⟨_,rfl⟩:=hP;have HE:Hid (unpack (chs s) bs=none):=hid (by rw [HU.out,HD.out,unpack,hli];rfl);clear hli CL hcut hnx;go_wp2_with fail
     go_ret3
     exact UnpackP.none_of rfl HE.out rfl (by rw [HB.out];exact HBT.out)
    | some xq =>
     obtain ⟨x,q⟩:=xq;rw [hli] at hP;obtain ⟨_,u,rfl,hau⟩:=hP;have hq:=lift_le hli;rw [List.length_drop,HLN.out] at hq;have HNX:Hid (unpack (chs s) bs=(unpack ((chs s).drop (pos+1)) (bs.drop (k+q))).map (fun z=>((l ++ [x]) ++ z.1,(k+q)+z.2))):=hid (by
      rw [HU.out,HD.out,unpack,hli];simp only [Option.bind_some,Option.map_map,List.drop_drop]
      congr 1
      funext z
      simp [Function.comp,Nat.add_assoc])
     have hau2:=hau.base HBS.out;have hnb:∀ j∈ib u,j∉ob v':=fun j hj hv=>by
      have h1:=(hau.lt j hj).1;obtain ⟨xs0,ho0,_⟩:=HO.out;have h2:=ownsRow_lt ho0 j hv;rw [HSZ.out] at h1;omega
     obtain ⟨xs,hox,hxx⟩:=HO1.out.below HB3.out;have hxl:xs.length=l.length:=by have:=hox.1;omega
     obtain ⟨t,y,rfl⟩:=hau2.iface;have HAU:=hid hau2;have HNB:=hid hnb;have HXX:=hid hxx;have HXL:=hid hxl;have hbB:B≤w3.heap.size:=by rw [← HB.out];exact HBT.out.size
     have HBB:=hid hbB;have hri:w3.heap[R]? = some (.stringIter s (pos+1)):=by
      rw [HB3.out.block R (by rw [HSZ.out];exact HRL.out)];exact HHN.out
     have HRI:=hid hri;have HR3:Hid (R<w3.heap.size):=hid (hLT hri);clear hli CL hcut hnx hau hau2 hnb hxx hxl hri
     go_wp2_with (at_builtin;go_must (refine wpList_app rfl _ _ 117 rfl B 20 _ 1 16 Tryz.underlying117 infoAny rfl (by decide) (by decide) _ l.length _ rfl hox rfl rfl (by simp [Value.oneCell']) (by omega) hbB ?_);intro v1 w4 ho4 hb4 hg4 hs4 hn4)
     have HO4:Hid (Outs2 B w4 v1 (l ++ [x])):=hid (Outs2.snoc HXX.out HXL.out HAU.out HNB.out ho4 hg4 hs4);have HB4:=hid (HBT.out.trans hb4);have HOB4:Hid (∀ j∈ob v1,j≠R):=hid (fun j hj=>by
      rcases (Chg.of_grown hg4 hs4).2 j hj with h | h
      ·exact HOB.out j h
      ·have:=HR3.out;omega)
     have HI4:Hid (w4.heap[R]? = some (.stringIter s (pos+1))):=hid (by
      rw [hg4.block R HR3.out (fun e=>HOB.out R (by unfold ob;rw [Option.mem_toList];exact e.symm) rfl)];exact HRI.out)
     clear ho4 hb4 hg4 hs4 hn4 hox;go_wp2_with fail
     go_roundg (s.size - (pos+1))
     case rel =>
      exact ⟨pos+1,k+q,v1,l ++ [x],by omega,rfl,HI4.out,rfl,by go_num,by omega,HO4.out,HOB4.out,by simp;omega,HM2.out,HB4.out,HNX.out⟩
     case measure=>have:=HG.out;omega
   ·obtain rfl:pos=s.size:=by omega
    have hnx:=fun ty=>Lib.run_next_end_at (P:=Tryz.prog) wr R s s.size ty hh (by omega);have hde:(chs s).drop s.size=[]:=List.drop_eq_nil_of_le (by rw [chs_len];exact Nat.le_refl _);have HE:Hid (unpack (chs s) bs=some (l,k)):=hid (by rw [HU.out,hde];simp [unpack]);clear hde hb;go_wp2_with fail
    go_ret3
    exact UnpackP.some_of rfl HE.out rfl (by rw [HB.out];exact HO.out.outs) (by rw [HB.out];exact HBW.out)
end Go.Proofs.YthkmihedkddnmaaGreat
namespace Go.Proofs.YthkmihedkddnmaaGreat
open Lib (hid)
open Go.RowKit
open Wire
end Go.Proofs.YthkmihedkddnmaaGreat
namespace Go.Proofs.YthkmihedkddnmaaGreat
open Lib (hid)
open Go.RowKit
open Wire
end Go.Proofs.YthkmihedkddnmaaGreat
namespace Go.Proofs.YthkmihedkddnmaaGreat
open Lib (hid)
open Go.RowKit
open Wire
def rC (v:V) (sl:Value):List Value:=.int .u8 (v.letter.toNat:Int) :: .int .u64 (v.n:Int) :: .bool v.yes :: sl :: bV v.x
theorem rC_len {v:V} {sl:Value} (hx:v.x.length=256):(rC v sl).length=260:=by simp [rC,bV_len,hx]
def rA (v:V) (sl:Value):Value:=.agg (rC v sl).toArray
def AnyT (base:Nat) (w:World) (u:Value) (v:V):Prop :=
 AnyO base w u v∨(v.letter≠56∧v.letter≠63∧v.letter≠42∧v.letter≠35∧∃ n,u = .iface 3 (.int .i64 n))
theorem AnyT.any {base:Nat} {w:World} {u:Value} {v:V} (h:AnyT base w u v):AnyV w u v:=by
 rcases h with h | h
 ·exact h.any
 ·obtain ⟨h1,h2,h3,h4,n,e⟩:=h
  exact .inr (.inr (.inr (.inr ⟨h1,h2,h3,h4,.inl ⟨n,e⟩⟩)))
theorem AnyT.lt {base:Nat} {w:World} {u:Value} {x:V} (h:AnyT base w u x):∀ k∈ib u,base≤k∧k<w.heap.size:=by
 rcases h with h | ⟨_,_,_,_,n,rfl⟩
 ·exact h.lt
 ·intro k hk;simp [ib,ob,Value.ownBlock] at hk
theorem AnyT.base {base base':Nat} {w:World} {u:Value} {x:V} (h:AnyT base w u x) (hb:base'≤base):AnyT base' w u x:=by
 rcases h with h | h
 ·exact .inl (h.base hb)
 ·exact .inr h
theorem AnyT.at {base:Nat} {w w':World} {u:Value} {x:V} (h:AnyT base w u x) (hs:∀ k∈ib u,w'.heap[k]? = w.heap[k]?):AnyT base w' u x:=by
 rcases h with h | h
 ·exact .inl (h.at hs)
 ·exact .inr h
theorem AnyT.below {base:Nat} {w w':World} {u:Value} {x:V} (h:AnyT base w u x) (hb:Below w.heap.size w w'):AnyT base w' u x :=
 h.at fun k hk=>hb.block k (h.lt k hk).2
theorem AnyT.iface {base:Nat} {w:World} {u:Value} {v:V} (h:AnyT base w u v):∃ t y,u = .iface t y:=by
 rcases h with h | ⟨_,_,_,_,n,rfl⟩
 ·exact h.iface
 ·exact ⟨_,_,rfl⟩
def Outs3 (base:Nat) (w:World) (v:Value) (l:List V):Prop :=
 ∃ xs,w.ownsRow base 20 1 v l.length xs∧∀ (j:Nat) (x:V),l[j]? = some x→∃ u,xs[j]? = some u∧AnyT base w u x∧∀ k∈ib u,k∉ob v
theorem Outs3.nil (base:Nat) (w:World):Outs3 base w (.slice none 0 0) []:=⟨[],World.ownsRow_nil _ _ _ _,fun j x h=>by simp at h⟩
theorem Outs3.below {base:Nat} {w w':World} {v:Value} {l:List V} (h:Outs3 base w v l) (hb:Below w.heap.size w w'):Outs3 base w' v l:=by
 obtain ⟨xs,ho,hx⟩:=h;refine ⟨xs,ownsRow_below ho hb,fun j x hj => ?_⟩;obtain ⟨u,h1,h2,h3⟩:=hx j x hj;exact ⟨u,h1,h2.below hb,h3⟩
theorem Outs3.snoc {base:Nat} {w w1:World} {v v1 u:Value} {l:List V} {x:V} {xs:List Value} (hx:∀ (j:Nat) (y:V),l[j]? = some y→∃ z,xs[j]? = some z∧AnyT base w z y∧∀ k∈ib z,k∉ob v)
  (hn:xs.length=l.length) (hu:AnyT base w u x) (hd:∀ k∈ib u,k∉ob v) (ho1:w1.ownsRow base 20 1 v1 (l.length+1) (xs ++ [u])) (hg:w.grownBy w1 v.ownBlock) (hs:SameOrNew w v v1):Outs3 base w1 v1 (l ++ [x]):=by
 have key:∀ {z y},AnyT base w z y→(∀ k∈ib z,k∉ob v)→AnyT base w1 z y∧∀ k∈ib z,k∉ob v1:=by
  intro z y hz hk;refine ⟨hz.at fun k h=>hg.block k (hz.lt k h).2 (fun e=>hk k h (by simp [ob,← e])),fun k h hm => ?_⟩
  rcases (Chg.of_grown hg hs).2 k hm with h1 | h1
  ·exact hk k h h1
  ·have:=(hz.lt k h).2;omega
 refine ⟨xs ++ [u],by simpa using ho1,fun j y hj => ?_⟩
 rcases Nat.lt_trichotomy j l.length with h | h | h
 ·rw [List.getElem?_append_left h] at hj
  obtain ⟨z,h1,h2,h3⟩:=hx j y hj;obtain ⟨k1,k2⟩:=key h2 h3;exact ⟨z,by rw [List.getElem?_append_left (by omega)];exact h1,k1,k2⟩
 ·subst h
  rw [List.getElem?_append_right (Nat.le_refl _),Nat.sub_self] at hj;obtain rfl:x=y:=by simpa using hj
  obtain ⟨k1,k2⟩:=key hu hd;exact ⟨u,by rw [List.getElem?_append_right (by omega),hn,Nat.sub_self];rfl,k1,k2⟩
 ·rw [List.getElem?_eq_none (by simp;omega)] at hj
  cases hj
def RVs (w:World) (ao:Option Addr) (n cap:Nat) (l:List V):Prop :=
 l.length=n∧n≤cap∧cap≤maxLen∧(ao=none→cap=0)∧∀ j x,l[j]? = some x→x.Ok∧∃ b off sl,ao=some ⟨b,off,none⟩∧b<w.heap.size∧w.rangeAt b (off+j * 260) (rC x sl)∧Rd w 1 sl x.b.length (bV x.b)
theorem rangeAt_below {w w':World} {b o:Nat} {cs:List Value} (h:w.rangeAt b o cs) (hl:b<w.heap.size) (hb:Below w.heap.size w w'):w'.rangeAt b o cs :=
 fun j u hj=>(hb.cell (p:=⟨b,o+j,none⟩) hl).trans (h j u hj)
theorem RVs.below {w w':World} {ao:Option Addr} {n cap:Nat} {l:List V} (h:RVs w ao n cap l) (hb:Below w.heap.size w w'):RVs w' ao n cap l:=by
 obtain ⟨h1,h2,h3,h4,h5⟩:=h;refine ⟨h1,h2,h3,h4,fun j x hj => ?_⟩;obtain ⟨ok,b,off,sl,e,hl,hr,hd⟩:=h5 j x hj;exact ⟨ok,b,off,sl,e,Nat.lt_of_lt_of_le hl hb.size,rangeAt_below hr hl hb,hd.below hb⟩
theorem letter_ne {c k:UInt8} (h:c≠k):((c.toNat:Int) == (k.toNat:Int))=false:=by
 rw [beq_eq_false_iff_ne];intro e;exact h (byteI.1 e)
end Go.Proofs.YthkmihedkddnmaaGreat
namespace Go.Proofs.YthkmihedkddnmaaGreat
open Lib (hid)
open Go.RowKit
open Wire
theorem infoRV:(Tryz.prog.info? 128).map (·.size)=some 260:=by kernel_rfl
def SameV (x y:V):Prop:=x.letter=y.letter∧(x.letter=56∧x.n=y.n∨x.letter=63∧x.yes=y.yes∨x.letter=42∧x.b=y.b∨x.letter=35∧x.x=y.x)
end Go.Proofs.YthkmihedkddnmaaGreat
namespace Go.Proofs.YthkmihedkddnmaaGreat.Wire
open Lib (hid)
theorem low_take (b:List UInt8) (k:Nat) (h:k≤b.length):low (sum (b.take k)) k=b.take k:=by
 have e:(b.take k).length=k:=by rw [List.length_take];omega
 have:=low_sum (b.take k)
 rwa [e] at this
def ucode (s b:List UInt8):Int:=if may s then (if (unpack s b).isSome then 0 else 4) else 2
def ulen (s b:List UInt8):Nat:=if may s then (match unpack s b with | some (_,k)=>k | none=>0) else 0
def uvals (s b:List UInt8):List V:=if may s then (match unpack s b with | some (l,_)=>l | none=>[]) else []
end Go.Proofs.YthkmihedkddnmaaGreat.Wire
namespace Go.Proofs.YthkmihedkddnmaaGreat
open Lib (hid)
open Go.RowKit
open Wire
end Go.Proofs.YthkmihedkddnmaaGreat
namespace Go.Proofs.YthkmihedkddnmaaGreat.Wire
open Lib (hid)
theorem wid_num {c:UInt8} (h:isNum c=true):1≤wid c∧wid c≤8:=by
 simp only [isNum,Bool.or_eq_true,beq_iff_eq] at h
 rcases h with ((rfl | rfl) | rfl) | rfl <;> decide
def SameVs (l' l:List V):Prop:=l'.length=l.length∧∀ (j:Nat) (x y:V),l'[j]? = some x→l[j]? = some y→SameV x y
theorem SameVs.cons {x y:V} {l' l:List V} (h:SameV x y) (hs:SameVs l' l):SameVs (x :: l') (y :: l):=by
 refine ⟨by simp [hs.1],fun j a b ha hb => ?_⟩
 cases j with
 | zero=>simp at ha hb;subst ha;subst hb;exact h
 | succ j=>exact hs.2 j a b (by simpa using ha) (by simpa using hb)
end Go.Proofs.YthkmihedkddnmaaGreat.Wire
namespace Go.Proofs.YthkmihedkddnmaaGreat
open Lib (hid)
open Go.RowKit
open Wire
def pcode (s:List UInt8) (l:List V):Int:=if (pack s l).isSome then 0 else 2
end Go.Proofs.YthkmihedkddnmaaGreat
