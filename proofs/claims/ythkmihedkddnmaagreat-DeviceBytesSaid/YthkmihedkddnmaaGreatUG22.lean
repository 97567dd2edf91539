import Derived.Shelf.SlIterI.Nil
import Derived.Shelf.SortM.Plain
import Derived.Shelf.SortM.SortNone
import Derived.Test.YthkmihedkddnmaaGreatUG21
import Derived.Test.YthkmihedkddnmaaGreatUG2
import Derived.Test.YthkmihedkddnmaaGreatUG18
set_option linter.unusedVariables false
set_option linter.unusedSimpArgs false
set_option maxHeartbeats 6400000
set_option maxRecDepth 100000
namespace Go.Proofs.YthkmihedkddnmaaGreat
open Go.RowKit Go.Maps Go.Sort Go.Shelf Wire Cmd
def keysI_ren:Go.Shelf.Ren:=⟨fun | 7=>39 | 10=>69 | n=>n,fun | 23=>82 | 26=>3 | 3=>50 | 28=>88 | 0=>0 | 27=>87 | 33=>131 | 4=>4 | n=>n,fun | n=>n⟩
theorem keysI:Go.Proofs.SlLaysZI.n7 Tryz.prog keysI_ren:={
 mixed:=by kernel_rfl
 f7:=⟨Tryz.f39.name,by decide,Tryz.func39.trans (congrArg some (by kernel_rfl))⟩
 f10:=⟨Tryz.f69.name,by decide,Tryz.func69.trans (congrArg some (by kernel_rfl))⟩
 t0:=Tryz.underlying0
 a0:=Tryz.isAgg0
 z0:=Tryz.sizeOf0
 v0:=Tryz.zeroValue0
 t4:=Tryz.underlying4
 a4:=Tryz.isAgg4
 z4:=Tryz.sizeOf4
 v4:=Tryz.zeroValue4
 t23:=Tryz.underlying82
 a23:=Tryz.isAgg82
 z23:=Tryz.sizeOf82
 v23:=Tryz.zeroValue82
 t26:=Tryz.underlying3
 a26:=Tryz.isAgg3
 z26:=Tryz.sizeOf3
 v26:=Tryz.zeroValue3
 t27:=Tryz.underlying87
 a27:=Tryz.isAgg87
 z27:=Tryz.sizeOf87
 v27:=Tryz.zeroValue87
 t28:=Tryz.underlying88
 a28:=Tryz.isAgg88
 z28:=Tryz.sizeOf88
 v28:=Tryz.zeroValue88
 t33:=Tryz.underlying131
 a33:=Tryz.isAgg131
 z33:=Tryz.sizeOf131
 v33:=Tryz.zeroValue131 }
def sortedI_ren:Go.Shelf.Ren:=⟨fun | 6=>38 | 8=>67 | 9=>68 | 11=>94 | 13=>96 | 12=>95 | 23=>122 | 24=>123 | 14=>113 | 15=>114 | 16=>115 | 17=>116 | 18=>117 | 19=>118 | 20=>119 | 21=>120 | 22=>121 | 25=>139 | 26=>140 | 27=>141 | 28=>142 | 29=>143 | 30=>144 | 31=>155 | n=>n,fun | 26=>3 | 28=>88 | 24=>44 | 0=>0 | 3=>3 | 37=>163 | 48=>189 | 50=>38 | 4=>4 | 40=>182 | 39=>181 | 45=>42 | 5=>5 | 9=>9 | 51=>201 | 55=>205 | 57=>215 | 58=>216 | 33=>131 | n=>n,fun | n=>n⟩
theorem sortedI:Go.Proofs.SlLaysZI.n6 Tryz.prog sortedI_ren:={
 mixed:=by kernel_rfl
 f6:=⟨Tryz.f38.name,by decide,Tryz.func38.trans (congrArg some (by kernel_rfl))⟩
 f8:=⟨Tryz.f67.name,by decide,Tryz.func67.trans (congrArg some (by kernel_rfl))⟩
 f11:=⟨Tryz.f94.name,by decide,Tryz.func94.trans (congrArg some (by kernel_rfl))⟩
 t0:=Tryz.underlying0
 a0:=Tryz.isAgg0
 z0:=Tryz.sizeOf0
 v0:=Tryz.zeroValue0
 t24:=Tryz.underlying44
 a24:=Tryz.isAgg44
 z24:=Tryz.sizeOf44
 v24:=Tryz.zeroValue44
 t26:=Tryz.underlying3
 a26:=Tryz.isAgg3
 z26:=Tryz.sizeOf3
 v26:=Tryz.zeroValue3
 t28:=Tryz.underlying88
 a28:=Tryz.isAgg88
 z28:=Tryz.sizeOf88
 v28:=Tryz.zeroValue88
 i26:=by kernel_rfl }
def sortI_ren:Go.Shelf.Ren:=⟨fun | 5=>68 | 8=>96 | 7=>95 | 19=>122 | 20=>123 | 10=>113 | 11=>114 | 12=>115 | 13=>116 | 14=>117 | 15=>118 | 16=>119 | 17=>120 | 18=>121 | 30=>139 | 31=>140 | 32=>141 | 33=>142 | 34=>143 | 35=>144 | 40=>155 | n=>n,fun | 23=>44 | 25=>3 | 3=>3 | 32=>163 | 22=>44 | 0=>0 | 44=>189 | 46=>38 | 4=>4 | 36=>182 | 35=>181 | 41=>42 | 5=>5 | 9=>9 | 53=>201 | 57=>205 | 63=>215 | 64=>216 | n=>n,fun | n=>n⟩
theorem sortI:Go.Proofs.SlLaysM.n5 Tryz.prog sortI_ren:={
 mixed:=by kernel_rfl
 f5:=⟨Tryz.f68.name,by decide,Tryz.func68.trans (congrArg some (by kernel_rfl))⟩
 f7:=⟨Tryz.f95.name,by decide,Tryz.func95.trans (congrArg some (by kernel_rfl))⟩
 f8:=Tryz.func96.trans (congrArg some (by kernel_rfl))
 f10:=⟨Tryz.f113.name,by decide,Tryz.func113.trans (congrArg some (by kernel_rfl))⟩
 f11:=⟨Tryz.f114.name,by decide,Tryz.func114.trans (congrArg some (by kernel_rfl))⟩
 f12:=⟨Tryz.f115.name,by decide,Tryz.func115.trans (congrArg some (by kernel_rfl))⟩
 f13:=⟨Tryz.f116.name,by decide,Tryz.func116.trans (congrArg some (by kernel_rfl))⟩
 f14:=⟨Tryz.f117.name,by decide,Tryz.func117.trans (congrArg some (by kernel_rfl))⟩
 f15:=⟨Tryz.f118.name,by decide,Tryz.func118.trans (congrArg some (by kernel_rfl))⟩
 f16:=⟨Tryz.f119.name,by decide,Tryz.func119.trans (congrArg some (by kernel_rfl))⟩
 f17:=⟨Tryz.f120.name,by decide,Tryz.func120.trans (congrArg some (by kernel_rfl))⟩
 f18:=⟨Tryz.f121.name,by decide,Tryz.func121.trans (congrArg some (by kernel_rfl))⟩
 f19:=Tryz.func122.trans (congrArg some (by kernel_rfl))
 f20:=Tryz.func123.trans (congrArg some (by kernel_rfl))
 f30:=⟨Tryz.f139.name,by decide,Tryz.func139.trans (congrArg some (by kernel_rfl))⟩
 f31:=Tryz.func140.trans (congrArg some (by kernel_rfl))
 f32:=Tryz.func141.trans (congrArg some (by kernel_rfl))
 f33:=⟨Tryz.f142.name,by decide,Tryz.func142.trans (congrArg some (by kernel_rfl))⟩
 f34:=⟨Tryz.f143.name,by decide,Tryz.func143.trans (congrArg some (by kernel_rfl))⟩
 f35:=⟨Tryz.f144.name,by decide,Tryz.func144.trans (congrArg some (by kernel_rfl))⟩
 f40:=⟨Tryz.f155.name,by decide,Tryz.func155.trans (congrArg some (by kernel_rfl))⟩
 t0:=Tryz.underlying0
 a0:=Tryz.isAgg0
 z0:=Tryz.sizeOf0
 v0:=Tryz.zeroValue0
 t3:=Tryz.underlying3
 a3:=Tryz.isAgg3
 z3:=Tryz.sizeOf3
 v3:=Tryz.zeroValue3
 t4:=Tryz.underlying4
 a4:=Tryz.isAgg4
 z4:=Tryz.sizeOf4
 v4:=Tryz.zeroValue4
 t5:=Tryz.underlying5
 a5:=Tryz.isAgg5
 z5:=Tryz.sizeOf5
 v5:=Tryz.zeroValue5
 t9:=Tryz.underlying9
 a9:=Tryz.isAgg9
 z9:=Tryz.sizeOf9
 v9:=Tryz.zeroValue9
 t22:=Tryz.underlying44
 a22:=Tryz.isAgg44
 z22:=Tryz.sizeOf44
 v22:=Tryz.zeroValue44
 t23:=Tryz.underlying44
 a23:=Tryz.isAgg44
 z23:=Tryz.sizeOf44
 v23:=Tryz.zeroValue44
 t25:=Tryz.underlying3
 a25:=Tryz.isAgg3
 z25:=Tryz.sizeOf3
 v25:=Tryz.zeroValue3
 t32:=Tryz.underlying163
 a32:=Tryz.isAgg163
 z32:=Tryz.sizeOf163
 v32:=Tryz.zeroValue163
 t35:=Tryz.underlying181
 a35:=Tryz.isAgg181
 z35:=Tryz.sizeOf181
 v35:=Tryz.zeroValue181
 t36:=Tryz.underlying182
 a36:=Tryz.isAgg182
 z36:=Tryz.sizeOf182
 v36:=Tryz.zeroValue182
 t41:=Tryz.underlying42
 a41:=Tryz.isAgg42
 z41:=Tryz.sizeOf42
 v41:=Tryz.zeroValue42
 t44:=Tryz.underlying189
 a44:=Tryz.isAgg189
 z44:=Tryz.sizeOf189
 v44:=Tryz.zeroValue189
 t46:=Tryz.underlying38
 a46:=Tryz.isAgg38
 z46:=Tryz.sizeOf38
 v46:=Tryz.zeroValue38
 t53:=Tryz.underlying201
 a53:=Tryz.isAgg201
 z53:=Tryz.sizeOf201
 v53:=Tryz.zeroValue201
 t57:=Tryz.underlying205
 a57:=Tryz.isAgg205
 z57:=Tryz.sizeOf205
 v57:=Tryz.zeroValue205
 t63:=Tryz.underlying215
 a63:=Tryz.isAgg215
 z63:=Tryz.sizeOf215
 v63:=Tryz.zeroValue215
 t64:=Tryz.underlying216
 a64:=Tryz.isAgg216
 z64:=Tryz.sizeOf216
 v64:=Tryz.zeroValue216 }
theorem sortsI (m:Nat):AnyZI.SortsIn Tryz.prog sortedI_ren Fence.wide m :=
 ⟨fun blk off cap ss W hH hblk hsz=>callsIn_wide.2 (AnyM.slices_Sort_int sortI blk off cap ss W hH hblk hsz),
  fun p cap W=>callsIn_wide.2 (AnyM.slices_Sort_int_none sortI p cap W)⟩
theorem keysB_any (mb:Option Nat) (W:World):Calls Tryz.prog 39 #[.map mb] W fun e w'=>e = .returned (.func (.func 69) #[] #[.pointer (some ⟨W.heap.size,0,none⟩)])∧w'=W.alloc (.cells #[.map mb] 82) :=
 (callsIn_wide (n:=5)).1 (AnyZI.keys_in keysI Fence.wide 5 trivial rfl mb W)
theorem keys_enc (l:List (Nat × List UInt8)):intKeys (encM .i64 blkD l)=l.map fun p=>(p.1:Int):=by
 unfold encM encA intKeys;simp only [List.map_map]
 rfl
theorem ris_sorted {l:List (Nat × List UInt8)} (h:Ris l) {ss:List Int} (hp:ss.Perm (intKeys (encM .i64 blkD l))):ss.mergeSort (fun x y=>decide (x≤y))=l.map fun p=>(p.1:Int):=by
 rw [keys_enc] at hp;have h1:ss.mergeSort leI=(l.map fun p=>(p.1:Int)).mergeSort leI:=mergeSort_of_perm_i hp;refine h1.trans (List.mergeSort_of_pairwise ?_);refine List.pairwise_map.2 (h.imp fun {a b} hab => ?_);simp only [leI,decide_eq_true_eq];omega
theorem sortedB_any (b:Nat) (m:List (Nat × List UInt8)) (w:World) (h:MapL w Tryz.prog 3 RBlk .i64 blkD b m) (hr:Ris m) (hl:m.length≤1000000) :
  Calls Tryz.prog 38 #[.func (.func 69) #[] #[.pointer (some ⟨w.heap.size,0,none⟩)]] (w.alloc (.cells #[.map (some b)] 82)) fun e w' =>
   ∃ v,e = .returned v∧w'.ownsRow w.heap.size 3 1 v m.length (m.map fun p=>.int .i64 (p.1:Int))∧(v = .slice none 0 0 ↔ m=[])∧Below w.heap.size w w':=by
 have hbl:=h.lt;have hsz:Maps.size (encM .i64 blkD m)=m.length:=size_enc _ _ _;have hseq:SeqGives Fence.wide 2 Tryz.prog 69 #[.pointer (some ⟨w.heap.size,0,none⟩)] encZ (fun ss=>ss.Perm (intKeys (encM .i64 blkD m))) (Maps.size (encM .i64 blkD m)) (w.alloc (.cells #[.map (some b)] 82)) :=
  AnyZI.keys_gives (ρ:=keysI_ren) { keysI with } Fence.wide _ trivial rfl (by omega) w.heap.size b m.length _ _ (by simp) (by simp) (by
   obtain ⟨es,clock,hb,Ft,hs,hD⟩:=h;exact ⟨es,clock,(Below.heap_alloc _ _ b hbl).trans hb,Ft,hs,hD⟩)
 have cS:=AnyZI.sorted_in sortedI Fence.wide 5 trivial trivial trivial trivial rfl (by omega) (sortsI _) (enters_of Tryz.func68 (by kernel_rfl) rfl) 69 #[.pointer (some ⟨w.heap.size,0,none⟩)] trivial (enters_of Tryz.func69 (by kernel_rfl) rfl) _ _ (by rw [hsz];unfold maxLen;omega) (by rw [hsz];omega) _ hseq;change CallsIn _ _ Tryz.prog 38 _ _ _ at cS;refine (callsIn_wide.1 cS).mono ?_;rintro e w' ⟨v,ss,rfl,hS,hrow,hnil,hb⟩;have e1:=ris_sorted hr hS;have e2:ss.length=m.length:=by
  have:=hS.length_eq;rw [keys_enc,List.length_map] at this;exact this
 rw [e1,e2] at hrow;refine ⟨v,rfl,?_,?_,((Below.refl _ w).alloc (Nat.le_refl _) _).trans (hb.mono (by simp))⟩
 ·have:=ownsRow_base_a hrow (show w.heap.size≤_ by simp)
  rw [List.map_map] at this;exact this
 ·rw [hnil]
  constructor
  ·rintro rfl
   exact List.eq_nil_of_length_eq_zero (by simpa using e2.symm)
  ·rintro rfl
   exact List.eq_nil_of_length_eq_zero (by simpa using e2)
theorem dmapped_in (n0:Nat) (w:World) (B Ba:Nat) (l:List (Nat × (Vl × Nat))) (h:DevAt n0 w B Ba l) (n:Nat) (hn:n<18446744073709551616) (x:Vl × Nat) (hg:getA n l=some x) :
  Calls Tryz.prog 16 #[.pointer (some ⟨B,0,none⟩),.int .u64 (n:Int)] w fun e w'=>∃ v,e = .returned v∧w'.ownsRow w.heap.size 3 1 v x.1.m.length (x.1.m.map fun p=>.int .i64 (p.1:Int))∧(v = .slice none 0 0 ↔ x.1.m=[])∧Below w.heap.size w w':=by
 have CT:=dthere_any w _ true h.dv;have c0:=h.cell;obtain ⟨hl,_⟩:=h.look hn hg;have hfl:=fldVol;have hvok:x.1.Ok:=h.ok.vol (n,x.1) (by unfold strip mapA;exact List.mem_map.2 ⟨_,getA_some hg,rfl⟩);have CK:=keysB_any (some x.2) w;have hlen:x.1.m.length≤1000000:=by
  have:=ris_len_le 0 hvok.ris (fun q hq=>⟨Nat.zero_le _,hvok.lt q hq⟩);have:=hvok.size;omega
 have CS:=sortedB_any x.2 x.1.m w (h.vol _ (getA_some hg)) hvok.ris hlen;clear h hvok hlen
 go_enter Tryz.func16,Tryz.ntmps16
 go_wp2_with fail;refine CT.mono ?_;rintro e w1 ⟨rfl,rfl⟩;go_wp2_with fail;refine CK.mono ?_;rintro e w1 ⟨rfl,rfl⟩;go_wp2_with fail;refine CS.mono ?_;rintro e w2 ⟨v,rfl,h1,h2,h3⟩;go_wp2_with fail;go_ret;exact ⟨v,rfl,h1,h2,h3⟩
end Go.Proofs.YthkmihedkddnmaaGreat
namespace Go.Proofs.YthkmihedkddnmaaGreat
open Lib (hid)
open Go.RowKit Go.Maps Go.Shelf Wire Cmd
attribute [local go_sem] Oper.semAt_some
structure KpD (F:List Nat) (W W':World):Prop where
 f:KpF (fun _ k=>k∈F) W W'
 w:KeepsWalks W W'
theorem KpD.refl (F:List Nat) (W:World):KpD F W W:=⟨KpF.refl _ _,KeepsWalks.refl _⟩
theorem KpD.trans {F:List Nat} {A B C:World} (h:KpD F A B) (k:KpD F B C):KpD F A C:=⟨h.f.trans k.f,h.w.trans k.w⟩
theorem KpD.put {F:List Nat} {w:World} (W:World) (l:Nat) (o o':Obj) (hl:w.heap.size≤l) (h:W.heap[l]? = some o) (hc:o.isCells=false) (hw:o.isWalk=false):KpD F W (W.putObj l o') :=
 ⟨KpF.put (w:=w) (fun _ _ _ _ _ _ _ _ h=>h) W l o o' hl h hc hw,KeepsWalks.putObj _ h hw⟩
theorem KpD.below {F:List Nat} {W W':World} (hb:Below W.heap.size W W'):KpD F W W' :=
 ⟨⟨hb.size,fun g k hk=>Nat.lt_of_lt_of_le (g k hk) hb.size,fun k hk _ o ho _=>(hb.block k hk).trans ho,fun _ _ h=>h⟩,
  ⟨hb.size,fun k o ho _=>(hb.block k (hLT ho)).trans ho⟩⟩
theorem KpD.cells {F:List Nat} {W W':World} (h:KpD F W W') {b:Nat} {cs:Array Value} {t:TypeId} {fr:Nat × Nat} (hb:W.heap[b]? = some (.cells cs t fr)) (hF:b∉F):W'.heap[b]? = some (.cells cs t fr) :=
 h.f.keeps b (hLT hb) hF _ hb rfl
theorem KpD.mapL {α:Type} {P:Program} {k:TypeId} {R:Value→Option (DataW Unit × List MemPlace)} {q:IntKind} {f:α→DataW Unit} {b:Nat} {l:List (Nat × α)} {F:List Nat} {W W':World} (h:KpD F W W') (hm:MapL W P k R q f b l):MapL W' P k R q f b l:=by
 obtain ⟨es,clock,hb⟩:=hm.isMap;exact hm.at_ ((h.w.same b _ hb rfl).trans hb.symm)
theorem DevAt.kp {n0:Nat} {w w':World} {B Ba:Nat} {l:List (Nat × (Vl × Nat))} {F:List Nat} (h:DevAt n0 w B Ba l) (k:KpD F w w') (hB:B∉F):DevAt n0 w' B Ba l :=
 ⟨k.cells h.box hB,k.mapL h.all,fun p hp=>k.mapL (h.vol p hp),h.ok,h.ge,h.ne,h.apart⟩
theorem below_grown {w w':World} (hb:Below w.heap.size w w'):w.grownBy w' none:=⟨hb.os,hb.tape,hb.output,hb.size,fun k hk _=>hb.block k hk⟩
theorem row_cell {w:World} {base:Nat} {e:TypeId} {v:Value} {k:Nat} {xs:List Value} (h:w.ownsRow base e 1 v k xs) {i:Nat} {x:Value} (hx:xs[i]? = some x) :
  ∃ g cap cur,v = .slice (some ⟨g,0,none⟩) k cap∧base≤g∧w.heap[g]? = some (.cells cur e (0,0))∧cur[i]? = some x∧k≤cap∧i<k:=by
 have hi:i<xs.length:=(List.getElem?_eq_some_iff.1 hx).1;have hk:xs.length=k:=by have:=h.1;omega
 rcases h.2 with ⟨rfl,h0⟩ | ⟨g,cap,cur,rfl,hbase,hgb,r1,r2,r3,r4⟩
 ·omega
 ·refine ⟨g,cap,cur,rfl,hbase,hgb,?_,r1,by omega⟩
  rw [← r4,List.getElem?_take_of_lt (by omega),Array.getElem?_toList] at hx;exact hx
theorem row_slice {w:World} {base:Nat} {e:TypeId} {size:Nat} {v:Value} {k:Nat} {xs:List Value} (h:w.ownsRow base e size v k xs):∃ a c,v = .slice a k c:=by
 rcases h.2 with ⟨rfl,h0⟩ | ⟨g,cap,cur,rfl,_⟩
 ·exact ⟨none,0,by rw [h0]⟩
 ·exact ⟨_,_,rfl⟩
def spotsV (p:Nat × Vl):List (Nat × (Nat × List UInt8)):=p.2.m.map fun q=>(p.1,q)
def spotsL (l:List (Nat × Vl)):List (Nat × (Nat × List UInt8)):=l.flatMap spotsV
def spotI (l:List (Nat × Vl)) (i:Nat):Nat × (Nat × List UInt8):=(spotsL l)[i]?.getD (0,(0,zeroB))
def spotA (x:Nat × (Nat × List UInt8)):Array Value:=#[.agg #[.int .u64 (x.1:Int),.int .i64 (x.2.1:Int)],bA x.2.2]
theorem spots_take {l:List (Nat × Vl)} {j:Nat} {p:Nat × Vl} (h:l[j]? = some p):spotsL (l.take (j+1))=spotsL (l.take j) ++ spotsV p:=by
 unfold spotsL;rw [List.take_add_one,h,List.flatMap_append]
 simp
theorem spots_take_le {l:List (Nat × Vl)} {j:Nat}:spotsL (l.take j) <+: spotsL l:=by
 refine ⟨spotsL (l.drop j),?_⟩;unfold spotsL;rw [← List.flatMap_append,List.take_append_drop]
theorem spots_get {l:List (Nat × Vl)} {j t:Nat} {p:Nat × Vl} {q:Nat × List UInt8} (h:l[j]? = some p) (hq:p.2.m[t]? = some q):(spotsL l)[(spotsL (l.take j)).length+t]? = some (p.1,q):=by
 have h1:spotsL (l.take (j+1)) <+: spotsL l:=spots_take_le;obtain ⟨r,hr⟩:=h1;rw [← hr,spots_take h,List.append_assoc,List.getElem?_append_right (by omega),Nat.add_sub_cancel_left,List.getElem?_append_left]
 ·unfold spotsV
  simp [hq]
 ·unfold spotsV
  rw [List.length_map];exact (List.getElem?_eq_some_iff.1 hq).1
theorem all_stops (n:Nat) (hn:1≤n) (Bx n0 B Ba:Nat) (l:List (Nat × (Vl × Nat))) (F:List Nat) (w:World) (hbx:w.heap[Bx]? = some (.cells #[.pointer (some ⟨B,0,none⟩)] 25 (0,0))) (h:DevAt n0 w B Ba l)
  (hl:l.length≤1000000) (hFx:Bx∉F) (hFB:B∉F) (hFs:∀ k∈F,k<w.heap.size) :
  SeqStopsK Fence.wide n Tryz.prog 55 #[.pointer (some ⟨Bx,0,none⟩)] (fun i=>spotA (spotI (strip l) i)) (KpD F) (fun ys=>ys=List.range (spotsL (strip l)).length) (fun pre=>pre <+: List.range (spotsL (strip l)).length) (spotsL (strip l)).length w:=by
 intro ly J Jx W hW hJ hJx hY h0;have hro:Fence.wide.round=none:=rfl;have hbx2:=(hW.block Bx (hLT hbx)).trans hbx;have hd:=h.below hW;have hFs2:∀ k∈F,k<W.heap.size:=fun k hk=>Nat.lt_of_lt_of_le (hFs k hk) hW.size;have CV:=dvolumes_at n0 W B Ba l hd hl;have c0:=cellOf hbx2 0 (v:=.pointer (some ⟨B,0,none⟩)) rfl;have HBX:=hid hbx2;have HD:=hid hd;have HFS:=hid hFs2;have HJ:=hid hJ;have H0:=hid h0;have HY:=hid hY;have HFX:=hid hFx;have HFB:=hid hFB;clear hbx hbx2 hd hFs hFs2 h hW hJ h0 hJx hY hFx hFB
 refine callsIn_of_wp Tryz.func55 rfl trivial ?_ hro;simp only [Tryz.ntmps55,List.size_toArray,List.length_cons,List.length_nil,Nat.reduceAdd,Nat.reduceSub,Array.replicate_succ,Array.replicate_zero,List.push_toArray,List.append_toArray,List.nil_append,List.cons_append]
 gi_wp2_with (refine ⟨trivial,?_⟩;gi_at_call 26;refine (callsIn_wide.2 CV).mono ?_;rintro e w1 ⟨v,rfl,hrow,hb⟩;obtain ⟨av,cv,rfl⟩:=row_slice hrow)
 have HROW:=hid hrow;have HB:=hid hb;have HJ1:Hid (J [] w1):=hid (HJ.out [] W w1 none H0.out (below_grown hb) (fun r e=>by cases e));clear CV c0 hrow hb
 gi_loopw [10] (fun d wr=>∃ j:Nat,j≤l.length∧d = .int .i64 (j:Int)∧J (List.range (spotsL ((strip l).take j)).length) wr∧KpD F w1 wr) (fun d _=>l.length - (Go.Proofs.intOf d).toNat)
 case atStart=>exact ⟨0,Nat.zero_le _,rfl,by simpa [spotsL] using HJ1.out,KpD.refl _ _⟩
 case round =>
  obtain ⟨j,hj,rfl,hjs,hkp⟩:=hrel;have HJS:=hid hjs;have HKP:=hid hkp;clear hjs hkp
  by_cases hlt:j<l.length
  ·obtain ⟨p,hp⟩:∃ p,l[j]? = some p:=⟨_,List.getElem?_eq_getElem hlt⟩
   have hps:(strip l)[j]? = some (p.1,p.2.1):=by unfold strip mapA;simp [hp]
   obtain ⟨g,cap,cur,ev,hg,hgb,hcur,hcap,_⟩:=row_cell HROW.out (i:=j) (x:=.int .u64 (p.1:Int)) (by simp [hp]);obtain ⟨rfl,_,rfl⟩:=Value.slice.inj ev;have hgb2:=HKP.out.cells hgb (fun hh=>by have:=HFS.out g hh;omega);have cg:=cellOf hgb2 j hcur;have hbx3:=HKP.out.cells ((HB.out.block Bx (hLT HBX.out)).trans HBX.out) HFX.out;have hd3:=(HD.out.below HB.out).kp HKP.out HFB.out;have hgp:getA p.1 l=some p.2:=getA_at ((ris_map (fun x:Vl × Nat=>x.1)).1 HD.out.ok.ris) hp
   have hpn:p.1<18446744073709551616:=Nat.lt_trans (HD.out.ok.nat (p.1,p.2.1) (List.mem_of_getElem? hps)).2 (by decide);have CM:=dmapped_in n0 _ B Ba l hd3 p.1 hpn p.2 hgp;have cx:=cellOf hbx3 0 (v:=.pointer (some ⟨B,0,none⟩)) rfl;have HPS:=hid hps;have HGP:=hid hgp;have HPN:=hid hpn;have HD3:=hid hd3;have HBX3:=hid hbx3;have HVOK:=hid (HD.out.ok.vol (p.1,p.2.1) (List.mem_of_getElem? hps));have hjl:(j:Int)<(l.length:Int):=by omega
   have hml:p.2.1.m.length≤1000000:=by
    have h1:=ris_len_le 0 HVOK.out.ris (fun q hq=>⟨Nat.zero_le _,HVOK.out.lt q hq⟩);have h2:p.2.1.size≤256:=HVOK.out.size;dsimp only at h1;omega
   clear hp hps hgb hcur hgb2 hbx3 hd3 hgp hpn ev
   gi_wp2_with (refine ⟨trivial,?_⟩;gi_at_call 16;refine (callsIn_wide.2 CM).mono ?_;rintro e w2 ⟨v2,rfl,hrow2,_,hb2⟩;obtain ⟨a2,c2,rfl⟩:=row_slice hrow2)
   have HROW2:=hid hrow2;have HB2:=hid hb2;have HJ2:=hid (HJ.out _ _ w2 none HJS.out (below_grown hb2) (fun r e=>by cases e));have HKP2:=hid (HKP.out.trans (KpD.below (F:=F) hb2));have HWS:Hid (W.heap.size≤w2.heap.size):=hid (Nat.le_trans (Nat.le_trans HB.out.size HKP.out.f.size) hb2.size);clear CM cx cg hrow2 hb2
   gi_loopw [18] (fun d wr=>∃ t:Nat,t≤p.2.1.m.length∧d = .int .i64 (t:Int)∧J (List.range ((spotsL ((strip l).take j)).length+t)) wr∧KpD F w2 wr) (fun d _=>p.2.1.m.length - (Go.Proofs.intOf d).toNat)
   case atStart=>exact ⟨0,Nat.zero_le _,rfl,by simpa using HJ2.out,KpD.refl _ _⟩
   case round =>
    obtain ⟨t,ht,rfl,hjs,hkp⟩:=hrel;have HJS2:=hid hjs;have HKP3:=hid hkp;clear hjs hkp
    by_cases hlt2:t<p.2.1.m.length
    ·obtain ⟨q,hq⟩:∃ q,p.2.1.m[t]? = some q:=⟨_,List.getElem?_eq_getElem hlt2⟩
     obtain ⟨g2,cap2,cur2,ev2,hg2,hgb2,hcur2,hcap2,_⟩:=row_cell HROW2.out (i:=t) (x:=.int .i64 (q.1:Int)) (by simp [hq]);obtain ⟨rfl,_,rfl⟩:=Value.slice.inj ev2;have hgb3:=HKP3.out.cells hgb2 (fun hh=>by have:=HFS.out g2 hh;have:=HB.out.size;have:=HKP.out.f.size;omega);have cg2:=cellOf hgb3 t hcur2;have hbx4:=(HKP2.out.trans HKP3.out).cells ((HB.out.block Bx (hLT HBX.out)).trans HBX.out) HFX.out;have hd4:=(HD.out.below HB.out).kp (HKP2.out.trans HKP3.out) HFB.out;have cx:=cellOf hbx4 0 (v:=.pointer (some ⟨B,0,none⟩)) rfl;have cB:=hd4.cell
     have hlk:=(hd4.look HPN.out HGP.out).2;have hqs:q.1<256:=by have h1:q.1<p.2.1.size:=HVOK.out.lt q (List.mem_of_getElem? hq);have h2:p.2.1.size≤256:=HVOK.out.size;omega
     have hbk:=(hd4.vol _ (getA_some HGP.out)).blk (n:=q.1) (by omega);have hqb:blkAt p.2.1.m q.1=q.2:=by unfold blkAt;rw [getA_at HVOK.out.ris hq];rfl
     dsimp only at hbk;rw [hqb] at hbk;have hfl:=fldVol;have hsv:=spots_get HPS.out hq;have hlen:=(List.getElem?_eq_some_iff.1 hsv).1;have hit:spotI (strip l) ((spotsL ((strip l).take j)).length+t)=(p.1,q):=by unfold spotI;rw [hsv];rfl
     have HT:Hid (List.range ((spotsL ((strip l).take j)).length+t) ++ [(spotsL ((strip l).take j)).length+t]=List.range ((spotsL ((strip l).take j)).length+(t+1))):=hid (by
      rw [← List.range_succ];rfl)
     have HPF:Hid (List.range ((spotsL ((strip l).take j)).length+(t+1)) <+: List.range (spotsL (strip l)).length):=hid (by
      obtain ⟨r,hr⟩:∃ r,(spotsL (strip l)).length=(spotsL ((strip l).take j)).length+(t+1)+r:=⟨_,(Nat.add_sub_cancel' (by omega)).symm⟩
      rw [hr];exact ⟨_,List.range_add.symm⟩)
     obtain ⟨fn,tmps,assign,body,hy,hR⟩:=HY.out _ ((spotsL ((strip l).take j)).length+t) _ HJS2.out (by rw [List.length_range];exact hlen);rw [hit] at hy;unfold spotA at hy;dsimp only at hy;have htl:(t:Int)<(p.2.1.m.length:Int):=by omega
     clear hq hgb2 hcur2 hgb3 hbx4 hd4 hqb hsv hlen hit ev2 hqs
     gi_wp2
     refine hR.mono ?_;rintro e W3 (⟨rfl,hJ3,hk3⟩ | ⟨rfl,hJx3⟩)
     ·rw [HT.out] at hJ3
      have HJ3:=hid hJ3;have HK3:=hid (HKP3.out.trans hk3);clear hJ3 hk3 hR hy hlk hbk cB cx cg2
      gi_wp2
      go_roundw
      case rel=>exact ⟨t+1,by omega,by go_num,HJ3.out,HK3.out⟩
      case measure=>simp [Go.Proofs.intOf];omega
     ·have HJX:=hid hJx3
      clear hJx3 hR hy hlk hbk cB cx cg2
      gi_wp2
      (try simp only [Exit.inBlock,Exit.then])
      refine bodyPost_ret (results_none rfl _ _ _) rfl ?_;refine ⟨⟨_,rfl⟩,.inr ⟨_,?_,HJX.out⟩⟩;rw [HT.out];exact HPF.out
    ·obtain rfl:t=p.2.1.m.length:=by omega
     gi_wp2
     go_roundw
     case rel =>
      refine ⟨j+1,by omega,by go_num,?_,(HKP2.out.trans HKP3.out)⟩;rw [spots_take HPS.out,List.length_append,show (spotsV (p.1,p.2.1)).length=p.2.1.m.length by unfold spotsV;rw [List.length_map]];exact HJS2.out
     case measure=>simp [Go.Proofs.intOf];omega
  ·obtain rfl:j=l.length:=by omega
   gi_wp2
   go_end0
   refine ⟨⟨_,rfl⟩,.inl ⟨_,rfl,?_⟩⟩;have h1:=HJS.out
   rwa [List.take_of_length_le (by unfold strip mapA;simp)] at h1
theorem dall_at (n0:Nat) (w:World) (B Ba:Nat) (l:List (Nat × (Vl × Nat))) (h:DevAt n0 w B Ba l) :
  Calls Tryz.prog 25 #[.pointer (some ⟨B,0,none⟩)] w fun e w'=>∃ Bx B' Ba' l',e = .returned (.func (.func 55) #[] #[.pointer (some ⟨Bx,0,none⟩)])∧w'.heap[Bx]? = some (.cells #[.pointer (some ⟨B',0,none⟩)] 25 (0,0)) ∧
   DevAt w.heap.size w' B' Ba' l'∧strip l'=strip l∧Below w.heap.size w w'∧w.heap.size≤Bx:=by
 have C:=dcopy_at n0 w B Ba l h;clear h
 go_enter Tryz.func25,Tryz.ntmps25
 go_wp2_with fail;refine C.mono ?_;rintro e w1 ⟨B',Ba',l',rfl,hd,hs,hb⟩;have hs1:=hb.size;go_wp2_with fail;go_ret;exact ⟨w1.heap.size,B',Ba',l',rfl,heap_alloc_new w1 _,hd.below (balloc (Below.refl _ _) _),hs,balloc hb _,hs1⟩
end Go.Proofs.YthkmihedkddnmaaGreat
