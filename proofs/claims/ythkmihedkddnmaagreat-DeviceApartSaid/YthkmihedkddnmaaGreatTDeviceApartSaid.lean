/- DeviceApart: the law returns true for every input that its row admits; nothing that was there has changed. No condition. -/
import Derived.Test.YthkmihedkddnmaaGreatTG0
import Derived.Test.YthkmihedkddnmaaGreatTG19
import Derived.Test.YthkmihedkddnmaaGreatTG39
set_option linter.unusedVariables false
set_option linter.unusedSimpArgs false
namespace Go.Proofs.YthkmihedkddnmaaGreat.deviceApart
open Go.ChangeShapes Go.WideShapes Go.ChangeAt Go.RowKit
set_option maxRecDepth 100000 in
theorem lifted (os:Os) (started:os.Started) (H:Type) (enc:TypeId × Value→H) :
  ReturnsInHanded {} Tryz.checked os 7 .any (Rows.deviceApartSpec.pre6 enc Tryz.prog Tryz.f7 Rows.deviceApartRow.domain false) (Rows.deviceApartSpec.post enc Tryz.prog Tryz.f7 false true false false):=by
 refine law_lifted started (by kernel_rfl) Tryz.func7 (by kernel_rfl) rfl (by kernel_rfl) Tryz.underlying4
  (ChangeSpec.witness6 (enc:=enc) (C:=Tryz.checked) false ⟨#[],#[.slice none 0 0,.slice none 0 0],[]⟩ 8 (by kernel_rfl) (by kernel_rfl) (by kernel_rfl) (by kernel_rfl)) ?_ ?_
 ·intro W args ds p hA
  rw [Tryz.params7] at hA
  obtain ⟨v0,vs0,d0,ds0,p0,q0,hargs,rfl,rfl,h0,r0⟩:=trodAll_cons hA
  obtain ⟨v1,vs1,d1,ds1,p1,q1,rfl,rfl,rfl,h1,r1⟩:=trodAll_cons r0
  obtain ⟨rfl,rfl,rfl⟩:=trodAll_nil r1
  exact ⟨rfl,rfl,rfl⟩
 ·intro W base args ds p hval hA hsz
  rw [Tryz.params7] at hA hval
  obtain ⟨v0,vs0,d0,ds0,p0,q0,hargs,rfl,rfl,h0,r0⟩:=trodAll_cons hA
  obtain ⟨v1,vs1,d1,ds1,p1,q1,rfl,rfl,rfl,h1,r1⟩:=trodAll_cons r0
  obtain ⟨rfl,rfl,rfl⟩:=trodAll_nil r1
  obtain rfl:args=#[v0,v1]:=by cases args;simp_all
  obtain ⟨ao,n,cap,l,rfl,hs⟩:=open_ops (hval 0 22 v0 rfl rfl) h0
  obtain ⟨bo,m,cap2,l2,rfl,hs2⟩:=open_ops (hval 1 22 v1 rfl rfl) h1
  exact devApart_any ao n cap l bo m cap2 l2 W hs hs2
theorem over:Rows.deviceApartRow.holds Tryz.pinned (OpenSpec.ofChange Rows.deviceApartSpec) :=
 OpenClaim.holds_of_wide 7 Tryz.f7 rfl rfl rfl rfl rfl rfl rfl ⟨rfl,rfl,rfl,rfl,rfl⟩ rfl rfl rfl rfl rfl (by kernel_rfl) Tryz.func7 (by kernel_rfl)
  (of_decide_eq_true (by kernel_rfl)) (by unfold Func.isWrapper;first | (rw [if_pos (by decide +kernel)];kernel_rfl) | (rw [if_neg (by decide +kernel)];exact ⟨rfl,rfl⟩))
  (fun os started H enc _=>lifted os started H enc)
theorem proved:Rows.DeviceApartSaid:=over
#print axioms proved
end Go.Proofs.YthkmihedkddnmaaGreat.deviceApart
