import Derived.Test.YtmljmabbopkpiaaC1
import Derived.Test.YtmljmabbopkpiaaC8
import Derived.Test.YtmljmabbopkpiaaC37
set_option linter.unusedSimpArgs false
set_option linter.unusedVariables false
section
namespace Go.Proofs.Ytmljmabbopkpiaa
open Go.ChangeShapes Go.WideShapes Go.ChangeAt Go.RowKit Go.Deep
theorem checkSmall_walk (W:World):Calls Try.prog 10 #[] W fun e W'=>e=.returned (.bool true)∧Below W.heap.size W W':=by
 have:=Vm.law_of_lit17 Vm.small17_lit (Vm.start W)
 simp only[Vm.denL]at this
 exact this
set_option maxRecDepth 100000 in
set_option maxHeartbeats 1000000 in
theorem checkSmall_lifted (os:Os)(started:os.Started)(H:Type)(enc:TypeId×Value→H) :
  ReturnsInHanded {} Try.checked os 10 .any (Rows.checkSmallSpec.pre6 enc Try.prog Try.f10 Rows.checkSmallRow.domain false) (Rows.checkSmallSpec.post enc Try.prog Try.f10 false true false false):=by
 refine returnsInHanded_of_change (C:=Try.checked) ownKnob_ started (by kernel_rfl) Try.func10
  (ChangeSpec.witness6 (enc:=enc) (C:=Try.checked) false ⟨#[],#[],[]⟩ 8 (by kernel_rfl) (by kernel_rfl) (by kernel_rfl) (by kernel_rfl)) ?_
 intro W base args ds gs before hval0 hW _ _
 have hW':=hW
 obtain⟨p,q,hA0,hV,rfl,hfz,hnd⟩:=hW
 have hA:DataW.TrodAll enc Try.prog W 0 (fun _=>true) true Try.f10.params.toList args.toList ds p:=hA0
 obtain⟨rfl,rfl⟩:=trodVars_none hV
 rw[Try.params10]at hA
 obtain⟨hargs,rfl,rfl⟩:=trodAll_nil hA
 obtain rfl:args = #[]:=Array.ext' hargs
 refine(checkSmall_walk W).mono fun e W' ⟨he,hb⟩=>?_
 subst he
 exact⟨_,rfl,law_post hW' rfl (by kernel_rfl) (by decide +kernel) ⟨rfl,rfl,rfl⟩ hb⟩
theorem checkSmall_over:Rows.checkSmallRow.holds Try.pinned (OpenSpec.ofChange Rows.checkSmallSpec):=
 OpenClaim.holds_of_wide 10 Try.f10 rfl rfl rfl rfl rfl rfl rfl ⟨rfl,rfl,rfl,rfl,rfl⟩ rfl rfl rfl rfl rfl (by kernel_rfl) Try.func10 (by kernel_rfl)
  (of_decide_eq_true (by kernel_rfl)) (by unfold Func.isWrapper;first |(rw[if_pos (by decide +kernel)];kernel_rfl) |(rw[if_neg (by decide +kernel)];exact⟨rfl,rfl⟩))
  (fun os started H enc _=>checkSmall_lifted os started H enc)
theorem checkSmall_proved:Rows.CheckSmallSaid:=checkSmall_over
end Go.Proofs.Ytmljmabbopkpiaa
end
