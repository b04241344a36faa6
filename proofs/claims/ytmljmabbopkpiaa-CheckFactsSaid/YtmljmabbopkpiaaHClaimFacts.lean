import Derived.Test.YtmljmabbopkpiaaV8
import Derived.Test.YtmljmabbopkpiaaV22
set_option linter.unusedSimpArgs false
set_option linter.unusedVariables false
section
namespace Go.Proofs.Ytmljmabbopkpiaa
open Go.ChangeShapes Go.WideShapes Go.ChangeAt Go.RowKit Go.Deep
theorem checkFacts_walk (xs:List Ins)(hx:∀x∈xs,x.ok)(A:Option Addr)(n cap:Nat)(hn:n≤cap)(hcap:cap≤9223372036854775807)(W:World)(hA:yj_ W W.heap.size 5 A n (insV xs)) :
  Calls Try.prog 16 #[.slice A n cap] W fun e W'=>e=.returned (.bool true)∧Below W.heap.size W W':=by
 have hnl:=hA.ins_len
 subst hnl
 obtain⟨β1,_,R1,d1⟩:=(Vm.start W).handed (A:=A) (n:=xs.length) (cap:=cap) (k:=5) (f:=Vm.prS xs) 1 rfl (by rw[Vm.elems_prS];exact hA) hn Vm.prS_stable (by omega)
 have H:=Vm.facts_lit17 xs cap hx (by omega)
 have:=Vm.law_of_lit17 H R1
 simp only[Vm.denL,d1]at this
 exact this
set_option maxRecDepth 100000 in
set_option maxHeartbeats 1000000 in
theorem checkFacts_lifted (os:Os)(started:os.Started)(H:Type)(enc:TypeId×Value→H) :
  ReturnsInHanded {} Try.checked os 16 .any (Rows.checkFactsSpec.pre6 enc Try.prog Try.f16 Rows.checkFactsRow.domain false) (Rows.checkFactsSpec.post enc Try.prog Try.f16 false true false false):=by
 refine returnsInHanded_of_change (C:=Try.checked) ownKnob_ started (by kernel_rfl) Try.func16
  (ChangeSpec.witness6 (enc:=enc) (C:=Try.checked) false ⟨#[],#[.slice none 0 0],[]⟩ 8 (by kernel_rfl) (by kernel_rfl) (by kernel_rfl) (by kernel_rfl)) ?_
 intro W base args ds gs before hval0 hW _ _
 have hval:∀(j:Nat) t v,Try.f16.params[j]? = some t→args[j]? = some v→Value.okWide Try.prog W .any base t v:=hval0
 have hW':=hW
 obtain⟨p,q,hA0,hV,rfl,hfz,hnd⟩:=hW
 have hA:DataW.TrodAll enc Try.prog W 0 (fun _=>true) true Try.f16.params.toList args.toList ds p:=hA0
 obtain⟨rfl,rfl⟩:=trodVars_none hV
 rw[Try.params16]at hA hval
 obtain⟨v0,vs0,d0,ds0,p0,q0,hargs,rfl,rfl,h0,r0⟩:=trodAll_cons hA
 obtain⟨rfl,rfl,rfl⟩:=trodAll_nil r0
 obtain rfl:args = #[v0]:=by cases args;simp_all
 have hc0:v0.cells.toList=[v0]:=by
  obtain⟨_,_,_,e⟩:=okWide_slice Try.underlying22 (hval 0 22 v0 rfl rfl)
  subst e
  rfl
 obtain⟨fu,g0⟩:=h0
 rw[hc0]at g0
 obtain⟨A,l,c,xs,rfl,b1,b2,b3,b4⟩:=open_small17s g0
 refine(checkFacts_walk xs b3 A l c b1 b2 W b4).mono fun e W' ⟨he,hb⟩=>?_
 subst he
 exact⟨_,rfl,law_post hW' rfl (by kernel_rfl) (by decide +kernel) ⟨rfl,rfl,rfl⟩ hb⟩
theorem checkFacts_over:Rows.checkFactsRow.holds Try.pinned (OpenSpec.ofChange Rows.checkFactsSpec):=
 OpenClaim.holds_of_wide 16 Try.f16 rfl rfl rfl rfl rfl rfl rfl ⟨rfl,rfl,rfl,rfl,rfl⟩ rfl rfl rfl rfl rfl (by kernel_rfl) Try.func16 (by kernel_rfl)
  (of_decide_eq_true (by kernel_rfl)) (by unfold Func.isWrapper;first |(rw[if_pos (by decide +kernel)];kernel_rfl) |(rw[if_neg (by decide +kernel)];exact⟨rfl,rfl⟩))
  (fun os started H enc _=>checkFacts_lifted os started H enc)
theorem checkFacts_proved:Rows.CheckFactsSaid:=checkFacts_over
end Go.Proofs.Ytmljmabbopkpiaa
end
