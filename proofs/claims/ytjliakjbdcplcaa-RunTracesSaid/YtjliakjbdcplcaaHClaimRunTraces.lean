import Derived.Test.YtjliakjbdcplcaaU11
import Derived.Test.YtjliakjbdcplcaaU39
set_option linter.unusedSimpArgs false
set_option linter.unusedVariables false
section
namespace Go.Proofs.Ytjliakjbdcplcaa
open Go.ChangeShapes Go.WideShapes Go.ChangeAt Go.RowKit Go.Deep
theorem runTraces_walk (y:S19)(hy:y.ok)(A:Option Addr)(nl cap:Nat)(hn:nl≤cap)(hcap:cap≤9223372036854775807)(B:Option Addr)(m cap2:Nat)(hm:m≤cap2)(hcap2:cap2≤9223372036854775807)  (W:World)
  (hA:yh_ W W.heap.size 5 A nl (insV y.xs)) (hB:yh_ W W.heap.size 1 B m (int64s y.cs)) :
  Calls Try.prog 11 #[.agg (y.cells (.slice A nl cap) (.slice B m cap2))] W fun e W'=>e=.returned (.bool true)∧Below W.heap.size W W':=by
 have hnl:=hA.ins_len
 have hml:=hB.i64_len
 subst hnl hml
 obtain⟨β1,_,R1,d1⟩:=(Vm.start W).handed (A:=A) (n:=y.xs.length) (cap:=cap) (k:=5) (f:=Vm.prS y.xs) 1 rfl (by rw[Vm.elems_prS];exact hA) hn Vm.prS_stable (by omega)
 obtain⟨β2,a2,R2,d2⟩:=R1.handed (A:=B) (n:=y.cs.length) (cap:=cap2) (k:=1) (f:=Vm.i64S y.cs) 3 rfl (by rw[Vm.elems_i64S];exact hB) hm Vm.i64S_stable (by omega)
 have H:=Vm.traces_lit y.xs y.a y.d y.sn y.time y.source y.value y.fuel y.rg y.cs y.v cap cap2 hy.x (by omega) hm hy.a hy.d hy.sn hy.time hy.source hy.fuel
 have:=Vm.law_of_lit17 H R2
 have e1:(Vm.SV.sl 1 2 [] 5 0 y.xs.length (some cap)).den β2=.slice A y.xs.length cap:=by
  rw[←d1]
  exact(Vm.Stable.den (h:=Vm.hp [.gone,.gone,.ro (.arr y.xs.length 5 (Vm.prS y.xs))]) a2 (by simp[Vm.Stable,Vm.hp,Vm.HB.born])).symm
 have e2:=Vm.den_s19 (β:=β2) y cap cap2
 rw[d2,e1]at e2
 simp only[Vm.denL,e2]at this
 exact this
set_option maxRecDepth 100000 in
set_option maxHeartbeats 1000000 in
theorem runTraces_lifted (os:Os)(started:os.Started)(H:Type)(enc:TypeId×Value→H) :
  ReturnsInHanded {} Try.checked os 11 .any (Rows.runTracesSpec.pre6 enc Try.prog Try.f11 Rows.runTracesRow.domain false) (Rows.runTracesSpec.post enc Try.prog Try.f11 false true false false):=by
 refine returnsInHanded_of_change (C:=Try.checked) ownKnob_ started (by kernel_rfl) Try.func11
  (ChangeSpec.witness6 (enc:=enc) (C:=Try.checked) false ⟨#[],#[Value.agg #[.slice none 0 0,.int .u8 0,.int .i64 0,.int .i64 0,.int .i64 0,.int .i64 0,.int .i64 0,.int .i64 0,.int .i64 0,.int .i64 0,.slice none 0 0,.int .u32 0,.int .u8 0,.int .u64 0,.int .i64 0,.int .i64 0,.int .i64 0,.int .i64 0,.int .u32 0,.int .u8 0,.int .i64 0,.int .u16 0]],[]⟩ 8 (by kernel_rfl) (by kernel_rfl) (by kernel_rfl) (by kernel_rfl)) ?_
 intro W base args ds gs before hval0 hW _ _
 have hval:∀(j:Nat) t v,Try.f11.params[j]? = some t→args[j]? = some v→Value.okWide Try.prog W .any base t v:=hval0
 have hW':=hW
 obtain⟨p,q,hA0,hV,rfl,hfz,hnd⟩:=hW
 have hA:DataW.TrodAll enc Try.prog W 0 (fun _=>true) true Try.f11.params.toList args.toList ds p:=hA0
 obtain⟨rfl,rfl⟩:=trodVars_none hV
 rw[Try.params11]at hA hval
 obtain⟨v0,vs0,d0,ds0,p0,q0,hargs,rfl,rfl,h0,r0⟩:=trodAll_cons hA
 obtain⟨rfl,rfl,rfl⟩:=trodAll_nil r0
 obtain rfl:args = #[v0]:=by cases args;simp_all
 obtain⟨y,A,l,c,B,l2,c2,rfl,hy,e1,e2,e3,e4,e5,e6⟩:=open_small19 (hval 0 33 v0 rfl rfl) h0
 refine(runTraces_walk y hy A l c e1 e2 B l2 c2 e3 e4  W e5 e6).mono fun e W' ⟨he,hb⟩=>?_
 subst he
 exact⟨_,rfl,law_post hW' rfl (by kernel_rfl) (by decide +kernel) ⟨rfl,rfl,rfl⟩ hb⟩
theorem runTraces_over:Rows.runTracesRow.holds Try.pinned (OpenSpec.ofChange Rows.runTracesSpec):=
 OpenClaim.holds_of_wide 11 Try.f11 rfl rfl rfl rfl rfl rfl rfl ⟨rfl,rfl,rfl,rfl,rfl⟩ rfl rfl rfl rfl rfl (by kernel_rfl) Try.func11 (by kernel_rfl)
  (of_decide_eq_true (by kernel_rfl)) (by unfold Func.isWrapper;first |(rw[if_pos (by decide +kernel)];kernel_rfl) |(rw[if_neg (by decide +kernel)];exact⟨rfl,rfl⟩))
  (fun os started H enc _=>runTraces_lifted os started H enc)
theorem runTraces_proved:Rows.RunTracesSaid:=runTraces_over
end Go.Proofs.Ytjliakjbdcplcaa
end
