import Derived.Test.YtjliakjbdcplcaaGreatS17
import Derived.Test.YtjliakjbdcplcaaGreatS18
section
namespace Go.Proofs.YtjliakjbdcplcaaGreat
open Go.ChangeShapes Go.WideShapes Go.ChangeAt Go.RowKit Go.Deep
set_option linter.unusedVariables false
set_option linter.unusedSimpArgs false

theorem procSends_walk (y : S28) (hy : y.ok) (z : L28)  (W : World) (hz : z.ok W y) :
    Calls Tryz.prog 8 #[z.v y] W fun e W' => e = .returned (.bool true) ∧ Below W.heap.size W W' := by
  obtain ⟨β, R, e⟩ := mem28 y z W hz
  have h1 := hz.rA.ins_len
  have h2 := hz.rB.i64_len
  have h4 := es_len hz.rD
  have H := Vm.sends_lit y.xs y.a y.d y.sn y.seed y.id y.ahead y.fuel y.sq y.rg y.cs y.ps y.es z.p1 z.p2 z.p3 z.p4 hy.x (by have := hz.h1; have := hz.c1; omega) (by have := hz.h2; omega) hy.a hy.d hy.sn hy.id hy.ahead hy.fuel hy.sq hy.ps (by have := hz.h3; have := hz.lC; omega) hz.c3 hy.es (by have := hz.h4; omega) hz.c4
  have := Vm.law_of_lit17 H R
  simp only [Vm.denL, e] at this
  exact this

set_option maxRecDepth 100000 in
set_option maxHeartbeats 1000000 in
theorem procSends_lifted (os : Os) (started : os.Started) (H : Type) (enc : TypeId × Value → H) :
    ReturnsInHanded {} Tryz.checked os 8 .any (Rows.procSendsSpec.pre6 enc Tryz.prog Tryz.f8 Rows.procSendsRow.domain false) (Rows.procSendsSpec.post enc Tryz.prog Tryz.f8 false true false false) := by
  refine returnsInHanded_of_change (C := Tryz.checked) ownKnob_ started (by kernel_rfl) Tryz.func8
    (ChangeSpec.witness6 (enc := enc) (C := Tryz.checked) false ⟨#[], #[Value.agg #[.slice none 0 0, .int .u8 0, .int .i64 0, .int .i64 0, .int .i64 0, .int .i64 0, .int .i64 0, .int .i64 0, .int .i64 0, .int .i64 0, .slice none 0 0, .int .u32 0, .int .u8 0, .int .u64 0, .int .u8 0, .int .u8 0, .int .u16 0, .int .u16 0, .slice none 0 0, .slice none 0 0]], []⟩ 8 (by kernel_rfl) (by kernel_rfl) (by kernel_rfl) (by kernel_rfl)) ?_
  intro W base args ds gs before hval0 hW _ _
  have hval : ∀ (j : Nat) t v, Tryz.f8.params[j]? = some t → args[j]? = some v → Value.okWide Tryz.prog W .any base t v := hval0
  have hW' := hW
  obtain ⟨p, q, hA0, hV, rfl, hfz, hnd⟩ := hW
  have hA : DataW.TrodAll enc Tryz.prog W 0 (fun _ => true) true Tryz.f8.params.toList args.toList ds p := hA0
  obtain ⟨rfl, rfl⟩ := trodVars_none hV
  rw [Tryz.params8] at hA hval
  obtain ⟨v0, vs0, d0, ds0, p0, q0, hargs, rfl, rfl, h0, r0⟩ := trodAll_cons hA
  obtain ⟨rfl, rfl, rfl⟩ := trodAll_nil r0
  obtain rfl : args = #[v0] := by cases args; simp_all
  obtain ⟨y, z, rfl, hy, hz⟩ := open_small28 (hval 0 78 v0 rfl rfl) h0
  refine (procSends_walk y hy z  W hz).mono fun e W' ⟨he, hb⟩ => ?_
  subst he
  exact ⟨_, rfl, law_post hW' rfl (by kernel_rfl) (by decide +kernel) ⟨rfl, rfl, rfl⟩ hb⟩

theorem procSends_over : Rows.procSendsRow.holds Tryz.pinned (OpenSpec.ofChange Rows.procSendsSpec) :=
  OpenClaim.holds_of_wide 8 Tryz.f8 rfl rfl rfl rfl rfl rfl rfl ⟨rfl, rfl, rfl, rfl, rfl⟩ rfl rfl rfl rfl rfl (by kernel_rfl) Tryz.func8 (by kernel_rfl)
    (of_decide_eq_true (by kernel_rfl)) (by unfold Func.isWrapper; first | (rw [if_pos (by decide +kernel)]; kernel_rfl) | (rw [if_neg (by decide +kernel)]; exact ⟨rfl, rfl⟩))
    (fun os started H enc _ => procSends_lifted os started H enc)

theorem procSends_proved : Rows.ProcSendsSaid := procSends_over
end Go.Proofs.YtjliakjbdcplcaaGreat
end
