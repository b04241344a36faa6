import Derived.Test.YtjliakjbdcplcaaG6
import Derived.Test.YtjliakjbdcplcaaG17
section
namespace Go.Proofs.Ytjliakjbdcplcaa
open Go.ChangeShapes Go.WideShapes Go.ChangeAt Go.RowKit Go.Deep
set_option linter.unusedVariables false
set_option linter.unusedSimpArgs false

theorem procSeqs_walk (sends : Int) (hsends : 0 ≤ sends ∧ sends ≤ 255) (left : Int) (hleft : 0 ≤ left ∧ left ≤ 255) (value : Int) (W : World) :
    Calls Try.prog 9 #[.int .u8 sends, .int .u8 left, .int .i64 value] W fun e W' => e = .returned (.bool true) ∧ Below W.heap.size W W' := by
  have := Vm.law_of_lit17 (Vm.seqs_lit sends left value hsends hleft) (Vm.start W)
  simp only [Vm.denL, Vm.SV.den] at this
  exact this

set_option maxRecDepth 100000 in
set_option maxHeartbeats 1000000 in
theorem procSeqs_lifted (os : Os) (started : os.Started) (H : Type) (enc : TypeId × Value → H) :
    ReturnsInHanded {} Try.checked os 9 .any (Rows.procSeqsSpec.pre6 enc Try.prog Try.f9 Rows.procSeqsRow.domain false) (Rows.procSeqsSpec.post enc Try.prog Try.f9 false true false false) := by
  refine returnsInHanded_of_change (C := Try.checked) ownKnob_ started (by kernel_rfl) Try.func9
    (ChangeSpec.witness6 (enc := enc) (C := Try.checked) false ⟨#[], #[.int .u8 0, .int .u8 0, .int .i64 0], []⟩ 8 (by kernel_rfl) (by kernel_rfl) (by kernel_rfl) (by kernel_rfl)) ?_
  intro W base args ds gs before hval0 hW _ _
  have hval : ∀ (j : Nat) t v, Try.f9.params[j]? = some t → args[j]? = some v → Value.okWide Try.prog W .any base t v := hval0
  have hW' := hW
  obtain ⟨p, q, hA0, hV, rfl, hfz, hnd⟩ := hW
  have hA : DataW.TrodAll enc Try.prog W 0 (fun _ => true) true Try.f9.params.toList args.toList ds p := hA0
  obtain ⟨rfl, rfl⟩ := trodVars_none hV
  rw [Try.params9] at hA hval
  obtain ⟨v0, vs0, d0, ds0, p0, q0, hargs, rfl, rfl, h0, r0⟩ := trodAll_cons hA
  obtain ⟨v1, vs1, d1, ds1, p1, q1, rfl, rfl, rfl, h1, r1⟩ := trodAll_cons r0
  obtain ⟨v2, vs2, d2, ds2, p2, q2, rfl, rfl, rfl, h2, r2⟩ := trodAll_cons r1
  obtain ⟨rfl, rfl, rfl⟩ := trodAll_nil r2
  obtain rfl : args = #[v0, v1, v2] := by cases args; simp_all
  obtain ⟨fu0, w0⟩ := h0
  have hc0 : v0.cells.toList = [v0] := by
    obtain ⟨_, e⟩ := okWide_int Try.underlying5 (hval 0 5 v0 rfl rfl)
    subst e
    rfl
  rw [hc0] at w0
  obtain ⟨sends, rfl, b0⟩ := trod_int_at17 Try.underlying5 w0
  simp [Lit.wf, IntKind.min, IntKind.max, IntKind.signed, IntKind.bits] at b0
  obtain ⟨fu1, w1⟩ := h1
  have hc1 : v1.cells.toList = [v1] := by
    obtain ⟨_, e⟩ := okWide_int Try.underlying5 (hval 1 5 v1 rfl rfl)
    subst e
    rfl
  rw [hc1] at w1
  obtain ⟨left, rfl, b1⟩ := trod_int_at17 Try.underlying5 w1
  simp [Lit.wf, IntKind.min, IntKind.max, IntKind.signed, IntKind.bits] at b1
  obtain ⟨fu2, w2⟩ := h2
  have hc2 : v2.cells.toList = [v2] := by
    obtain ⟨_, e⟩ := okWide_int Try.underlying2 (hval 2 2 v2 rfl rfl)
    subst e
    rfl
  rw [hc2] at w2
  obtain ⟨value, rfl, b2⟩ := trod_int_at17 Try.underlying2 w2
  simp [Lit.wf, IntKind.min, IntKind.max, IntKind.signed, IntKind.bits] at b2
  refine (procSeqs_walk sends b0 left b1 value W).mono fun e W' ⟨he, hb⟩ => ?_
  subst he
  exact ⟨_, rfl, law_post hW' rfl (by kernel_rfl) (by decide +kernel) ⟨rfl, rfl, rfl⟩ hb⟩

theorem procSeqs_over : Rows.procSeqsRow.holds Try.pinned (OpenSpec.ofChange Rows.procSeqsSpec) :=
  OpenClaim.holds_of_wide 9 Try.f9 rfl rfl rfl rfl rfl rfl rfl ⟨rfl, rfl, rfl, rfl, rfl⟩ rfl rfl rfl rfl rfl (by kernel_rfl) Try.func9 (by kernel_rfl)
    (of_decide_eq_true (by kernel_rfl)) (by unfold Func.isWrapper; first | (rw [if_pos (by decide +kernel)]; kernel_rfl) | (rw [if_neg (by decide +kernel)]; exact ⟨rfl, rfl⟩))
    (fun os started H enc _ => procSeqs_lifted os started H enc)

theorem procSeqs_proved : Rows.ProcSeqsSaid := procSeqs_over
end Go.Proofs.Ytjliakjbdcplcaa
end
