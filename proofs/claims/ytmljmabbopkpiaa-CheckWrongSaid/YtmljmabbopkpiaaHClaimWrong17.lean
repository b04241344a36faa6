import Derived.Test.YtmljmabbopkpiaaG6
import Derived.Test.YtmljmabbopkpiaaG13
section
/- CheckWrong: whatever the program, the defect and the number: the law returns true, and its input reads as it did. No condition. -/
namespace Go.Proofs.Ytmljmabbopkpiaa
open Go.ChangeShapes Go.WideShapes Go.ChangeAt Go.RowKit Go.Deep
set_option linter.unusedVariables false
set_option linter.unusedSimpArgs false

theorem wrong17_walk (xs : List Ins) (hx : ∀ x ∈ xs, x.ok) (A : Option Addr) (n cap : Nat) (hn : n ≤ cap) (hcap : cap ≤ 9223372036854775807) (a b z : Int) (ha : 0 ≤ a ∧ a ≤ 255) (hb : 0 ≤ b ∧ b ≤ 255) (hz : -9223372036854775808 ≤ z ∧ z ≤ 9223372036854775807) (W : World) (hA : Reads W W.heap.size 5 A n (insV xs)) :
    Calls Try.prog 11 #[.slice A n cap, .int .u8 a, .int .u8 b, .int .i64 z] W fun e W' => e = .returned (.bool true) ∧ Below W.heap.size W W' := by
  have hnl := hA.ins_len
  subst hnl
  obtain ⟨β1, _, R1, d1⟩ := (Vm.start W).handed (A := A) (n := xs.length) (cap := cap) (k := 5) (f := Vm.prS xs) 1 rfl (by rw [Vm.elems_prS]; exact hA) hn Vm.prS_stable (by omega)
  have H := Vm.wrong_lit17 xs cap a b z hx (by omega) ha hb hz
  have := Vm.law_of_lit17 H R1
  simp only [Vm.denL, d1] at this
  exact this

set_option maxRecDepth 100000 in
set_option maxHeartbeats 1000000 in
theorem wrong17_lifted (os : Os) (started : os.Started) (H : Type) (enc : TypeId × Value → H) :
    ReturnsInHanded {} Try.checked os 11 .any (Rows.checkWrongSpec.pre6 enc Try.prog Try.f11 Rows.checkWrongRow.domain false) (Rows.checkWrongSpec.post enc Try.prog Try.f11 false true false false) := by
  refine returnsInHanded_of_change (C := Try.checked) ownKnob_ started (by kernel_rfl) Try.func11
    (ChangeSpec.witness6 (enc := enc) (C := Try.checked) false ⟨#[], #[.slice none 0 0, .int .u8 0, .int .u8 0, .int .i64 0], []⟩ 8 (by kernel_rfl) (by kernel_rfl) (by kernel_rfl) (by kernel_rfl)) ?_
  intro W base args ds gs before hval0 hW _ _
  have hval : ∀ (j : Nat) t v, Try.f11.params[j]? = some t → args[j]? = some v → Value.okWide Try.prog W .any base t v := hval0
  have hW' := hW
  obtain ⟨p, q, hA0, hV, rfl, hfz, hnd⟩ := hW
  have hA : DataW.TrodAll enc Try.prog W 0 (fun _ => true) true Try.f11.params.toList args.toList ds p := hA0
  obtain ⟨rfl, rfl⟩ := trodVars_none hV
  rw [Try.params11] at hA hval
  obtain ⟨v0, vs0, d0, ds0, p0, q0, hargs, rfl, rfl, h0, r0⟩ := trodAll_cons hA
  obtain ⟨v1, vs1, d1, ds1, p1, q1, rfl, rfl, rfl, h1, r1⟩ := trodAll_cons r0
  obtain ⟨v2, vs2, d2, ds2, p2, q2, rfl, rfl, rfl, h2, r2⟩ := trodAll_cons r1
  obtain ⟨v3, vs3, d3, ds3, p3, q3, rfl, rfl, rfl, h3, r3⟩ := trodAll_cons r2
  obtain ⟨rfl, rfl, rfl⟩ := trodAll_nil r3
  obtain rfl : args = #[v0, v1, v2, v3] := by cases args; simp_all
  have hc0 : v0.cells.toList = [v0] := by
    obtain ⟨_, _, _, e⟩ := okWide_slice Try.underlying22 (hval 0 22 v0 rfl rfl)
    subst e
    rfl
  obtain ⟨fu, g0⟩ := h0
  rw [hc0] at g0
  obtain ⟨A, l, c, xs, rfl, b1, b2, b3, b4⟩ := open_small17s g0
  obtain ⟨n1, rfl, _, _, w1⟩ := open_int Try.underlying5 (hval 1 5 v1 rfl rfl) h1
  obtain ⟨n2, rfl, _, _, w2⟩ := open_int Try.underlying5 (hval 2 5 v2 rfl rfl) h2
  obtain ⟨n3, rfl, _, _, w3⟩ := open_int Try.underlying3 (hval 3 3 v3 rfl rfl) h3
  refine (wrong17_walk xs b3 A l c b1 b2 n1 n2 n3 (by simpa [Lit.wf, IntKind.min, IntKind.max, IntKind.signed, IntKind.bits] using w1) (by simpa [Lit.wf, IntKind.min, IntKind.max, IntKind.signed, IntKind.bits] using w2) (by simpa [Lit.wf, IntKind.min, IntKind.max, IntKind.signed, IntKind.bits] using w3) W b4).mono fun e W' ⟨he, hb⟩ => ?_
  subst he
  exact ⟨_, rfl, law_post hW' rfl (by kernel_rfl) (by decide +kernel) ⟨rfl, rfl, rfl⟩ hb⟩

theorem wrong17_over : Rows.checkWrongRow.holds Try.pinned (OpenSpec.ofChange Rows.checkWrongSpec) :=
  OpenClaim.holds_of_wide 11 Try.f11 rfl rfl rfl rfl rfl rfl rfl ⟨rfl, rfl, rfl, rfl, rfl⟩ rfl rfl rfl rfl rfl (by kernel_rfl) Try.func11 (by kernel_rfl)
    (of_decide_eq_true (by kernel_rfl)) (by unfold Func.isWrapper; first | (rw [if_pos (by decide +kernel)]; kernel_rfl) | (rw [if_neg (by decide +kernel)]; exact ⟨rfl, rfl⟩))
    (fun os started H enc _ => wrong17_lifted os started H enc)

theorem checkWrong_proved : Rows.CheckWrongSaid := wrong17_over
end Go.Proofs.Ytmljmabbopkpiaa
end
