import Derived.Test.YtjliakjbdcplcaaG6
import Derived.Test.YtjliakjbdcplcaaG15
section
/- RunWrong: whatever the case, the way and the number: the law returns true, and its input reads as it did. No condition. (printed by gen_claim19.py) -/
namespace Go.Proofs.Ytjliakjbdcplcaa
open Go.ChangeShapes Go.WideShapes Go.ChangeAt Go.RowKit Go.Deep
set_option linter.unusedVariables false
set_option linter.unusedSimpArgs false

theorem runWrong_walk (y : S19) (hy : y.ok) (A : Option Addr) (nl cap : Nat) (hn : nl ≤ cap) (hcap : cap ≤ 9223372036854775807) (B : Option Addr) (m cap2 : Nat) (hm : m ≤ cap2) (hcap2 : cap2 ≤ 9223372036854775807) (way : Int) (hway : 0 ≤ way ∧ way ≤ 255) (n : Int) (W : World)
    (hA : Reads W W.heap.size 5 A nl (insV y.xs)) (hB : Reads W W.heap.size 1 B m (int64s y.cs)) :
    Calls Try.prog 6 #[.agg (y.cells (.slice A nl cap) (.slice B m cap2)), .int .u8 way, .int .i64 n] W fun e W' => e = .returned (.bool true) ∧ Below W.heap.size W W' := by
  have hnl := hA.ins_len
  have hml := hB.i64_len
  subst hnl hml
  obtain ⟨β1, _, R1, d1⟩ := (Vm.start W).handed (A := A) (n := y.xs.length) (cap := cap) (k := 5) (f := Vm.prS y.xs) 1 rfl (by rw [Vm.elems_prS]; exact hA) hn Vm.prS_stable (by omega)
  obtain ⟨β2, a2, R2, d2⟩ := R1.handed (A := B) (n := y.cs.length) (cap := cap2) (k := 1) (f := Vm.i64S y.cs) 3 rfl (by rw [Vm.elems_i64S]; exact hB) hm Vm.i64S_stable (by omega)
  have H := Vm.wrong_lit y.xs y.a y.d y.sn y.time y.source y.value y.fuel way n y.rg y.cs y.v cap cap2 hy.x (by omega) hm hy.a hy.d hy.sn hy.time hy.source hy.fuel hway
  have := Vm.law_of_lit17 H R2
  have e1 : (Vm.SV.sl 1 2 [] 5 0 y.xs.length (some cap)).den β2 = .slice A y.xs.length cap := by
    rw [← d1]
    exact (Vm.Stable.den (h := Vm.hp [.gone, .gone, .ro (.arr y.xs.length 5 (Vm.prS y.xs))]) a2 (by simp [Vm.Stable, Vm.hp, Vm.HB.born])).symm
  have e2 := Vm.den_s19 (β := β2) y cap cap2
  rw [d2, e1] at e2
  simp only [Vm.denL, e2] at this
  exact this

set_option maxRecDepth 100000 in
set_option maxHeartbeats 1000000 in
theorem runWrong_lifted (os : Os) (started : os.Started) (H : Type) (enc : TypeId × Value → H) :
    ReturnsInHanded {} Try.checked os 6 .any (Rows.runWrongSpec.pre6 enc Try.prog Try.f6 Rows.runWrongRow.domain false) (Rows.runWrongSpec.post enc Try.prog Try.f6 false true false false) := by
  refine returnsInHanded_of_change (C := Try.checked) ownKnob_ started (by kernel_rfl) Try.func6
    (ChangeSpec.witness6 (enc := enc) (C := Try.checked) false ⟨#[], #[Value.agg #[.slice none 0 0, .int .u8 0, .int .i64 0, .int .i64 0, .int .i64 0, .int .i64 0, .int .i64 0, .int .i64 0, .int .i64 0, .int .i64 0, .slice none 0 0, .int .u32 0, .int .u8 0, .int .u64 0, .int .i64 0, .int .i64 0, .int .i64 0, .int .i64 0, .int .u32 0, .int .u8 0, .int .i64 0, .int .u16 0], .int .u8 0, .int .i64 0], []⟩ 8 (by kernel_rfl) (by kernel_rfl) (by kernel_rfl) (by kernel_rfl)) ?_
  intro W base args ds gs before hval0 hW _ _
  have hval : ∀ (j : Nat) t v, Try.f6.params[j]? = some t → args[j]? = some v → Value.okWide Try.prog W .any base t v := hval0
  have hW' := hW
  obtain ⟨p, q, hA0, hV, rfl, hfz, hnd⟩ := hW
  have hA : DataW.TrodAll enc Try.prog W 0 (fun _ => true) true Try.f6.params.toList args.toList ds p := hA0
  obtain ⟨rfl, rfl⟩ := trodVars_none hV
  rw [Try.params6] at hA hval
  obtain ⟨v0, vs0, d0, ds0, p0, q0, hargs, rfl, rfl, h0, r0⟩ := trodAll_cons hA
  obtain ⟨v1, vs1, d1, ds1, p1, q1, rfl, rfl, rfl, h1, r1⟩ := trodAll_cons r0
  obtain ⟨v2, vs2, d2, ds2, p2, q2, rfl, rfl, rfl, h2, r2⟩ := trodAll_cons r1
  obtain ⟨rfl, rfl, rfl⟩ := trodAll_nil r2
  obtain rfl : args = #[v0, v1, v2] := by cases args; simp_all
  obtain ⟨y, A, l, c, B, l2, c2, rfl, hy, e1, e2, e3, e4, e5, e6⟩ := open_small19 (hval 0 33 v0 rfl rfl) h0
  obtain ⟨fu1, w1⟩ := h1
  have hc1 : v1.cells.toList = [v1] := by
    obtain ⟨_, e⟩ := okWide_int Try.underlying5 (hval 1 5 v1 rfl rfl)
    subst e
    rfl
  rw [hc1] at w1
  obtain ⟨way, rfl, b1⟩ := trod_int_at17 Try.underlying5 w1
  simp [Lit.wf, IntKind.min, IntKind.max, IntKind.signed, IntKind.bits] at b1
  obtain ⟨fu2, w2⟩ := h2
  have hc2 : v2.cells.toList = [v2] := by
    obtain ⟨_, e⟩ := okWide_int Try.underlying3 (hval 2 3 v2 rfl rfl)
    subst e
    rfl
  rw [hc2] at w2
  obtain ⟨n, rfl, b2⟩ := trod_int_at17 Try.underlying3 w2
  simp [Lit.wf, IntKind.min, IntKind.max, IntKind.signed, IntKind.bits] at b2
  refine (runWrong_walk y hy A l c e1 e2 B l2 c2 e3 e4 way b1 n W e5 e6).mono fun e W' ⟨he, hb⟩ => ?_
  subst he
  exact ⟨_, rfl, law_post hW' rfl (by kernel_rfl) (by decide +kernel) ⟨rfl, rfl, rfl⟩ hb⟩

theorem runWrong_over : Rows.runWrongRow.holds Try.pinned (OpenSpec.ofChange Rows.runWrongSpec) :=
  OpenClaim.holds_of_wide 6 Try.f6 rfl rfl rfl rfl rfl rfl rfl ⟨rfl, rfl, rfl, rfl, rfl⟩ rfl rfl rfl rfl rfl (by kernel_rfl) Try.func6 (by kernel_rfl)
    (of_decide_eq_true (by kernel_rfl)) (by unfold Func.isWrapper; first | (rw [if_pos (by decide +kernel)]; kernel_rfl) | (rw [if_neg (by decide +kernel)]; exact ⟨rfl, rfl⟩))
    (fun os started H enc _ => runWrong_lifted os started H enc)

theorem runWrong_proved : Rows.RunWrongSaid := runWrong_over
end Go.Proofs.Ytjliakjbdcplcaa
end
