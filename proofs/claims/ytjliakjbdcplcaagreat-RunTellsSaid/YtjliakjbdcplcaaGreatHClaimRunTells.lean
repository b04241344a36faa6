import Derived.Test.YtjliakjbdcplcaaGreatT8
import Derived.Test.YtjliakjbdcplcaaGreatT15
set_option linter.unusedSimpArgs false
set_option linter.unusedVariables false
section
namespace Go.Proofs.YtjliakjbdcplcaaGreat
open Go.ChangeShapes Go.WideShapes Go.ChangeAt Go.RowKit Go.Deep
theorem runTells_walk (y : C19) (hy : y.ok) (A : Option Addr) (nl cap : Nat) (hn : nl ≤ cap) (hcap : cap ≤ 9223372036854775807) (B : Option Addr) (m cap2 : Nat) (hm : m ≤ cap2) (hcap2 : cap2 ≤ 9223372036854775807) (W : World)
  (hA : yv_ W W.heap.size 5 A nl (insV y.xs)) (hB : yv_ W W.heap.size 1 B m (int64s y.cs)) :
  Calls Tryz.prog 4 #[.agg (y.cells (.slice A nl cap) (.slice B m cap2))] W fun e W' => e = .returned (.bool true) ∧ Below W.heap.size W W' := by
 have hnl := hA.ins_len
 have hml := hB.i64_len
 subst hnl hml
 obtain ⟨β1, _, R1, d1⟩ := (Vm.start W).handed (A := A) (n := y.xs.length) (cap := cap) (k := 5) (f := Vm.prS y.xs) 1 rfl (by rw [Vm.elems_prS]; exact hA) hn Vm.prS_stable (by omega)
 obtain ⟨β2, a2, R2, d2⟩ := R1.handed (A := B) (n := y.cs.length) (cap := cap2) (k := 1) (f := Vm.i64S y.cs) 3 rfl (by rw [Vm.elems_i64S]; exact hB) hm Vm.i64S_stable (by omega)
 have := Vm.law_of_lit17 (Vm.runTells_lit y.xs y.v y.t y.s y.q y.o y.y y.d y.f y.cs cap cap2 hy.x hy.w hy.y hy.t hy.s) R2
 have e1 : (Vm.SV.sl 1 2 [] 5 0 y.xs.length (some cap)).den β2 = .slice A y.xs.length cap := by
  rw [← d1]
  exact (Vm.Stable.den (h := Vm.hp [.gone, .gone, .ro (.arr y.xs.length 5 (Vm.prS y.xs))]) a2 (by simp [Vm.Stable, Vm.hp, Vm.HB.born])).symm
 have e2 := Vm.den_c19 (β := β2) y cap cap2
 rw [d2, e1] at e2
 simp only [Vm.denL, e2] at this
 exact this
set_option maxRecDepth 100000 in
set_option maxHeartbeats 1000000 in
theorem runTells_lifted (os : Os) (started : os.Started) (H : Type) (enc : TypeId × Value → H) :
  ReturnsInHanded {} Tryz.checked os 4 .any (Rows.runTellsSpec.pre6 enc Tryz.prog Tryz.f4 Rows.runTellsRow.domain false) (Rows.runTellsSpec.post enc Tryz.prog Tryz.f4 false true false false) := by
 refine returnsInHanded_of_change (C := Tryz.checked) ownKnob_ started (by kernel_rfl) Tryz.func4
  (ChangeSpec.witness6 (enc := enc) (C := Tryz.checked) false ⟨#[], #[Value.agg #[.slice none 0 0, .int .u64 0, .int .i64 0, .int .i64 0, .int .i64 0, .int .i64 0, .int .i64 0, .int .i64 0, .int .i64 0, .int .i64 0, .int .i64 0, .slice none 0 0, .int .i64 0, .int .i64 0]], []⟩ 8 (by kernel_rfl) (by kernel_rfl) (by kernel_rfl) (by kernel_rfl)) ?_
 intro W base args ds gs before hval0 hW _ _
 have hval : ∀ (j : Nat) t v, Tryz.f4.params[j]? = some t → args[j]? = some v → Value.okWide Tryz.prog W .any base t v := hval0
 have hW' := hW
 obtain ⟨p, q, hA0, hV, rfl, hfz, hnd⟩ := hW
 have hA : DataW.TrodAll enc Tryz.prog W 0 (fun _ => true) true Tryz.f4.params.toList args.toList ds p := hA0
 obtain ⟨rfl, rfl⟩ := trodVars_none hV
 rw [Tryz.params4] at hA hval
 obtain ⟨v0, vs0, d0, ds0, p0, q0, hargs, rfl, rfl, h0, r0⟩ := trodAll_cons hA
 obtain ⟨rfl, rfl, rfl⟩ := trodAll_nil r0
 obtain rfl : args = #[v0] := by cases args; simp_all
 obtain ⟨y, A, l, c, B, l2, c2, rfl, hy, e1, e2, e3, e4, e5, e6⟩ := open_case19 (hval 0 32 v0 rfl rfl) h0
 refine (runTells_walk y hy A l c e1 e2 B l2 c2 e3 e4 W e5 e6).mono fun e W' ⟨he, hb⟩ => ?_
 subst he
 exact ⟨_, rfl, law_post hW' rfl (by kernel_rfl) (by decide +kernel) ⟨rfl, rfl, rfl⟩ hb⟩
theorem runTells_over : Rows.runTellsRow.holds Tryz.pinned (OpenSpec.ofChange Rows.runTellsSpec) :=
 OpenClaim.holds_of_wide 4 Tryz.f4 rfl rfl rfl rfl rfl rfl rfl ⟨rfl, rfl, rfl, rfl, rfl⟩ rfl rfl rfl rfl rfl (by kernel_rfl) Tryz.func4 (by kernel_rfl)
  (of_decide_eq_true (by kernel_rfl)) (by unfold Func.isWrapper; first | (rw [if_pos (by decide +kernel)]; kernel_rfl) | (rw [if_neg (by decide +kernel)]; exact ⟨rfl, rfl⟩))
  (fun os started H enc _ => runTells_lifted os started H enc)
theorem runTells_proved : Rows.RunTellsSaid := runTells_over
end Go.Proofs.YtjliakjbdcplcaaGreat
end
