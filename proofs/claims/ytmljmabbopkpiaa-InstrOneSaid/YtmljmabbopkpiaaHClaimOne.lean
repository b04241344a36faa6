import Derived.Test.YtmljmabbopkpiaaG8
import Derived.Test.YtmljmabbopkpiaaG13
section
/- InstrOne: whatever the program, the state and the environment: the law returns true, and its input reads as it did. No condition. -/
namespace Go.Proofs.Ytmljmabbopkpiaa
open Go.ChangeShapes Go.WideShapes Go.ChangeAt Go.RowKit Go.Deep
set_option linter.unusedVariables false
set_option linter.unusedSimpArgs false

theorem one_walk18 (xs : List Ins) (hx : ∀ x ∈ xs, x.ok) (A : Option Addr) (n cap : Nat) (hn : n ≤ cap) (hcap : cap ≤ 9223372036854775807) (y : Sm) (hy : y.ok) (B : Option Addr) (m cap2 : Nat) (hm : m ≤ cap2) (hcap2 : cap2 ≤ 9223372036854775807) (v : Envi) (W : World)
    (hA : Reads W W.heap.size 5 A n (insV xs)) (hB : Reads W W.heap.size 1 B m (int64s y.cells)) :
    Calls Try.prog 17 #[.slice A n cap, .agg (y.cs (.slice B m cap2)), v.v] W fun e W' => e = .returned (.bool true) ∧ Below W.heap.size W W' := by
  have hnl := hA.ins_len
  have hml := hB.i64_len
  subst hnl hml
  obtain ⟨β1, _, R1, d1⟩ := (Vm.start W).handed (A := A) (n := xs.length) (cap := cap) (k := 5) (f := Vm.prS xs) 1 rfl (by rw [Vm.elems_prS]; exact hA) hn Vm.prS_stable (by omega)
  obtain ⟨β2, a2, R2, d2⟩ := R1.handed (A := B) (n := y.cells.length) (cap := cap2) (k := 1) (f := Vm.i64S y.cells) 3 rfl (by rw [Vm.elems_i64S]; exact hB) hm Vm.i64S_stable (by omega)
  have H := Vm.one_lit xs hx cap (by omega) y hy cap2 (by omega) v
  have := Vm.law_of_lit H R2
  have e1 : (Vm.SV.sl 1 2 [] 5 0 xs.length (some cap)).den β2 = .slice A xs.length cap := by
    rw [← d1]
    exact (Vm.Stable.den (h := Vm.hp [.gone, .gone, .ro (.arr xs.length 5 (Vm.prS xs))]) a2 (by simp [Vm.Stable, Vm.hp, Vm.HB.born])).symm
  have e2 := Vm.den_small (β := β2) (a := .int .u8 y.at_) (d := .int .u32 y.draws) (s := .int .u8 y.sends) (rg := fun q => .int .i64 (y.regs q)) (cv := .sl 3 4 [] 1 0 y.cells.length (some cap2)) rfl (fun _ _ => rfl) rfl rfl rfl y.cells
  rw [d2] at e2
  have e3 := Vm.den_env (β := β2) (a := .int .u64 v.seed) (b := .int .i64 v.process) (c := .int .i64 v.ports) (d := .int .i64 v.look) (e := .int .i64 v.now) rfl rfl rfl rfl rfl
  simp only [Vm.denL, e1, e2, e3] at this
  exact this

set_option maxRecDepth 100000 in
set_option maxHeartbeats 1000000 in
theorem one_lifted18 (os : Os) (started : os.Started) (H : Type) (enc : TypeId × Value → H) :
    ReturnsInHanded {} Try.checked os 17 .any (Rows.instrOneSpec.pre6 enc Try.prog Try.f17 Rows.instrOneRow.domain false) (Rows.instrOneSpec.post enc Try.prog Try.f17 false true false false) := by
  refine returnsInHanded_of_change (C := Try.checked) ownKnob_ started (by kernel_rfl) Try.func17
    (ChangeSpec.witness6 (enc := enc) (C := Try.checked) false ⟨#[], #[.slice none 0 0, .agg #[.int .u8 0, .int .i64 0, .int .i64 0, .int .i64 0, .int .i64 0, .int .i64 0, .int .i64 0, .int .i64 0, .int .i64 0, .slice none 0 0, .int .u32 0, .int .u8 0], .agg #[.int .u64 0, .int .i64 0, .int .i64 0, .int .i64 0, .int .i64 0]], []⟩ 8 (by kernel_rfl) (by kernel_rfl) (by kernel_rfl) (by kernel_rfl)) ?_
  intro W base args ds gs before hval0 hW _ _
  have hval : ∀ (j : Nat) t v, Try.f17.params[j]? = some t → args[j]? = some v → Value.okWide Try.prog W .any base t v := hval0
  have hW' := hW
  obtain ⟨p, q, hA0, hV, rfl, hfz, hnd⟩ := hW
  have hA : DataW.TrodAll enc Try.prog W 0 (fun _ => true) true Try.f17.params.toList args.toList ds p := hA0
  obtain ⟨rfl, rfl⟩ := trodVars_none hV
  rw [Try.params17] at hA hval
  obtain ⟨v0, vs0, d0, ds0, p0, q0, hargs, rfl, rfl, h0, r0⟩ := trodAll_cons hA
  obtain ⟨v1, vs1, d1, ds1, p1, q1, rfl, rfl, rfl, h1, r1⟩ := trodAll_cons r0
  obtain ⟨v2, vs2, d2, ds2, p2, q2, rfl, rfl, rfl, h2, r2⟩ := trodAll_cons r1
  obtain ⟨rfl, rfl, rfl⟩ := trodAll_nil r2
  obtain rfl : args = #[v0, v1, v2] := by cases args; simp_all
  have hc0 : v0.cells.toList = [v0] := by
    obtain ⟨_, _, _, e⟩ := okWide_slice Try.underlying22 (hval 0 22 v0 rfl rfl)
    subst e
    rfl
  obtain ⟨fu, g0⟩ := h0
  rw [hc0] at g0
  obtain ⟨A, l, c, xs, rfl, b1, b2, b3, b4⟩ := open_small14s g0
  obtain ⟨x, B, l2, c2, rfl, hx, e1, e2, e3⟩ := open_small18 (hval 1 50 v1 rfl rfl) h1
  obtain ⟨a, b, c', e, f, rfl⟩ := open_envD (hval 2 56 v2 rfl rfl) h2
  refine (one_walk18 xs b3 A l c b1 b2 x hx B l2 c2 e1 e2 ⟨a, b, c', e, f⟩ W b4 e3).mono fun e W' ⟨he, hb⟩ => ?_
  subst he
  exact ⟨_, rfl, law_post hW' rfl (by kernel_rfl) (by decide +kernel) ⟨rfl, rfl, rfl⟩ hb⟩

theorem one_over18 : Rows.instrOneRow.holds Try.pinned (OpenSpec.ofChange Rows.instrOneSpec) :=
  OpenClaim.holds_of_wide 17 Try.f17 rfl rfl rfl rfl rfl rfl rfl ⟨rfl, rfl, rfl, rfl, rfl⟩ rfl rfl rfl rfl rfl (by kernel_rfl) Try.func17 (by kernel_rfl)
    (of_decide_eq_true (by kernel_rfl)) (by unfold Func.isWrapper; first | (rw [if_pos (by decide +kernel)]; kernel_rfl) | (rw [if_neg (by decide +kernel)]; exact ⟨rfl, rfl⟩))
    (fun os started H enc _ => one_lifted18 os started H enc)

theorem instrOne_proved : Rows.InstrOneSaid := one_over18
end Go.Proofs.Ytmljmabbopkpiaa
end
