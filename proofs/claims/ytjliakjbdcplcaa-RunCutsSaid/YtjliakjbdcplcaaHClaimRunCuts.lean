import Derived.Test.YtjliakjbdcplcaaG6
import Derived.Test.YtjliakjbdcplcaaG14
import Derived.Test.YtjliakjbdcplcaaG15
section
namespace Go.Proofs.Ytjliakjbdcplcaa
open Go.ChangeShapes Go.WideShapes Go.ChangeAt Go.RowKit Go.Deep
set_option linter.unusedVariables false
set_option linter.unusedSimpArgs false

theorem runCuts_walk (y : S19) (hy : y.ok) (A : Option Addr) (nl cap : Nat) (hn : nl ≤ cap) (hcap : cap ≤ 9223372036854775807) (B : Option Addr) (m cap2 : Nat) (hm : m ≤ cap2) (hcap2 : cap2 ≤ 9223372036854775807) (ps : List Int) (hps : ∀ q, 0 ≤ ps.getD q 0 ∧ ps.getD q 0 ≤ 255) (C : Option Addr) (k cap3 : Nat) (hk : k ≤ cap3) (hcap3 : cap3 ≤ 9223372036854775807) (W : World)
    (hA : Reads W W.heap.size 5 A nl (insV y.xs)) (hB : Reads W W.heap.size 1 B m (int64s y.cs)) (hC : Reads W W.heap.size 1 C k (Vm.u8V ps)) (hkl : ps.length = k) :
    Calls Try.prog 4 #[.agg (y.cells (.slice A nl cap) (.slice B m cap2)), .slice C k cap3] W fun e W' => e = .returned (.bool true) ∧ Below W.heap.size W W' := by
  have hnl := hA.ins_len
  have hml := hB.i64_len
  subst hnl hml hkl
  obtain ⟨β1, _, R1, d1⟩ := (Vm.start W).handed (A := A) (n := y.xs.length) (cap := cap) (k := 5) (f := Vm.prS y.xs) 1 rfl (by rw [Vm.elems_prS]; exact hA) hn Vm.prS_stable (by omega)
  obtain ⟨β2, a2, R2, d2⟩ := R1.handed (A := B) (n := y.cs.length) (cap := cap2) (k := 1) (f := Vm.i64S y.cs) 3 rfl (by rw [Vm.elems_i64S]; exact hB) hm Vm.i64S_stable (by omega)
  obtain ⟨β3, a3, R3, d3⟩ := R2.handed (A := C) (n := ps.length) (cap := cap3) (k := 1) (f := Vm.u8S ps) 5 rfl (by rw [Vm.elems_u8S]; exact hC) hk Vm.u8S_stable (by omega)
  have H := Vm.cuts_lit y.xs y.a y.d y.sn y.time y.source y.value y.fuel y.rg y.cs ps y.v cap cap2 cap3 hy.x (by omega) hm hy.a hy.d hy.sn hy.time hy.source hy.fuel hps hk hcap3
  have := Vm.law_of_lit17 H R3
  have e1 : (Vm.SV.sl 1 2 [] 5 0 y.xs.length (some cap)).den β2 = .slice A y.xs.length cap := by
    rw [← d1]
    exact (Vm.Stable.den (h := Vm.hp [.gone, .gone, .ro (.arr y.xs.length 5 (Vm.prS y.xs))]) a2 (by simp [Vm.Stable, Vm.hp, Vm.HB.born])).symm
  have e1' : (Vm.SV.sl 1 2 [] 5 0 y.xs.length (some cap)).den β3 = .slice A y.xs.length cap := by
    rw [← e1]
    exact (Vm.Stable.den (h := Vm.hp [.gone, .gone, .ro (.arr y.xs.length 5 (Vm.prS y.xs)), .gone, .ro (.arr y.cs.length 1 (Vm.i64S y.cs))]) a3 (by simp [Vm.Stable, Vm.hp, Vm.HB.born])).symm
  have d2' : (Vm.SV.sl 3 4 [] 1 0 y.cs.length (some cap2)).den β3 = .slice B y.cs.length cap2 := by
    rw [← d2]
    exact (Vm.Stable.den (h := Vm.hp [.gone, .gone, .ro (.arr y.xs.length 5 (Vm.prS y.xs)), .gone, .ro (.arr y.cs.length 1 (Vm.i64S y.cs))]) a3 (by simp [Vm.Stable, Vm.hp, Vm.HB.born])).symm
  have e2 := Vm.den_s19 (β := β3) y cap cap2
  rw [d2', e1'] at e2
  simp only [Vm.denL, e2, d3] at this
  exact this

set_option maxRecDepth 100000 in
set_option maxHeartbeats 1000000 in
theorem runCuts_lifted (os : Os) (started : os.Started) (H : Type) (enc : TypeId × Value → H) :
    ReturnsInHanded {} Try.checked os 4 .any (Rows.runCutsSpec.pre6 enc Try.prog Try.f4 Rows.runCutsRow.domain false) (Rows.runCutsSpec.post enc Try.prog Try.f4 false true false false) := by
  refine returnsInHanded_of_change (C := Try.checked) ownKnob_ started (by kernel_rfl) Try.func4
    (ChangeSpec.witness6 (enc := enc) (C := Try.checked) false ⟨#[], #[Value.agg #[.slice none 0 0, .int .u8 0, .int .i64 0, .int .i64 0, .int .i64 0, .int .i64 0, .int .i64 0, .int .i64 0, .int .i64 0, .int .i64 0, .slice none 0 0, .int .u32 0, .int .u8 0, .int .u64 0, .int .i64 0, .int .i64 0, .int .i64 0, .int .i64 0, .int .u32 0, .int .u8 0, .int .i64 0, .int .u16 0], .slice none 0 0], []⟩ 8 (by kernel_rfl) (by kernel_rfl) (by kernel_rfl) (by kernel_rfl)) ?_
  intro W base args ds gs before hval0 hW _ _
  have hval : ∀ (j : Nat) t v, Try.f4.params[j]? = some t → args[j]? = some v → Value.okWide Try.prog W .any base t v := hval0
  have hW' := hW
  obtain ⟨p, q, hA0, hV, rfl, hfz, hnd⟩ := hW
  have hA : DataW.TrodAll enc Try.prog W 0 (fun _ => true) true Try.f4.params.toList args.toList ds p := hA0
  obtain ⟨rfl, rfl⟩ := trodVars_none hV
  rw [Try.params4] at hA hval
  obtain ⟨v0, vs0, d0, ds0, p0, q0, hargs, rfl, rfl, h0, r0⟩ := trodAll_cons hA
  obtain ⟨v1, vs1, d1, ds1, p1, q1, rfl, rfl, rfl, h1, r1⟩ := trodAll_cons r0
  obtain ⟨rfl, rfl, rfl⟩ := trodAll_nil r1
  obtain rfl : args = #[v0, v1] := by cases args; simp_all
  have hc1 : v1.cells.toList = [v1] := by
    obtain ⟨_, _, _, e⟩ := okWide_slice Try.underlying51 (hval 1 51 v1 rfl rfl)
    subst e
    rfl
  obtain ⟨fu, g1⟩ := h1
  rw [hc1] at g1
  obtain ⟨C, k, c3, ps, rfl, b1, b2, b3, b4, b5⟩ := open_bytes19 g1
  obtain ⟨y, A, l, c, B, l2, c2, rfl, hy, e1, e2, e3, e4, e5, e6⟩ := open_small19 (hval 0 33 v0 rfl rfl) h0
  refine (runCuts_walk y hy A l c e1 e2 B l2 c2 e3 e4 ps b3 C k c3 b1 b2 W e5 e6 b4 b5).mono fun e W' ⟨he, hb⟩ => ?_
  subst he
  exact ⟨_, rfl, law_post hW' rfl (by kernel_rfl) (by decide +kernel) ⟨rfl, rfl, rfl⟩ hb⟩

theorem runCuts_over : Rows.runCutsRow.holds Try.pinned (OpenSpec.ofChange Rows.runCutsSpec) :=
  OpenClaim.holds_of_wide 4 Try.f4 rfl rfl rfl rfl rfl rfl rfl ⟨rfl, rfl, rfl, rfl, rfl⟩ rfl rfl rfl rfl rfl (by kernel_rfl) Try.func4 (by kernel_rfl)
    (of_decide_eq_true (by kernel_rfl)) (by unfold Func.isWrapper; first | (rw [if_pos (by decide +kernel)]; kernel_rfl) | (rw [if_neg (by decide +kernel)]; exact ⟨rfl, rfl⟩))
    (fun os started H enc _ => runCuts_lifted os started H enc)

theorem runCuts_proved : Rows.RunCutsSaid := runCuts_over
end Go.Proofs.Ytjliakjbdcplcaa
end
