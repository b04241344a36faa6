import Derived.Test.YtjliakjbdcplcaaGreatN6
import Derived.Test.YtjliakjbdcplcaaGreatN16
section
namespace Go.Proofs.YtjliakjbdcplcaaGreat
open Go.ChangeShapes Go.WideShapes Go.ChangeAt Go.RowKit Go.Deep
set_option linter.unusedVariables false
set_option linter.unusedSimpArgs false

theorem procNew_walk (id ci : Int) (A : Option Addr) (n1 c1 : Nat) (P : List Ins) (C : Option Addr) (n2 c2 : Nat) (ps : List Int) (h1 : n1 ≤ c1) (g1 : c1 ≤ 9223372036854775807) (hok : ∀ x ∈ P, x.ok) (h2 : n2 ≤ c2) (g2 : c2 ≤ 9223372036854775807) (W : World)
    (hA : Reads W W.heap.size 5 A n1 (insV P)) (hC : Reads W W.heap.size 1 C n2 (int64s ps)) :
    Calls Tryz.prog 6 #[.int .i64 id, .slice A n1 c1, .int .i64 ci, .slice C n2 c2] W fun e W' => e = .returned (.bool true) ∧ Below W.heap.size W W' := by
  have hnl := hA.ins_len
  have hml := hC.i64_len
  subst hnl hml
  obtain ⟨β1, _, R1, d1⟩ := (Vm.start W).handed (A := A) (n := P.length) (cap := c1) (k := 5) (f := Vm.prS P) 1 rfl (by rw [Vm.elems_prS]; exact hA) h1 Vm.prS_stable (by omega)
  obtain ⟨β2, a2, R2, d2⟩ := R1.handed (A := C) (n := ps.length) (cap := c2) (k := 1) (f := Vm.i64S ps) 3 rfl (by rw [Vm.elems_i64S]; exact hC) h2 Vm.i64S_stable (by omega)
  have := Vm.law_of_lit17 (Vm.pnew_lit id ci P ps c1 c2 hok) R2
  have e1 : (Vm.SV.sl 1 2 [] 5 0 P.length (some c1)).den β2 = .slice A P.length c1 := by
    rw [← d1]
    exact (Vm.Stable.den (h := Vm.hp [.gone, .gone, .ro (.arr P.length 5 (Vm.prS P))]) a2 (by simp [Vm.Stable, Vm.hp, Vm.HB.born])).symm
  simp only [Vm.denL, e1, d2] at this
  exact this

set_option maxRecDepth 100000 in
set_option maxHeartbeats 1000000 in
theorem procNew_lifted (os : Os) (started : os.Started) (H : Type) (enc : TypeId × Value → H) :
    ReturnsInHanded {} Tryz.checked os 6 .any (Rows.procNewSpec.pre6 enc Tryz.prog Tryz.f6 Rows.procNewRow.domain false) (Rows.procNewSpec.post enc Tryz.prog Tryz.f6 false true false false) := by
  refine returnsInHanded_of_change (C := Tryz.checked) ownKnob_ started (by kernel_rfl) Tryz.func6
    (ChangeSpec.witness6 (enc := enc) (C := Tryz.checked) false ⟨#[], #[.int .i64 0, .slice none 0 0, .int .i64 0, .slice none 0 0], []⟩ 8 (by kernel_rfl) (by kernel_rfl) (by kernel_rfl) (by kernel_rfl)) ?_
  intro W base args ds gs before hval0 hW _ _
  have hval : ∀ (j : Nat) t v, Tryz.f6.params[j]? = some t → args[j]? = some v → Value.okWide Tryz.prog W .any base t v := hval0
  have hW' := hW
  obtain ⟨p, q, hA0, hV, rfl, hfz, hnd⟩ := hW
  have hA : DataW.TrodAll enc Tryz.prog W 0 (fun _ => true) true Tryz.f6.params.toList args.toList ds p := hA0
  obtain ⟨rfl, rfl⟩ := trodVars_none hV
  rw [Tryz.params6] at hA hval
  obtain ⟨v0, vs0, d0, ds0, p0, q0, hargs, rfl, rfl, h0, r0⟩ := trodAll_cons hA
  obtain ⟨v1, vs1, d1, ds1, p1, q1, rfl, rfl, rfl, h1, r1⟩ := trodAll_cons r0
  obtain ⟨v2, vs2, d2, ds2, p2, q2, rfl, rfl, rfl, h2, r2⟩ := trodAll_cons r1
  obtain ⟨v3, vs3, d3, ds3, p3, q3, rfl, rfl, rfl, h3, r3⟩ := trodAll_cons r2
  obtain ⟨rfl, rfl, rfl⟩ := trodAll_nil r3
  obtain rfl : args = #[v0, v1, v2, v3] := by cases args; simp_all
  obtain ⟨fu0, w0⟩ := h0
  have hc0 : v0.cells.toList = [v0] := by
    obtain ⟨_, e⟩ := okWide_int Tryz.underlying3 (hval 0 3 v0 rfl rfl)
    subst e
    rfl
  rw [hc0] at w0
  obtain ⟨id, rfl, b0⟩ := trod_int_at17 Tryz.underlying3 w0
  obtain ⟨fu2, w2⟩ := h2
  have hc2 : v2.cells.toList = [v2] := by
    obtain ⟨_, e⟩ := okWide_int Tryz.underlying3 (hval 2 3 v2 rfl rfl)
    subst e
    rfl
  rw [hc2] at w2
  obtain ⟨ci, rfl, b2⟩ := trod_int_at17 Tryz.underlying3 w2
  have hc1 : v1.cells.toList = [v1] := by
    obtain ⟨_, _, _, e⟩ := okWide_slice Tryz.underlying22 (hval 1 22 v1 rfl rfl)
    subst e
    rfl
  obtain ⟨fu1, g1⟩ := h1
  rw [hc1] at g1
  have hc3 : v3.cells.toList = [v3] := by
    obtain ⟨_, _, _, e⟩ := okWide_slice Tryz.underlying33 (hval 3 33 v3 rfl rfl)
    subst e
    rfl
  obtain ⟨fu3, g3⟩ := h3
  rw [hc3] at g3
  obtain ⟨A, n1, c1, P, rfl, e1, e2, e3, e4⟩ := open_prog28 g1
  obtain ⟨C, n2, c2, ps, rfl, x1, x2, x3⟩ := open_ints28 g3
  refine (procNew_walk id ci A n1 c1 P C n2 c2 ps e1 e2 e3 x1 x2 W e4 x3).mono fun e W' ⟨he, hb⟩ => ?_
  subst he
  exact ⟨_, rfl, law_post hW' rfl (by kernel_rfl) (by decide +kernel) ⟨rfl, rfl, rfl⟩ hb⟩

theorem procNew_over : Rows.procNewRow.holds Tryz.pinned (OpenSpec.ofChange Rows.procNewSpec) :=
  OpenClaim.holds_of_wide 6 Tryz.f6 rfl rfl rfl rfl rfl rfl rfl ⟨rfl, rfl, rfl, rfl, rfl⟩ rfl rfl rfl rfl rfl (by kernel_rfl) Tryz.func6 (by kernel_rfl)
    (of_decide_eq_true (by kernel_rfl)) (by unfold Func.isWrapper; first | (rw [if_pos (by decide +kernel)]; kernel_rfl) | (rw [if_neg (by decide +kernel)]; exact ⟨rfl, rfl⟩))
    (fun os started H enc _ => procNew_lifted os started H enc)

theorem procNew_proved : Rows.ProcNewSaid := procNew_over
end Go.Proofs.YtjliakjbdcplcaaGreat
end
