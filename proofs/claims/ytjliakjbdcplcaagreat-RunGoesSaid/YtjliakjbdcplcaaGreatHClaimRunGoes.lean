import Derived.Test.YtjliakjbdcplcaaGreatR1
import Derived.Test.YtjliakjbdcplcaaGreatR22
import Derived.Test.YtjliakjbdcplcaaGreatR41
set_option linter.unusedSimpArgs false
set_option linter.unusedVariables false
section
namespace Go.Proofs.YtjliakjbdcplcaaGreat
open Go.ChangeShapes Go.WideShapes Go.ChangeAt Go.RowKit Go.Deep
theorem open_intsR {H : Type} {enc : TypeId × Value → H} {w : World} {base : Nat} {n : Nat} {v : Value} {x : DataW H × List MemPlace} (h : DataW.trod enc Tryz.prog w base (fun _ => true) true n 33 [v] = some x) :
  ∃ A l c xs, v = .slice A l c ∧ l ≤ c ∧ c ≤ 9223372036854775807 ∧ (∀ k, Vm.R64 (List.getD xs k 0)) ∧ yu_ w w.heap.size 1 A l (int64s xs) := by
 rcases open_slice1 Tryz.underlying33 (by kernel_rfl) h with ⟨h0, _⟩ | ⟨a, len, cap, m, k, V, D, Pl, h0, _, hl, hm, hmm, _, hx⟩
 ·exact ⟨none, 0, 0, [], (List.cons.inj h0).1, by omega, by omega, fun k => Vm.zero_R, yu_.none_⟩
 ·have hmc : m = cap := hmm.trans (if_pos rfl)
  obtain ⟨f, hf⟩ := choose_lt (n := len) (p := fun i (z : Int) => V i = .int .i64 z ∧ Vm.R64 z) (fun i hi => by
   obtain ⟨z, hz, hb⟩ := z6_ Tryz.underlying3 (hx i (by omega)).2
   exact ⟨z, hz, r64_of hb⟩)
  refine ⟨some a, len, cap, (List.range len).map f, (List.cons.inj h0).1, hl, by unfold maxLen at hm; omega, fun q => ?_, by simp [int64s], fun hn => ⟨a, rfl, ?_, fun j u hu => ?_⟩⟩
  ·exact Vm.d34_
  ·have := cell_lt17 (hx 0 (by omega)).1
   rwa [block_of_add] at this
  ·exact Vm.d35_
theorem runGoes_walk (y : C19) (hy : y.ok) (A : Option Addr) (nl cap : Nat) (hn : nl ≤ cap) (hcap : cap ≤ 9223372036854775807) (B : Option Addr) (m cap2 : Nat) (hm : m ≤ cap2) (hcap2 : cap2 ≤ 9223372036854775807) (ps : List Int) (hps : ∀ q, Vm.R64 (ps.getD q 0)) (C : Option Addr) (k cap3 : Nat) (hk : k ≤ cap3) (hcap3 : cap3 ≤ 9223372036854775807) (W : World)
  (hA : yu_ W W.heap.size 5 A nl (insV y.xs)) (hB : yu_ W W.heap.size 1 B m (int64s y.cs)) (hC : yu_ W W.heap.size 1 C k (int64s ps)) :
  Calls Tryz.prog 3 #[.agg (y.cells (.slice A nl cap) (.slice B m cap2)), .slice C k cap3] W fun e W' => e = .returned (.bool true) ∧ Below W.heap.size W W' := by
 have hnl := hA.ins_len
 have hml := hB.i64_len
 have hkl := hC.i64_len
 subst hnl hml hkl
 obtain ⟨β1, _, R1, d1⟩ := (Vm.start W).handed (A := A) (n := y.xs.length) (cap := cap) (k := 5) (f := Vm.prS y.xs) 1 rfl (by rw [Vm.elems_prS]; exact hA) hn Vm.prS_stable (by omega)
 obtain ⟨β2, a2, R2, d2⟩ := R1.handed (A := B) (n := y.cs.length) (cap := cap2) (k := 1) (f := Vm.i64S y.cs) 3 rfl (by rw [Vm.elems_i64S]; exact hB) hm Vm.i64S_stable (by omega)
 obtain ⟨β3, a3, R3, d3⟩ := R2.handed (A := C) (n := ps.length) (cap := cap3) (k := 1) (f := Vm.i64S ps) 5 rfl (by rw [Vm.elems_i64S]; exact hC) hk Vm.i64S_stable (by omega)
 have := Vm.law_of_lit17 (Vm.runGoes_lit y.xs y.v y.t y.s y.q y.o y.y y.d y.f y.cs ps cap cap2 cap3 hy.x hy.w hps hk hy.y hy.t hy.s) R3
 have e1 : (Vm.SV.sl 1 2 [] 5 0 y.xs.length (some cap)).den β2 = .slice A y.xs.length cap := by
  rw [← d1]
  exact (Vm.Stable.den (h := Vm.hp [.gone, .gone, .ro (.arr y.xs.length 5 (Vm.prS y.xs))]) a2 (by simp [Vm.Stable, Vm.hp, Vm.HB.born])).symm
 have e1' : (Vm.SV.sl 1 2 [] 5 0 y.xs.length (some cap)).den β3 = .slice A y.xs.length cap := by
  rw [← e1]
  exact (Vm.Stable.den (h := Vm.hp [.gone, .gone, .ro (.arr y.xs.length 5 (Vm.prS y.xs)), .gone, .ro (.arr y.cs.length 1 (Vm.i64S y.cs))]) a3 (by simp [Vm.Stable, Vm.hp, Vm.HB.born])).symm
 have d2' : (Vm.SV.sl 3 4 [] 1 0 y.cs.length (some cap2)).den β3 = .slice B y.cs.length cap2 := by
  rw [← d2]
  exact (Vm.Stable.den (h := Vm.hp [.gone, .gone, .ro (.arr y.xs.length 5 (Vm.prS y.xs)), .gone, .ro (.arr y.cs.length 1 (Vm.i64S y.cs))]) a3 (by simp [Vm.Stable, Vm.hp, Vm.HB.born])).symm
 have e2 := Vm.den_c19 (β := β3) y cap cap2
 rw [d2', e1'] at e2
 simp only [Vm.denL, e2, d3] at this
 exact this
set_option maxRecDepth 100000 in
set_option maxHeartbeats 1000000 in
theorem runGoes_lifted (os : Os) (started : os.Started) (H : Type) (enc : TypeId × Value → H) :
  ReturnsInHanded {} Tryz.checked os 3 .any (Rows.runGoesSpec.pre6 enc Tryz.prog Tryz.f3 Rows.runGoesRow.domain false) (Rows.runGoesSpec.post enc Tryz.prog Tryz.f3 false true false false) := by
 refine returnsInHanded_of_change (C := Tryz.checked) ownKnob_ started (by kernel_rfl) Tryz.func3
  (ChangeSpec.witness6 (enc := enc) (C := Tryz.checked) false ⟨#[], #[Value.agg #[.slice none 0 0, .int .u64 0, .int .i64 0, .int .i64 0, .int .i64 0, .int .i64 0, .int .i64 0, .int .i64 0, .int .i64 0, .int .i64 0, .int .i64 0, .slice none 0 0, .int .i64 0, .int .i64 0], .slice none 0 0], []⟩ 8 (by kernel_rfl) (by kernel_rfl) (by kernel_rfl) (by kernel_rfl)) ?_
 intro W base args ds gs before hval0 hW _ _
 have hval : ∀ (j : Nat) t v, Tryz.f3.params[j]? = some t → args[j]? = some v → Value.okWide Tryz.prog W .any base t v := hval0
 have hW' := hW
 obtain ⟨p, q, hA0, hV, rfl, hfz, hnd⟩ := hW
 have hA : DataW.TrodAll enc Tryz.prog W 0 (fun _ => true) true Tryz.f3.params.toList args.toList ds p := hA0
 obtain ⟨rfl, rfl⟩ := trodVars_none hV
 rw [Tryz.params3] at hA hval
 obtain ⟨v0, vs0, d0, ds0, p0, q0, hargs, rfl, rfl, h0, r0⟩ := trodAll_cons hA
 obtain ⟨v1, vs1, d1, ds1, p1, q1, rfl, rfl, rfl, h1, r1⟩ := trodAll_cons r0
 obtain ⟨rfl, rfl, rfl⟩ := trodAll_nil r1
 obtain rfl : args = #[v0, v1] := by cases args; simp_all
 have hc1 : v1.cells.toList = [v1] := by
  obtain ⟨_, _, _, e⟩ := okWide_slice Tryz.underlying33 (hval 1 33 v1 rfl rfl)
  subst e
  rfl
 obtain ⟨fu, g1⟩ := h1
 rw [hc1] at g1
 obtain ⟨C, k, c3, ps, rfl, b1, b2, b3, b4⟩ := open_intsR g1
 obtain ⟨y, A, l, c, B, l2, c2, rfl, hy, e1, e2, e3, e4, e5, e6⟩ := open_case19 (hval 0 32 v0 rfl rfl) h0
 refine (runGoes_walk y hy A l c e1 e2 B l2 c2 e3 e4 ps b3 C k c3 b1 b2 W e5 e6 b4).mono fun e W' ⟨he, hb⟩ => ?_
 subst he
 exact ⟨_, rfl, law_post hW' rfl (by kernel_rfl) (by decide +kernel) ⟨rfl, rfl, rfl⟩ hb⟩
theorem runGoes_over : Rows.runGoesRow.holds Tryz.pinned (OpenSpec.ofChange Rows.runGoesSpec) :=
 OpenClaim.holds_of_wide 3 Tryz.f3 rfl rfl rfl rfl rfl rfl rfl ⟨rfl, rfl, rfl, rfl, rfl⟩ rfl rfl rfl rfl rfl (by kernel_rfl) Tryz.func3 (by kernel_rfl)
  (of_decide_eq_true (by kernel_rfl)) (by unfold Func.isWrapper; first | (rw [if_pos (by decide +kernel)]; kernel_rfl) | (rw [if_neg (by decide +kernel)]; exact ⟨rfl, rfl⟩))
  (fun os started H enc _ => runGoes_lifted os started H enc)
theorem runGoes_proved : Rows.RunGoesSaid := runGoes_over
end Go.Proofs.YtjliakjbdcplcaaGreat
end
