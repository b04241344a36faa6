import Derived.Test.YtmljmabbopkpiaaK26
import Derived.Test.YtmljmabbopkpiaaK41
set_option linter.unusedSimpArgs false
set_option linter.unusedVariables false
section
namespace Go.Proofs.Ytmljmabbopkpiaa
open Go.ChangeShapes Go.WideShapes Go.ChangeAt Go.RowKit Go.Deep
theorem instrSteps_walk (W : World) (A : Option Addr) (n c : Nat) (P : List Ins) (v : Vm.Evi) (s : Vm.Sta) (As : Option Addr) (ls cs : Nat) (Bs : Option Addr) (ms ds : Nat) (hs : St18 W s As ls cs Bs ms ds) (hok : ∀ x ∈ P, x.ok) (h1 : n ≤ c) (hcap : c ≤ 9223372036854775807) (hA : yn_ W W.heap.size 5 A n (insV P)) :
  Calls Try.prog 15 #[.slice A n c, .agg #[.int .u64 v.seed, .int .i64 v.process, .int .i64 v.ports, .int .i64 v.look, .int .i64 v.now], .agg (staV s (.slice As ls cs) (.slice Bs ms ds))] W fun e W' => e = .returned (.bool true) ∧ Below W.heap.size W W' := by
 have hnl := hA.ins_len
 subst hnl
 have qs1 := hs.rA.i64_len
 have qs2 := hs.rB.snds_len
 subst qs1 qs2
 obtain ⟨β, _, R, hv⟩ := Vm.handedAll (W := W) [⟨5, P.length, Vm.prS P, A, c⟩, ⟨1, s.cells.length, Vm.i64S s.cells, As, cs⟩, ⟨3, s.sends.length, Vm.sndsS s.sends, Bs, ds⟩] (fun x hx => by
  simp only [List.mem_cons, List.not_mem_nil, or_false] at hx
  rcases hx with rfl | rfl | rfl
  ·exact Vm.viewP hA h1
  ·exact Vm.viewC hs.rA hs.lc
  ·exact Vm.viewS hs.rB hs.lc2) (Vm.start W)
 simp only [Vm.Vd, and_true] at hv
 obtain ⟨z0, z1, z2⟩ := hv
 have z0 : (Vm.SV.sl 1 2 [] 5 0 P.length (some c)).den β = .slice A P.length c := z0
 have := Vm.law_of_lit17 (Vm.instrSteps_lit P v s c cs ds hok hs.g hs.cw) R
 have z1 : (Vm.SV.sl 3 4 [] 1 0 s.cells.length (some cs)).den β = .slice As s.cells.length cs := z1
 have z2 : (Vm.SV.sl 5 6 [] 3 0 s.sends.length (some ds)).den β = .slice Bs s.sends.length ds := z2
 have es := Vm.den_sta (β := β) s 3 4 5 6 cs ds
 rw [z1, z2] at es
 simp only [Vm.denL, z0, es] at this
 exact this
set_option maxRecDepth 100000 in
set_option maxHeartbeats 1000000 in
theorem instrSteps_lifted (os : Os) (started : os.Started) (H : Type) (enc : TypeId × Value → H) :
  ReturnsInHanded {} Try.checked os 15 .any (Rows.instrStepsSpec.pre6 enc Try.prog Try.f15 Rows.instrStepsRow.domain false) (Rows.instrStepsSpec.post enc Try.prog Try.f15 false true false false) := by
 refine returnsInHanded_of_change (C := Try.checked) ownKnob_ started (by kernel_rfl) Try.func15
  (ChangeSpec.witness6 (enc := enc) (C := Try.checked) false ⟨#[], #[.slice none 0 0, .agg #[.int .u64 0, .int .i64 0, .int .i64 0, .int .i64 0, .int .i64 0], .agg #[.int .i64 0, .bool false, .int .i64 0, .int .i64 0, .int .i64 0, .int .i64 0, .int .i64 0, .int .i64 0, .int .i64 0, .int .i64 0, .slice none 0 0, .int .i64 0, .slice none 0 0]], []⟩ 8 (by kernel_rfl) (by kernel_rfl) (by kernel_rfl) (by kernel_rfl)) ?_
 intro W base args ds gs before hval0 hW _ _
 have hval : ∀ (j : Nat) t v, Try.f15.params[j]? = some t → args[j]? = some v → Value.okWide Try.prog W .any base t v := hval0
 have hW' := hW
 obtain ⟨p, q, hA0, hV, rfl, hfz, hnd⟩ := hW
 have hA : DataW.TrodAll enc Try.prog W 0 (fun _ => true) true Try.f15.params.toList args.toList ds p := hA0
 obtain ⟨rfl, rfl⟩ := trodVars_none hV
 rw [Try.params15] at hA hval
 obtain ⟨v0, vs0, d0, ds0, p0, q0, hargs, rfl, rfl, h0, r0⟩ := trodAll_cons hA
 obtain ⟨v1, vs1, d1, ds1, p1, q1, rfl, rfl, rfl, h1, r1⟩ := trodAll_cons r0
 obtain ⟨v2, vs2, d2, ds2, p2, q2, rfl, rfl, rfl, h2, r2⟩ := trodAll_cons r1
 obtain ⟨rfl, rfl, rfl⟩ := trodAll_nil r2
 obtain rfl : args = #[v0, v1, v2] := by cases args; simp_all
 have hc0 : v0.cells.toList = [v0] := by
  obtain ⟨_, _, _, e⟩ := okWide_slice Try.underlying25 (hval 0 25 v0 rfl rfl)
  subst e
  rfl
 obtain ⟨fu0, g0⟩ := h0
 rw [hc0] at g0
 obtain ⟨A, n1, c1, P, rfl, e1, e2, e3, e4⟩ := open_prog18 g0
 obtain ⟨ev, rfl⟩ := open_env18 (hval 1 56 v1 rfl rfl) h1
 obtain ⟨s, As, ls, ks, Bs, ms, ds, rfl, hhs⟩ := open_state18 (hval 2 53 v2 rfl rfl) h2
 refine (instrSteps_walk W A n1 c1 P ev s As ls ks Bs ms ds hhs e3 e1 e2 e4).mono fun e W' ⟨he, hb⟩ => ?_
 subst he
 exact ⟨_, rfl, law_post hW' rfl (by kernel_rfl) (by decide +kernel) ⟨rfl, rfl, rfl⟩ hb⟩
theorem instrSteps_over : Rows.instrStepsRow.holds Try.pinned (OpenSpec.ofChange Rows.instrStepsSpec) :=
 OpenClaim.holds_of_wide 15 Try.f15 rfl rfl rfl rfl rfl rfl rfl ⟨rfl, rfl, rfl, rfl, rfl⟩ rfl rfl rfl rfl rfl (by kernel_rfl) Try.func15 (by kernel_rfl)
  (of_decide_eq_true (by kernel_rfl)) (by unfold Func.isWrapper; first | (rw [if_pos (by decide +kernel)]; kernel_rfl) | (rw [if_neg (by decide +kernel)]; exact ⟨rfl, rfl⟩))
  (fun os started H enc _ => instrSteps_lifted os started H enc)
theorem instrSteps_proved : Rows.InstrStepsSaid := instrSteps_over
end Go.Proofs.Ytmljmabbopkpiaa
end
