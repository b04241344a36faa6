import Derived.Test.YtmljmabbopkpiaaI13
import Derived.Test.YtmljmabbopkpiaaI20
set_option linter.unusedSimpArgs false
set_option linter.unusedVariables false
section
namespace Go.Proofs.Ytmljmabbopkpiaa
open Go.ChangeShapes Go.WideShapes Go.ChangeAt Go.RowKit Go.Deep
theorem instrTells_walk (W : World) (A : Option Addr) (n c : Nat) (P : List Ins) (v : Vm.Evi) (s : Vm.Sta) (As : Option Addr) (ls cs : Nat) (Bs : Option Addr) (ms ds : Nat) (hs : St18 W s As ls cs Bs ms ds) (t : Vm.Sta) (At : Option Addr) (lt ct : Nat) (Bt : Option Addr) (mt dt : Nat) (ht : St18 W t At lt ct Bt mt dt) (et es eq eo ey : Int) (het : Vm.R64 et) (hes : Vm.R64 es) (hey : Vm.R64 ey) (hok : ∀ x ∈ P, x.ok) (h1 : n ≤ c) (hcap : c ≤ 9223372036854775807) (hA : yk_ W W.heap.size 5 A n (insV P)) :
  Calls Try.prog 7 #[.slice A n c, .agg #[.int .u64 v.seed, .int .i64 v.process, .int .i64 v.ports, .int .i64 v.look, .int .i64 v.now], .agg (staV s (.slice As ls cs) (.slice Bs ms ds)), .agg (staV t (.slice At lt ct) (.slice Bt mt dt)), .agg #[.int .i64 et, .int .i64 es, .int .i64 eq, .int .i64 eo, .int .i64 ey]] W fun e W' => e = .returned (.bool true) ∧ Below W.heap.size W W' := by
 have hnl := hA.ins_len
 subst hnl
 have qs1 := hs.rA.i64_len
 have qs2 := hs.rB.snds_len
 subst qs1 qs2
 have qt1 := ht.rA.i64_len
 have qt2 := ht.rB.snds_len
 subst qt1 qt2
 obtain ⟨β, _, R, hv⟩ := Vm.handedAll (W := W) [⟨5, P.length, Vm.prS P, A, c⟩, ⟨1, s.cells.length, Vm.i64S s.cells, As, cs⟩, ⟨3, s.sends.length, Vm.sndsS s.sends, Bs, ds⟩, ⟨1, t.cells.length, Vm.i64S t.cells, At, ct⟩, ⟨3, t.sends.length, Vm.sndsS t.sends, Bt, dt⟩] (fun x hx => by
  simp only [List.mem_cons, List.not_mem_nil, or_false] at hx
  rcases hx with rfl | rfl | rfl | rfl | rfl
  ·exact Vm.viewP hA h1
  ·exact Vm.viewC hs.rA hs.lc
  ·exact Vm.viewS hs.rB hs.lc2
  ·exact Vm.viewC ht.rA ht.lc
  ·exact Vm.viewS ht.rB ht.lc2) (Vm.start W)
 simp only [Vm.Vd, and_true] at hv
 obtain ⟨z0, z1, z2, z3, z4⟩ := hv
 have z0 : (Vm.SV.sl 1 2 [] 5 0 P.length (some c)).den β = .slice A P.length c := z0
 have := Vm.law_of_lit17 (Vm.instrTells_lit P v s t et es eq eo ey c cs ds ct dt hok hs.g ht.g het hes hey) R
 have z1 : (Vm.SV.sl 3 4 [] 1 0 s.cells.length (some cs)).den β = .slice As s.cells.length cs := z1
 have z2 : (Vm.SV.sl 5 6 [] 3 0 s.sends.length (some ds)).den β = .slice Bs s.sends.length ds := z2
 have es := Vm.den_sta (β := β) s 3 4 5 6 cs ds
 rw [z1, z2] at es
 have z3 : (Vm.SV.sl 7 8 [] 1 0 t.cells.length (some ct)).den β = .slice At t.cells.length ct := z3
 have z4 : (Vm.SV.sl 9 10 [] 3 0 t.sends.length (some dt)).den β = .slice Bt t.sends.length dt := z4
 have et := Vm.den_sta (β := β) t 7 8 9 10 ct dt
 rw [z3, z4] at et
 simp only [Vm.denL, z0, es, et] at this
 exact this
set_option maxRecDepth 100000 in
set_option maxHeartbeats 1000000 in
theorem instrTells_lifted (os : Os) (started : os.Started) (H : Type) (enc : TypeId × Value → H) :
  ReturnsInHanded {} Try.checked os 7 .any (Rows.instrTellsSpec.pre6 enc Try.prog Try.f7 Rows.instrTellsRow.domain false) (Rows.instrTellsSpec.post enc Try.prog Try.f7 false true false false) := by
 refine returnsInHanded_of_change (C := Try.checked) ownKnob_ started (by kernel_rfl) Try.func7
  (ChangeSpec.witness6 (enc := enc) (C := Try.checked) false ⟨#[], #[.slice none 0 0, .agg #[.int .u64 0, .int .i64 0, .int .i64 0, .int .i64 0, .int .i64 0], .agg #[.int .i64 0, .bool false, .int .i64 0, .int .i64 0, .int .i64 0, .int .i64 0, .int .i64 0, .int .i64 0, .int .i64 0, .int .i64 0, .slice none 0 0, .int .i64 0, .slice none 0 0], .agg #[.int .i64 0, .bool false, .int .i64 0, .int .i64 0, .int .i64 0, .int .i64 0, .int .i64 0, .int .i64 0, .int .i64 0, .int .i64 0, .slice none 0 0, .int .i64 0, .slice none 0 0], .agg #[.int .i64 0, .int .i64 0, .int .i64 0, .int .i64 0, .int .i64 0]], []⟩ 8 (by kernel_rfl) (by kernel_rfl) (by kernel_rfl) (by kernel_rfl)) ?_
 intro W base args ds gs before hval0 hW _ _
 have hval : ∀ (j : Nat) t v, Try.f7.params[j]? = some t → args[j]? = some v → Value.okWide Try.prog W .any base t v := hval0
 have hW' := hW
 obtain ⟨p, q, hA0, hV, rfl, hfz, hnd⟩ := hW
 have hA : DataW.TrodAll enc Try.prog W 0 (fun _ => true) true Try.f7.params.toList args.toList ds p := hA0
 obtain ⟨rfl, rfl⟩ := trodVars_none hV
 rw [Try.params7] at hA hval
 obtain ⟨v0, vs0, d0, ds0, p0, q0, hargs, rfl, rfl, h0, r0⟩ := trodAll_cons hA
 obtain ⟨v1, vs1, d1, ds1, p1, q1, rfl, rfl, rfl, h1, r1⟩ := trodAll_cons r0
 obtain ⟨v2, vs2, d2, ds2, p2, q2, rfl, rfl, rfl, h2, r2⟩ := trodAll_cons r1
 obtain ⟨v3, vs3, d3, ds3, p3, q3, rfl, rfl, rfl, h3, r3⟩ := trodAll_cons r2
 obtain ⟨v4, vs4, d4, ds4, p4, q4, rfl, rfl, rfl, h4, r4⟩ := trodAll_cons r3
 obtain ⟨rfl, rfl, rfl⟩ := trodAll_nil r4
 obtain rfl : args = #[v0, v1, v2, v3, v4] := by cases args; simp_all
 have hc0 : v0.cells.toList = [v0] := by
  obtain ⟨_, _, _, e⟩ := okWide_slice Try.underlying25 (hval 0 25 v0 rfl rfl)
  subst e
  rfl
 obtain ⟨fu0, g0⟩ := h0
 rw [hc0] at g0
 obtain ⟨A, n1, c1, P, rfl, e1, e2, e3, e4⟩ := open_prog18 g0
 obtain ⟨ev, rfl⟩ := open_env18 (hval 1 56 v1 rfl rfl) h1
 obtain ⟨s, As, ls, ks, Bs, ms, ds, rfl, hhs⟩ := open_state18 (hval 2 53 v2 rfl rfl) h2
 obtain ⟨t, At, lt, kt, Bt, mt, dt, rfl, hht⟩ := open_state18 (hval 3 53 v3 rfl rfl) h3
 obtain ⟨et, es, eq, eo, ey, rfl, het, hes, hey⟩ := open_event18 (hval 4 70 v4 rfl rfl) h4
 refine (instrTells_walk W A n1 c1 P ev s As ls ks Bs ms ds hhs t At lt kt Bt mt dt hht et es eq eo ey het hes hey e3 e1 e2 e4).mono fun e W' ⟨he, hb⟩ => ?_
 subst he
 exact ⟨_, rfl, law_post hW' rfl (by kernel_rfl) (by decide +kernel) ⟨rfl, rfl, rfl⟩ hb⟩
theorem instrTells_over : Rows.instrTellsRow.holds Try.pinned (OpenSpec.ofChange Rows.instrTellsSpec) :=
 OpenClaim.holds_of_wide 7 Try.f7 rfl rfl rfl rfl rfl rfl rfl ⟨rfl, rfl, rfl, rfl, rfl⟩ rfl rfl rfl rfl rfl (by kernel_rfl) Try.func7 (by kernel_rfl)
  (of_decide_eq_true (by kernel_rfl)) (by unfold Func.isWrapper; first | (rw [if_pos (by decide +kernel)]; kernel_rfl) | (rw [if_neg (by decide +kernel)]; exact ⟨rfl, rfl⟩))
  (fun os started H enc _ => instrTells_lifted os started H enc)
theorem instrTells_proved : Rows.InstrTellsSaid := instrTells_over
end Go.Proofs.Ytmljmabbopkpiaa
end
