import Derived.Test.YtmljmabbopkpiaaG6
import Derived.Test.YtmljmabbopkpiaaG13
section
/- CheckMore: whatever the program and the limits: the law returns true, and its input reads as it did. No condition. -/
namespace Go.Proofs.Ytmljmabbopkpiaa
open Go.ChangeShapes Go.WideShapes Go.ChangeAt Go.RowKit Go.Deep
set_option linter.unusedVariables false
set_option linter.unusedSimpArgs false

theorem okWide_array_ {P : Program} {w : World} {r : Reach} {base n : Nat} {t e : TypeId} {v : Value} (ht : P.underlying t = some (.array n e)) (h : Value.okWide P w r base t v) : ∃ cs, v = .agg cs ∧ cs.size = P.cellsOf t := by
  simp only [Value.okWide, ht] at h
  obtain ⟨cs, h1, h2, _⟩ := h
  exact ⟨cs, h1, h2⟩

def arr3 (a : Nat → Int) : Value := .agg #[.int .u8 (a 0), .int .u8 (a 1), .int .u8 (a 2)]
set_option maxRecDepth 100000 in
theorem open_arr3 {H : Type} {enc : TypeId × Value → H} {w : World} {base b0 : Nat} {r : Reach} {spare : Nat → Bool} {held : Bool} {v : Value} {d : DataW H} {p : List MemPlace} (hv : Value.okWide Try.prog w r b0 107 v) (h : DataW.Trod enc Try.prog w base spare held 107 v d p) :
    ∃ a : Nat → Int, v = arr3 a ∧ ∀ q, 0 ≤ a q ∧ a q ≤ 255 := by
  obtain ⟨cs, rfl, hsz⟩ := okWide_array_ Try.underlying107 hv
  obtain ⟨l⟩ := cs
  have h5 : Try.prog.cellsOf 107 = 3 := by kernel_rfl
  have h6 : Try.prog.cellsOf 5 = 1 := by kernel_rfl
  match l, hsz.trans h5 with
  | [c0, c1, c2], _ =>
    obtain ⟨fuel, hf⟩ := h
    obtain ⟨zs, k, _, _, _, zlen, hz⟩ := DataW.trod_array Try.underlying107 hf
    match zs, zlen with
    | [z0, z1, z2], _ =>
      have u0 : DataW.trod enc Try.prog w base spare held k 5 [c0] = some z0 := by simpa [Value.cells, h6] using hz 0 (by decide)
      have u1 : DataW.trod enc Try.prog w base spare held k 5 [c1] = some z1 := by simpa [Value.cells, h6] using hz 1 (by decide)
      have u2 : DataW.trod enc Try.prog w base spare held k 5 [c2] = some z2 := by simpa [Value.cells, h6] using hz 2 (by decide)
      obtain ⟨a0, e0, _, s0⟩ := DataW.trod_int Try.underlying5 u0
      obtain rfl := (List.cons.inj e0).1
      obtain ⟨a1, e1, _, s1⟩ := DataW.trod_int Try.underlying5 u1
      obtain rfl := (List.cons.inj e1).1
      obtain ⟨a2, e2, _, s2⟩ := DataW.trod_int Try.underlying5 u2
      obtain rfl := (List.cons.inj e2).1
      simp [Lit.wf, IntKind.min, IntKind.max, IntKind.signed, IntKind.bits] at s0 s1 s2
      refine ⟨fun j => match j with | 0 => a0 | 1 => a1 | _ => a2, rfl, fun q => ?_⟩
      match q with
      | 0 => exact s0
      | 1 => exact s1
      | q + 2 => exact s2
theorem den_arr3 {β : Vm.Env} (a : Nat → Int) : (Vm.SV.arr 3 1 fun q => .int .u8 (a q)).den β = arr3 a := rfl

theorem more_walk (xs : List Ins) (hx : ∀ x ∈ xs, x.ok) (A : Option Addr) (n cap : Nat) (hn : n ≤ cap) (hcap : cap ≤ 9223372036854775807) (a b : Nat → Int) (ha : ∀ q, 0 ≤ a q ∧ a q ≤ 255) (hb : ∀ q, 0 ≤ b q ∧ b q ≤ 255) (W : World) (hA : Reads W W.heap.size 5 A n (insV xs)) :
    Calls Try.prog 14 #[.slice A n cap, arr3 a, arr3 b] W fun e W' => e = .returned (.bool true) ∧ Below W.heap.size W W' := by
  have hnl := hA.ins_len
  subst hnl
  obtain ⟨β1, _, R1, d1⟩ := (Vm.start W).handed (A := A) (n := xs.length) (cap := cap) (k := 5) (f := Vm.prS xs) 1 rfl (by rw [Vm.elems_prS]; exact hA) hn Vm.prS_stable (by omega)
  have H := Vm.more_lit17 xs cap a b hx (by omega) ha hb
  have := Vm.law_of_lit17 H R1
  simp only [Vm.denL, d1, den_arr3] at this
  exact this

set_option maxRecDepth 100000 in
set_option maxHeartbeats 1000000 in
theorem more_lifted (os : Os) (started : os.Started) (H : Type) (enc : TypeId × Value → H) :
    ReturnsInHanded {} Try.checked os 14 .any (Rows.checkMoreSpec.pre6 enc Try.prog Try.f14 Rows.checkMoreRow.domain false) (Rows.checkMoreSpec.post enc Try.prog Try.f14 false true false false) := by
  refine returnsInHanded_of_change (C := Try.checked) ownKnob_ started (by kernel_rfl) Try.func14
    (ChangeSpec.witness6 (enc := enc) (C := Try.checked) false ⟨#[], #[.slice none 0 0, .agg #[.int .u8 0, .int .u8 0, .int .u8 0], .agg #[.int .u8 0, .int .u8 0, .int .u8 0]], []⟩ 8 (by kernel_rfl) (by kernel_rfl) (by kernel_rfl) (by kernel_rfl)) ?_
  intro W base args ds gs before hval0 hW _ _
  have hval : ∀ (j : Nat) t v, Try.f14.params[j]? = some t → args[j]? = some v → Value.okWide Try.prog W .any base t v := hval0
  have hW' := hW
  obtain ⟨p, q, hA0, hV, rfl, hfz, hnd⟩ := hW
  have hA : DataW.TrodAll enc Try.prog W 0 (fun _ => true) true Try.f14.params.toList args.toList ds p := hA0
  obtain ⟨rfl, rfl⟩ := trodVars_none hV
  rw [Try.params14] at hA hval
  obtain ⟨v0, vs0, d0, ds0, p0, q0, hargs, rfl, rfl, h0, r0⟩ := trodAll_cons hA
  obtain ⟨v1, vs1, d1, ds1, p1, q1, rfl, rfl, rfl, h1, r1⟩ := trodAll_cons r0
  obtain ⟨v2, vs2, d2, ds2, p2, q2, rfl, rfl, rfl, h2, r2⟩ := trodAll_cons r1
  obtain ⟨rfl, rfl, rfl⟩ := trodAll_nil r2
  obtain rfl : args = #[v0, v1, v2] := by cases args; simp_all
  have hc0 : v0.cells.toList = [v0] := by
    obtain ⟨_, _, _, e⟩ := okWide_slice Try.underlying22 (hval 0 22 v0 rfl rfl)
    subst e
    rfl
  obtain ⟨fu, g0⟩ := h0
  rw [hc0] at g0
  obtain ⟨A, l, c, xs, rfl, b1, b2, b3, b4⟩ := open_small17s g0
  obtain ⟨a, rfl, ha⟩ := open_arr3 (hval 1 107 v1 rfl rfl) h1
  obtain ⟨b, rfl, hb'⟩ := open_arr3 (hval 2 107 v2 rfl rfl) h2
  refine (more_walk xs b3 A l c b1 b2 a b ha hb' W b4).mono fun e W' ⟨he, hb⟩ => ?_
  subst he
  exact ⟨_, rfl, law_post hW' rfl (by kernel_rfl) (by decide +kernel) ⟨rfl, rfl, rfl⟩ hb⟩

theorem more_over : Rows.checkMoreRow.holds Try.pinned (OpenSpec.ofChange Rows.checkMoreSpec) :=
  OpenClaim.holds_of_wide 14 Try.f14 rfl rfl rfl rfl rfl rfl rfl ⟨rfl, rfl, rfl, rfl, rfl⟩ rfl rfl rfl rfl rfl (by kernel_rfl) Try.func14 (by kernel_rfl)
    (of_decide_eq_true (by kernel_rfl)) (by unfold Func.isWrapper; first | (rw [if_pos (by decide +kernel)]; kernel_rfl) | (rw [if_neg (by decide +kernel)]; exact ⟨rfl, rfl⟩))
    (fun os started H enc _ => more_lifted os started H enc)

theorem checkMore_proved : Rows.CheckMoreSaid := more_over
end Go.Proofs.Ytmljmabbopkpiaa
end
