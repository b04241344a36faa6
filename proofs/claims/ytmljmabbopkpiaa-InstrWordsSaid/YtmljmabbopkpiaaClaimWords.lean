/- InstrWords: whatever the operation, the three registers and the words: the law returns true, and its input reads as it did. No condition. -/
import Derived.Test.YtmljmabbopkpiaaLaw
import Derived.Test.YtmljmabbopkpiaaChecked
import Derived.Test.YtmljmabbopkpiaaLawWords
import Derived.ProofKit
namespace Go.Proofs.Ytmljmabbopkpiaa
open Go.ChangeShapes Go.WideShapes Go.ChangeAt Go.RowKit
set_option linter.unusedVariables false
set_option linter.unusedSimpArgs false

theorem okWide_array_ {P : Program} {w : World} {r : Reach} {base n : Nat} {t e : TypeId} {v : Value} (ht : P.underlying t = some (.array n e)) (h : Value.okWide P w r base t v) : ∃ cs, v = .agg cs ∧ cs.size = P.cellsOf t := by
  simp only [Value.okWide, ht] at h
  obtain ⟨cs, h1, h2, _⟩ := h
  exact ⟨cs, h1, h2⟩

set_option maxRecDepth 100000 in
theorem open_regs {H : Type} {enc : TypeId × Value → H} {w : World} {base b0 : Nat} {r : Reach} {spare : Nat → Bool} {held : Bool} {v : Value} {d : DataW H} {p : List MemPlace} (hv : Value.okWide Try.prog w r b0 46 v) (h : DataW.Trod enc Try.prog w base spare held 46 v d p) :
    ∃ q : Nat → Int, v = .agg #[.int .i64 (q 0), .int .i64 (q 1), .int .i64 (q 2), .int .i64 (q 3), .int .i64 (q 4), .int .i64 (q 5), .int .i64 (q 6), .int .i64 (q 7)] ∧ ∀ k, -9223372036854775808 ≤ q k ∧ q k ≤ 9223372036854775807 := by
  obtain ⟨cs, rfl, hsz⟩ := okWide_array_ Try.underlying46 hv
  obtain ⟨l⟩ := cs
  have h5 : Try.prog.cellsOf 46 = 8 := by kernel_rfl
  have h1 : Try.prog.cellsOf 2 = 1 := by kernel_rfl
  match l, hsz.trans h5 with
  | [c0, c1, c2, c3, c4, c5, c6, c7], _ =>
    obtain ⟨fuel, hf⟩ := h
    obtain ⟨xs, n, _, _, _, hlen, hg⟩ := DataW.trod_array Try.underlying46 hf
    match xs, hlen with
    | [y0, y1, y2, y3, y4, y5, y6, y7], _ =>
      have g0 : DataW.trod enc Try.prog w base spare held n 2 [c0] = some y0 := by simpa [Value.cells, h1] using hg 0 (by decide)
      obtain ⟨a0, e0, _, b0⟩ := DataW.trod_int Try.underlying2 g0
      obtain rfl := (List.cons.inj e0).1
      have g1 : DataW.trod enc Try.prog w base spare held n 2 [c1] = some y1 := by simpa [Value.cells, h1] using hg 1 (by decide)
      obtain ⟨a1, e1, _, b1⟩ := DataW.trod_int Try.underlying2 g1
      obtain rfl := (List.cons.inj e1).1
      have g2 : DataW.trod enc Try.prog w base spare held n 2 [c2] = some y2 := by simpa [Value.cells, h1] using hg 2 (by decide)
      obtain ⟨a2, e2, _, b2⟩ := DataW.trod_int Try.underlying2 g2
      obtain rfl := (List.cons.inj e2).1
      have g3 : DataW.trod enc Try.prog w base spare held n 2 [c3] = some y3 := by simpa [Value.cells, h1] using hg 3 (by decide)
      obtain ⟨a3, e3, _, b3⟩ := DataW.trod_int Try.underlying2 g3
      obtain rfl := (List.cons.inj e3).1
      have g4 : DataW.trod enc Try.prog w base spare held n 2 [c4] = some y4 := by simpa [Value.cells, h1] using hg 4 (by decide)
      obtain ⟨a4, e4, _, b4⟩ := DataW.trod_int Try.underlying2 g4
      obtain rfl := (List.cons.inj e4).1
      have g5 : DataW.trod enc Try.prog w base spare held n 2 [c5] = some y5 := by simpa [Value.cells, h1] using hg 5 (by decide)
      obtain ⟨a5, e5, _, b5⟩ := DataW.trod_int Try.underlying2 g5
      obtain rfl := (List.cons.inj e5).1
      have g6 : DataW.trod enc Try.prog w base spare held n 2 [c6] = some y6 := by simpa [Value.cells, h1] using hg 6 (by decide)
      obtain ⟨a6, e6, _, b6⟩ := DataW.trod_int Try.underlying2 g6
      obtain rfl := (List.cons.inj e6).1
      have g7 : DataW.trod enc Try.prog w base spare held n 2 [c7] = some y7 := by simpa [Value.cells, h1] using hg 7 (by decide)
      obtain ⟨a7, e7, _, b7⟩ := DataW.trod_int Try.underlying2 g7
      obtain rfl := (List.cons.inj e7).1
      simp [Lit.wf, IntKind.min, IntKind.max, IntKind.signed, IntKind.bits] at b0 b1 b2 b3 b4 b5 b6 b7
      exact ⟨fun j => match j with | 0 => a0 | 1 => a1 | 2 => a2 | 3 => a3 | 4 => a4 | 5 => a5 | 6 => a6 | _ => a7, rfl, fun k => match k with
        | 0 => b0 | 1 => b1 | 2 => b2 | 3 => b3 | 4 => b4 | 5 => b5 | 6 => b6 | n + 7 => b7⟩

set_option maxRecDepth 100000 in
set_option maxHeartbeats 1000000 in
theorem words_lifted (os : Os) (started : os.Started) (H : Type) (enc : TypeId × Value → H) :
    ReturnsInHanded {} Try.checked os 8 .any (Rows.instrWordsSpec.pre6 enc Try.prog Try.f8 Rows.instrWordsRow.domain false) (Rows.instrWordsSpec.post enc Try.prog Try.f8 false true false false) := by
  refine returnsInHanded_of_change (C := Try.checked) ownKnob_ started (by kernel_rfl) Try.func8
    (ChangeSpec.witness6 (enc := enc) (C := Try.checked) false ⟨#[], #[.int .u8 0, .int .u8 0, .int .u8 0, .int .u8 0, .agg #[.int .i64 0, .int .i64 0, .int .i64 0, .int .i64 0, .int .i64 0, .int .i64 0, .int .i64 0, .int .i64 0]], []⟩ 8 (by kernel_rfl) (by kernel_rfl) (by kernel_rfl) (by kernel_rfl)) ?_
  intro W base args ds gs before hval0 hW _ _
  have hval : ∀ (j : Nat) t v, Try.f8.params[j]? = some t → args[j]? = some v → Value.okWide Try.prog W .any base t v := hval0
  have hW' := hW
  obtain ⟨p, q, hA0, hV, rfl, hfz, hnd⟩ := hW
  have hA : DataW.TrodAll enc Try.prog W 0 (fun _ => true) true Try.f8.params.toList args.toList ds p := hA0
  obtain ⟨rfl, rfl⟩ := trodVars_none hV
  rw [Try.params8] at hA hval
  obtain ⟨v0, vs0, d0, ds0, p0, q0, hargs, rfl, rfl, h0, r0⟩ := trodAll_cons hA
  obtain ⟨v1, vs1, d1, ds1, p1, q1, rfl, rfl, rfl, h1, r1⟩ := trodAll_cons r0
  obtain ⟨v2, vs2, d2, ds2, p2, q2, rfl, rfl, rfl, h2, r2⟩ := trodAll_cons r1
  obtain ⟨v3, vs3, d3, ds3, p3, q3, rfl, rfl, rfl, h3, r3⟩ := trodAll_cons r2
  obtain ⟨v4, vs4, d4, ds4, p4, q4, rfl, rfl, rfl, h4, r4⟩ := trodAll_cons r3
  obtain ⟨rfl, rfl, rfl⟩ := trodAll_nil r4
  obtain rfl : args = #[v0, v1, v2, v3, v4] := by cases args; simp_all
  obtain ⟨n0, rfl, _, _, w0⟩ := open_int Try.underlying5 (hval 0 5 v0 rfl rfl) h0
  obtain ⟨n1, rfl, _, _, w1⟩ := open_int Try.underlying5 (hval 1 5 v1 rfl rfl) h1
  obtain ⟨n2, rfl, _, _, w2⟩ := open_int Try.underlying5 (hval 2 5 v2 rfl rfl) h2
  obtain ⟨n3, rfl, _, _, w3⟩ := open_int Try.underlying5 (hval 3 5 v3 rfl rfl) h3
  obtain ⟨r, rfl, hr⟩ := open_regs (hval 4 46 v4 rfl rfl) h4
  refine (words_walk n0 n1 n2 n3 r W (by simpa [Lit.wf, IntKind.min, IntKind.max, IntKind.signed, IntKind.bits] using w0) (by simpa [Lit.wf, IntKind.min, IntKind.max, IntKind.signed, IntKind.bits] using w1) (by simpa [Lit.wf, IntKind.min, IntKind.max, IntKind.signed, IntKind.bits] using w2) (by simpa [Lit.wf, IntKind.min, IntKind.max, IntKind.signed, IntKind.bits] using w3) hr).mono fun e W' ⟨he, hb⟩ => ?_
  subst he
  exact ⟨_, rfl, law_post hW' rfl (by kernel_rfl) (by decide +kernel) ⟨rfl, rfl, rfl⟩ hb⟩

theorem words_over : Rows.instrWordsRow.holds Try.pinned (OpenSpec.ofChange Rows.instrWordsSpec) :=
  OpenClaim.holds_of_wide 8 Try.f8 rfl rfl rfl rfl rfl rfl rfl ⟨rfl, rfl, rfl, rfl, rfl⟩ rfl rfl rfl rfl rfl (by kernel_rfl) Try.func8 (by kernel_rfl)
    (of_decide_eq_true (by kernel_rfl)) (by unfold Func.isWrapper; first | (rw [if_pos (by decide +kernel)]; kernel_rfl) | (rw [if_neg (by decide +kernel)]; exact ⟨rfl, rfl⟩))
    (fun os started H enc _ => words_lifted os started H enc)

theorem instrWords_proved : Rows.InstrWordsSaid := words_over
end Go.Proofs.Ytmljmabbopkpiaa
