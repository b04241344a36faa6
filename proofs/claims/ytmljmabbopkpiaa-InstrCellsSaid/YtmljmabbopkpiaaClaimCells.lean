/- InstrCells: whatever the cells, the words and the numbers of cells: the law returns true, and its input reads as it did. No condition. -/
import Derived.Test.YtmljmabbopkpiaaLaw
import Derived.Test.YtmljmabbopkpiaaChecked
import Derived.Test.YtmljmabbopkpiaaLawCells
import Derived.ProofKit
import Derived.Deep.Slices
namespace Go.Proofs.Ytmljmabbopkpiaa
open Go.ChangeShapes Go.WideShapes Go.ChangeAt Go.RowKit Go.Deep
set_option linter.unusedVariables false
set_option linter.unusedSimpArgs false

theorem cell_lt {w : World} {p : Addr} {v : Value} (h : w.cell? p = some v) : p.block < w.heap.size := by
  rcases Nat.lt_or_ge p.block w.heap.size with hl | hg
  · exact hl
  · unfold World.cell? at h
    rw [Array.getElem?_eq_none hg] at h
    cases h
theorem trod_int_at {H : Type} {enc : TypeId × Value → H} {w : World} {base : Nat} {spare : Nat → Bool} {held : Bool} {n : Nat} {v : Value} {x : DataW H × List MemPlace} {t : TypeId} {k : IntKind} (ht : Try.prog.underlying t = some (.int k)) (h : DataW.trod enc Try.prog w base spare held n t [v] = some x) : ∃ a, v = .int k a ∧ (Lit.int k a).wf = true := by
  obtain ⟨a, e0, _, b⟩ := DataW.trod_int ht h
  exact ⟨a, (List.cons.inj e0).1, b⟩
/-- a slice of words, handed in, reads as a list -/
theorem open_words {H : Type} {enc : TypeId × Value → H} {w : World} {base : Nat} {n : Nat} {v : Value} {x : DataW H × List MemPlace} (h : DataW.trod enc Try.prog w base (fun _ => true) true n 47 [v] = some x) :
    ∃ A l c xs, v = .slice A l c ∧ l ≤ c ∧ c ≤ 9223372036854775807 ∧ Reads w w.heap.size 1 A l (int64s xs) := by
  rcases open_slice1 Try.underlying47 (by kernel_rfl) h with ⟨h0, _⟩ | ⟨a, len, cap, m, k, V, D, Pl, h0, _, hl, hm, hmm, _, hx⟩
  · exact ⟨none, 0, 0, [], (List.cons.inj h0).1, by omega, by omega, Reads.none_⟩
  · have hmc : m = cap := hmm.trans (if_pos rfl)
    obtain ⟨f, hf⟩ := choose_lt (n := len) (p := fun i (z : Int) => V i = .int .i64 z) (fun i hi => by
      obtain ⟨z, hz, _⟩ := trod_int_at Try.underlying2 (hx i (by omega)).2
      exact ⟨z, hz⟩)
    refine ⟨some a, len, cap, (List.range len).map f, (List.cons.inj h0).1, hl, by unfold maxLen at hm; omega, by simp [int64s], fun hn => ⟨a, rfl, ?_, fun j u hu => ?_⟩⟩
    · have := cell_lt (hx 0 (by omega)).1
      rwa [block_of_add] at this
    · have hj : j < len := by
        have := (List.getElem?_eq_some_iff.1 hu).1
        simpa [int64s] using this
      rw [(hx j (by omega)).1, ← hu, hf j hj]
      simp [int64s, hj]
set_option maxRecDepth 100000 in
theorem okWide_structS {w : World} {r : Reach} {base : Nat} {v : Value} (h : Value.okWide Try.prog w r base 50 v) : ∃ cs, v = .agg cs ∧ cs.size = Try.prog.cellsOf 50 := okWide_struct Try.underlying50 h

set_option maxRecDepth 100000 in
theorem open_small18 {H : Type} {enc : TypeId × Value → H} {w : World} {b0 : Nat} {r : Reach} {v : Value} {d : DataW H} {p : List MemPlace} (hv : Value.okWide Try.prog w r b0 50 v) (h : DataW.Trod enc Try.prog w 0 (fun _ => true) true 50 v d p) :
    ∃ (x : Sm) (A : Option Addr) (n c : Nat), v = .agg (x.cs (.slice A n c)) ∧ x.ok ∧ n ≤ c ∧ c ≤ 9223372036854775807 ∧ Reads w w.heap.size 1 A n (int64s x.cells) := by
  obtain ⟨cs, rfl, hsz⟩ := okWide_structS hv
  obtain ⟨l⟩ := cs
  have h5 : Try.prog.cellsOf 50 = 12 := by kernel_rfl
  have h1 : Try.prog.cellsOf 5 = 1 := by kernel_rfl
  have h2 : Try.prog.cellsOf 46 = 8 := by kernel_rfl
  have h3 : Try.prog.cellsOf 47 = 1 := by kernel_rfl
  have h4 : Try.prog.cellsOf 48 = 1 := by kernel_rfl
  match l, hsz.trans h5 with
  | [c0, c1, c2, c3, c4, c5, c6, c7, c8, c9, c10, c11], _ =>
    obtain ⟨fuel, hf⟩ := h
    obtain ⟨xs, n, _, _, _, hlen, hg⟩ := DataW.trod_struct Try.underlying50 hf
    match xs, hlen with
    | [y0, y1, y2, y3, y4], _ =>
      have g0 : DataW.trod enc Try.prog w 0 (fun _ => true) true n 5 [c0] = some y0 := by simpa [Value.cells, h1, h2, h3, h4] using hg 0 _ rfl
      have g1 : DataW.trod enc Try.prog w 0 (fun _ => true) true n 46 [c1, c2, c3, c4, c5, c6, c7, c8] = some y1 := by simpa [Value.cells, h1, h2, h3, h4] using hg 1 _ rfl
      have g2 : DataW.trod enc Try.prog w 0 (fun _ => true) true n 47 [c9] = some y2 := by simpa [Value.cells, h1, h2, h3, h4] using hg 2 _ rfl
      have g3 : DataW.trod enc Try.prog w 0 (fun _ => true) true n 48 [c10] = some y3 := by simpa [Value.cells, h1, h2, h3, h4] using hg 3 _ rfl
      have g4 : DataW.trod enc Try.prog w 0 (fun _ => true) true n 5 [c11] = some y4 := by simpa [Value.cells, h1, h2, h3, h4] using hg 4 _ rfl
      obtain ⟨a0, rfl, b0⟩ := trod_int_at Try.underlying5 g0
      obtain ⟨a3, rfl, b3⟩ := trod_int_at Try.underlying48 g3
      obtain ⟨a4, rfl, b4⟩ := trod_int_at Try.underlying5 g4
      obtain ⟨A, l, c, ys, rfl, e1, e2, e3⟩ := open_words g2
      obtain ⟨zs, k, _, _, _, zlen, hz⟩ := DataW.trod_array Try.underlying46 g1
      match zs, zlen with
      | [z0, z1, z2, z3, z4, z5, z6, z7], _ =>
        have h6 : Try.prog.cellsOf 2 = 1 := by kernel_rfl
        have u0 : DataW.trod enc Try.prog w 0 (fun _ => true) true k 2 [c1] = some z0 := by simpa [h6] using hz 0 (by decide)
        obtain ⟨r0, rfl, s0⟩ := trod_int_at Try.underlying2 u0
        have u1 : DataW.trod enc Try.prog w 0 (fun _ => true) true k 2 [c2] = some z1 := by simpa [h6] using hz 1 (by decide)
        obtain ⟨r1, rfl, s1⟩ := trod_int_at Try.underlying2 u1
        have u2 : DataW.trod enc Try.prog w 0 (fun _ => true) true k 2 [c3] = some z2 := by simpa [h6] using hz 2 (by decide)
        obtain ⟨r2, rfl, s2⟩ := trod_int_at Try.underlying2 u2
        have u3 : DataW.trod enc Try.prog w 0 (fun _ => true) true k 2 [c4] = some z3 := by simpa [h6] using hz 3 (by decide)
        obtain ⟨r3, rfl, s3⟩ := trod_int_at Try.underlying2 u3
        have u4 : DataW.trod enc Try.prog w 0 (fun _ => true) true k 2 [c5] = some z4 := by simpa [h6] using hz 4 (by decide)
        obtain ⟨r4, rfl, s4⟩ := trod_int_at Try.underlying2 u4
        have u5 : DataW.trod enc Try.prog w 0 (fun _ => true) true k 2 [c6] = some z5 := by simpa [h6] using hz 5 (by decide)
        obtain ⟨r5, rfl, s5⟩ := trod_int_at Try.underlying2 u5
        have u6 : DataW.trod enc Try.prog w 0 (fun _ => true) true k 2 [c7] = some z6 := by simpa [h6] using hz 6 (by decide)
        obtain ⟨r6, rfl, s6⟩ := trod_int_at Try.underlying2 u6
        have u7 : DataW.trod enc Try.prog w 0 (fun _ => true) true k 2 [c8] = some z7 := by simpa [h6] using hz 7 (by decide)
        obtain ⟨r7, rfl, s7⟩ := trod_int_at Try.underlying2 u7
        simp [Lit.wf, IntKind.min, IntKind.max, IntKind.signed, IntKind.bits] at b0 b3 b4 s0 s1 s2 s3 s4 s5 s6 s7
        exact ⟨⟨a0, fun j => match j with | 0 => r0 | 1 => r1 | 2 => r2 | 3 => r3 | 4 => r4 | 5 => r5 | 6 => r6 | _ => r7, ys, a3, a4⟩, A, l, c, rfl, ⟨b0.1, b0.2, fun k => match k with | 0 => s0 | 1 => s1 | 2 => s2 | 3 => s3 | 4 => s4 | 5 => s5 | 6 => s6 | n + 7 => s7, b3.1, b3.2, b4.1, b4.2⟩, e1, e2, e3⟩

set_option maxRecDepth 100000 in
set_option maxHeartbeats 1000000 in
theorem cells_lifted (os : Os) (started : os.Started) (H : Type) (enc : TypeId × Value → H) :
    ReturnsInHanded {} Try.checked os 4 .any (Rows.instrCellsSpec.pre6 enc Try.prog Try.f4 Rows.instrCellsRow.domain false) (Rows.instrCellsSpec.post enc Try.prog Try.f4 false true false false) := by
  refine returnsInHanded_of_change (C := Try.checked) ownKnob_ started (by kernel_rfl) Try.func4
    (ChangeSpec.witness6 (enc := enc) (C := Try.checked) false ⟨#[], #[.agg #[.int .u8 0, .int .i64 0, .int .i64 0, .int .i64 0, .int .i64 0, .int .i64 0, .int .i64 0, .int .i64 0, .int .i64 0, .slice none 0 0, .int .u32 0, .int .u8 0], .int .u8 0, .int .u8 0, .int .i64 0], []⟩ 8 (by kernel_rfl) (by kernel_rfl) (by kernel_rfl) (by kernel_rfl)) ?_
  intro W base args ds gs before hval0 hW _ _
  have hval : ∀ (j : Nat) t v, Try.f4.params[j]? = some t → args[j]? = some v → Value.okWide Try.prog W .any base t v := hval0
  have hW' := hW
  obtain ⟨p, q, hA0, hV, rfl, hfz, hnd⟩ := hW
  have hA : DataW.TrodAll enc Try.prog W 0 (fun _ => true) true Try.f4.params.toList args.toList ds p := hA0
  obtain ⟨rfl, rfl⟩ := trodVars_none hV
  rw [Try.params4] at hA hval
  obtain ⟨v0, vs0, d0, ds0, p0, q0, hargs, rfl, rfl, h0, r0⟩ := trodAll_cons hA
  obtain ⟨v1, vs1, d1, ds1, p1, q1, rfl, rfl, rfl, h1, r1⟩ := trodAll_cons r0
  obtain ⟨v2, vs2, d2, ds2, p2, q2, rfl, rfl, rfl, h2, r2⟩ := trodAll_cons r1
  obtain ⟨v3, vs3, d3, ds3, p3, q3, rfl, rfl, rfl, h3, r3⟩ := trodAll_cons r2
  obtain ⟨rfl, rfl, rfl⟩ := trodAll_nil r3
  obtain rfl : args = #[v0, v1, v2, v3] := by cases args; simp_all
  obtain ⟨x, A, l, c, rfl, hx, e1, e2, e3⟩ := open_small18 (hval 0 50 v0 rfl rfl) h0
  obtain ⟨n1, rfl, _, _, w1⟩ := open_int Try.underlying5 (hval 1 5 v1 rfl rfl) h1
  obtain ⟨n2, rfl, _, _, w2⟩ := open_int Try.underlying5 (hval 2 5 v2 rfl rfl) h2
  obtain ⟨n3, rfl, _, _, w3⟩ := open_int Try.underlying2 (hval 3 2 v3 rfl rfl) h3
  refine (cells_walk x hx A l c n1 n2 n3 W e3 e1 e2 (by simpa [Lit.wf, IntKind.min, IntKind.max, IntKind.signed, IntKind.bits] using w1) (by simpa [Lit.wf, IntKind.min, IntKind.max, IntKind.signed, IntKind.bits] using w2)).mono fun e W' ⟨he, hb⟩ => ?_
  subst he
  exact ⟨_, rfl, law_post hW' rfl (by kernel_rfl) (by decide +kernel) ⟨rfl, rfl, rfl⟩ hb⟩

theorem cells_over : Rows.instrCellsRow.holds Try.pinned (OpenSpec.ofChange Rows.instrCellsSpec) :=
  OpenClaim.holds_of_wide 4 Try.f4 rfl rfl rfl rfl rfl rfl rfl ⟨rfl, rfl, rfl, rfl, rfl⟩ rfl rfl rfl rfl rfl (by kernel_rfl) Try.func4 (by kernel_rfl)
    (of_decide_eq_true (by kernel_rfl)) (by unfold Func.isWrapper; first | (rw [if_pos (by decide +kernel)]; kernel_rfl) | (rw [if_neg (by decide +kernel)]; exact ⟨rfl, rfl⟩))
    (fun os started H enc _ => cells_lifted os started H enc)

theorem instrCells_proved : Rows.InstrCellsSaid := cells_over
end Go.Proofs.Ytmljmabbopkpiaa
