/- What a law is handed, opened for a walk over symbolic values; and from a walk to a law. -/
import Derived.Test.YtmljmabbopkpiaaLaw
import Derived.Test.YtmljmabbopkpiaaChecked
import Derived.Test.YtmljmabbopkpiaaVB1
import Derived.Test.YtmljmabbopkpiaaMade18
import Derived.Test.YtmljmabbopkpiaaOpenM
import Derived.ProofKit
import Derived.Deep.Slices
namespace Go.Proofs.Ytmljmabbopkpiaa
open Go.ChangeShapes Go.WideShapes Go.ChangeAt Go.RowKit Go.Deep
set_option linter.unusedVariables false
set_option linter.unusedSimpArgs false

theorem cell_lt {w : World} {p : Addr} {v : Value} (h : w.cell? p = some v) : p.block < w.heap.size := by
  rcases Nat.lt_or_ge p.block w.heap.size with hl | hg
  · exact hl
  · unfold World.cell? at h
    rw [Array.getElem?_eq_none hg] at h
    cases h
theorem trod_int_at {H : Type} {enc : TypeId × Value → H} {w : World} {base : Nat} {spare : Nat → Bool} {held : Bool} {n : Nat} {v : Value} {x : DataW H × List MemPlace} {t : TypeId} {k : IntKind} (ht : Try.prog.underlying t = some (.int k)) (h : DataW.trod enc Try.prog w base spare held n t [v] = some x) : ∃ a, v = .int k a ∧ (Lit.int k a).wf = true := by
  obtain ⟨a, e0, _, b⟩ := DataW.trod_int ht h
  exact ⟨a, (List.cons.inj e0).1, b⟩
/-- a slice of words, handed in, reads as a list -/
theorem open_words {H : Type} {enc : TypeId × Value → H} {w : World} {base : Nat} {n : Nat} {v : Value} {x : DataW H × List MemPlace} (h : DataW.trod enc Try.prog w base (fun _ => true) true n 47 [v] = some x) :
    ∃ A l c xs, v = .slice A l c ∧ l ≤ c ∧ c ≤ 9223372036854775807 ∧ Reads w w.heap.size 1 A l (int64s xs) := by
  rcases open_slice1 Try.underlying47 (by kernel_rfl) h with ⟨h0, _⟩ | ⟨a, len, cap, m, k, V, D, Pl, h0, _, hl, hm, hmm, _, hx⟩
  · exact ⟨none, 0, 0, [], (List.cons.inj h0).1, by omega, by omega, Reads.none_⟩
  · have hmc : m = cap := hmm.trans (if_pos rfl)
    obtain ⟨f, hf⟩ := choose_lt (n := len) (p := fun i (z : Int) => V i = .int .i64 z) (fun i hi => by
      obtain ⟨z, hz, _⟩ := trod_int_at Try.underlying2 (hx i (by omega)).2
      exact ⟨z, hz⟩)
    refine ⟨some a, len, cap, (List.range len).map f, (List.cons.inj h0).1, hl, by unfold maxLen at hm; omega, by simp [int64s], fun hn => ⟨a, rfl, ?_, fun j u hu => ?_⟩⟩
    · have := cell_lt (hx 0 (by omega)).1
      rwa [block_of_add] at this
    · have hj : j < len := by
        have := (List.getElem?_eq_some_iff.1 hu).1
        simpa [int64s] using this
      rw [(hx j (by omega)).1, ← hu, hf j hj]
      simp [int64s, hj]
set_option maxRecDepth 100000 in
theorem okWide_structS {w : World} {r : Reach} {base : Nat} {v : Value} (h : Value.okWide Try.prog w r base 50 v) : ∃ cs, v = .agg cs ∧ cs.size = Try.prog.cellsOf 50 := okWide_struct Try.underlying50 h

set_option maxRecDepth 100000 in
theorem open_small18 {H : Type} {enc : TypeId × Value → H} {w : World} {b0 : Nat} {r : Reach} {v : Value} {d : DataW H} {p : List MemPlace} (hv : Value.okWide Try.prog w r b0 50 v) (h : DataW.Trod enc Try.prog w 0 (fun _ => true) true 50 v d p) :
    ∃ (x : Sm) (A : Option Addr) (n c : Nat), v = .agg (x.cs (.slice A n c)) ∧ x.ok ∧ n ≤ c ∧ c ≤ 9223372036854775807 ∧ Reads w w.heap.size 1 A n (int64s x.cells) := by
  obtain ⟨cs, rfl, hsz⟩ := okWide_structS hv
  obtain ⟨l⟩ := cs
  have h5 : Try.prog.cellsOf 50 = 12 := by kernel_rfl
  have h1 : Try.prog.cellsOf 5 = 1 := by kernel_rfl
  have h2 : Try.prog.cellsOf 46 = 8 := by kernel_rfl
  have h3 : Try.prog.cellsOf 47 = 1 := by kernel_rfl
  have h4 : Try.prog.cellsOf 48 = 1 := by kernel_rfl
  match l, hsz.trans h5 with
  | [c0, c1, c2, c3, c4, c5, c6, c7, c8, c9, c10, c11], _ =>
    obtain ⟨fuel, hf⟩ := h
    obtain ⟨xs, n, _, _, _, hlen, hg⟩ := DataW.trod_struct Try.underlying50 hf
    match xs, hlen with
    | [y0, y1, y2, y3, y4], _ =>
      have g0 : DataW.trod enc Try.prog w 0 (fun _ => true) true n 5 [c0] = some y0 := by simpa [Value.cells, h1, h2, h3, h4] using hg 0 _ rfl
      have g1 : DataW.trod enc Try.prog w 0 (fun _ => true) true n 46 [c1, c2, c3, c4, c5, c6, c7, c8] = some y1 := by simpa [Value.cells, h1, h2, h3, h4] using hg 1 _ rfl
      have g2 : DataW.trod enc Try.prog w 0 (fun _ => true) true n 47 [c9] = some y2 := by simpa [Value.cells, h1, h2, h3, h4] using hg 2 _ rfl
      have g3 : DataW.trod enc Try.prog w 0 (fun _ => true) true n 48 [c10] = some y3 := by simpa [Value.cells, h1, h2, h3, h4] using hg 3 _ rfl
      have g4 : DataW.trod enc Try.prog w 0 (fun _ => true) true n 5 [c11] = some y4 := by simpa [Value.cells, h1, h2, h3, h4] using hg 4 _ rfl
      obtain ⟨a0, rfl, b0⟩ := trod_int_at Try.underlying5 g0
      obtain ⟨a3, rfl, b3⟩ := trod_int_at Try.underlying48 g3
      obtain ⟨a4, rfl, b4⟩ := trod_int_at Try.underlying5 g4
      obtain ⟨A, l, c, ys, rfl, e1, e2, e3⟩ := open_words g2
      obtain ⟨zs, k, _, _, _, zlen, hz⟩ := DataW.trod_array Try.underlying46 g1
      match zs, zlen with
      | [z0, z1, z2, z3, z4, z5, z6, z7], _ =>
        have h6 : Try.prog.cellsOf 2 = 1 := by kernel_rfl
        have u0 : DataW.trod enc Try.prog w 0 (fun _ => true) true k 2 [c1] = some z0 := by simpa [h6] using hz 0 (by decide)
        obtain ⟨r0, rfl, s0⟩ := trod_int_at Try.underlying2 u0
        have u1 : DataW.trod enc Try.prog w 0 (fun _ => true) true k 2 [c2] = some z1 := by simpa [h6] using hz 1 (by decide)
        obtain ⟨r1, rfl, s1⟩ := trod_int_at Try.underlying2 u1
        have u2 : DataW.trod enc Try.prog w 0 (fun _ => true) true k 2 [c3] = some z2 := by simpa [h6] using hz 2 (by decide)
        obtain ⟨r2, rfl, s2⟩ := trod_int_at Try.underlying2 u2
        have u3 : DataW.trod enc Try.prog w 0 (fun _ => true) true k 2 [c4] = some z3 := by simpa [h6] using hz 3 (by decide)
        obtain ⟨r3, rfl, s3⟩ := trod_int_at Try.underlying2 u3
        have u4 : DataW.trod enc Try.prog w 0 (fun _ => true) true k 2 [c5] = some z4 := by simpa [h6] using hz 4 (by decide)
        obtain ⟨r4, rfl, s4⟩ := trod_int_at Try.underlying2 u4
        have u5 : DataW.trod enc Try.prog w 0 (fun _ => true) true k 2 [c6] = some z5 := by simpa [h6] using hz 5 (by decide)
        obtain ⟨r5, rfl, s5⟩ := trod_int_at Try.underlying2 u5
        have u6 : DataW.trod enc Try.prog w 0 (fun _ => true) true k 2 [c7] = some z6 := by simpa [h6] using hz 6 (by decide)
        obtain ⟨r6, rfl, s6⟩ := trod_int_at Try.underlying2 u6
        have u7 : DataW.trod enc Try.prog w 0 (fun _ => true) true k 2 [c8] = some z7 := by simpa [h6] using hz 7 (by decide)
        obtain ⟨r7, rfl, s7⟩ := trod_int_at Try.underlying2 u7
        simp [Lit.wf, IntKind.min, IntKind.max, IntKind.signed, IntKind.bits] at b0 b3 b4 s0 s1 s2 s3 s4 s5 s6 s7
        exact ⟨⟨a0, fun j => match j with | 0 => r0 | 1 => r1 | 2 => r2 | 3 => r3 | 4 => r4 | 5 => r5 | 6 => r6 | _ => r7, ys, a3, a4⟩, A, l, c, rfl, ⟨b0.1, b0.2, fun k => match k with | 0 => s0 | 1 => s1 | 2 => s2 | 3 => s3 | 4 => s4 | 5 => s5 | 6 => s6 | n + 7 => s7, b3.1, b3.2, b4.1, b4.2⟩, e1, e2, e3⟩

set_option maxRecDepth 100000 in
theorem open_envD {H : Type} {enc : TypeId × Value → H} {w : World} {base b0 : Nat} {r : Reach} {spare : Nat → Bool} {held : Bool} {v : Value} {d : DataW H} {p : List MemPlace} (hv : Value.okWide Try.prog w r b0 56 v) (h : DataW.Trod enc Try.prog w base spare held 56 v d p) :
    ∃ a b c e f, v = .agg #[.int .u64 a, .int .i64 b, .int .i64 c, .int .i64 e, .int .i64 f] := by
  obtain ⟨cs, rfl, hsz⟩ := okWide_struct Try.underlying56 hv
  obtain ⟨l⟩ := cs
  have h5 : Try.prog.cellsOf 56 = 5 := by kernel_rfl
  have h1 : Try.prog.cellsOf 29 = 1 := by kernel_rfl
  have h2 : Try.prog.cellsOf 3 = 1 := by kernel_rfl
  match l, hsz.trans h5 with
  | [c0, c1, c2, c3, c4], _ =>
    obtain ⟨fuel, hf⟩ := h
    obtain ⟨xs, n, _, _, _, hlen, hg⟩ := DataW.trod_struct Try.underlying56 hf
    match xs, hlen with
    | [y0, y1, y2, y3, y4], _ =>
      have g0 : DataW.trod enc Try.prog w base spare held n 29 [c0] = some y0 := by simpa [Value.cells, h1, h2] using hg 0 _ rfl
      have g1 : DataW.trod enc Try.prog w base spare held n 3 [c1] = some y1 := by simpa [Value.cells, h1, h2] using hg 1 _ rfl
      have g2 : DataW.trod enc Try.prog w base spare held n 3 [c2] = some y2 := by simpa [Value.cells, h1, h2] using hg 2 _ rfl
      have g3 : DataW.trod enc Try.prog w base spare held n 3 [c3] = some y3 := by simpa [Value.cells, h1, h2] using hg 3 _ rfl
      have g4 : DataW.trod enc Try.prog w base spare held n 3 [c4] = some y4 := by simpa [Value.cells, h1, h2] using hg 4 _ rfl
      obtain ⟨a, e0, _, _⟩ := DataW.trod_int Try.underlying29 g0
      obtain rfl := (List.cons.inj e0).1
      obtain ⟨b, e1, _, _⟩ := DataW.trod_int Try.underlying3 g1
      obtain rfl := (List.cons.inj e1).1
      obtain ⟨c, e2, _, _⟩ := DataW.trod_int Try.underlying3 g2
      obtain rfl := (List.cons.inj e2).1
      obtain ⟨e, e3, _, _⟩ := DataW.trod_int Try.underlying3 g3
      obtain rfl := (List.cons.inj e3).1
      obtain ⟨f, e4, _, _⟩ := DataW.trod_int Try.underlying3 g4
      obtain rfl := (List.cons.inj e4).1
      exact ⟨a, b, c, e, f, rfl⟩


set_option maxRecDepth 100000 in
/-- a slice of raw instructions, handed in, reads as a list -/
theorem open_small14s {H : Type} {enc : TypeId × Value → H} {w : World} {n : Nat} {v : Value} {x : DataW H × List MemPlace} (h : DataW.trod enc Try.prog w 0 (fun _ => true) true n 22 [v] = some x) :
    ∃ A l c xs, v = .slice A l c ∧ l ≤ c ∧ c ≤ 9223372036854775807 ∧ (∀ i ∈ xs, Ins.ok i) ∧ Reads w w.heap.size 5 A l (insV xs) := by
  have h5 : Try.prog.cellsOf 121 = 5 := by kernel_rfl
  have hc1 : Try.prog.cellsOf 5 = 1 := by kernel_rfl
  have hc2 : Try.prog.cellsOf 2 = 1 := by kernel_rfl
  rcases open_slice Try.underlying22 h with ⟨h0, _⟩ | ⟨a, len, cap, m, k, D, Pl, h0, _, hl, hm, hmm, _, hx⟩
  · exact ⟨none, 0, 0, [], (List.cons.inj h0).1, by omega, by omega, (fun _ h => by cases h), Reads.none_⟩
  · have hmc : m = cap := hmm.trans (if_pos rfl)
    have each : ∀ i, i < len → ∃ y : Ins, y.ok ∧ ∀ j u, y.cells[j]? = some u → w.cell? (a.add (i * 5 + j)) = some u := by
      intro i hi
      obtain ⟨cs', h1, h2⟩ := hx i (by omega)
      rw [h5] at h1
      obtain ⟨_, hlen, hcell⟩ := World.cells?_some h1
      obtain ⟨ys, q, _, _, _, hyl, hf⟩ := DataW.trod_struct Try.underlying121 h2
      match ys, hyl, cs', hlen with
      | [y0, y1, y2, y3, y4], _, [c0, c1, c2, c3, c4], _ =>
        have g0 : DataW.trod enc Try.prog w 0 (fun _ => true) true q 5 [c0] = some y0 := by simpa [hc1, hc2] using hf 0 _ rfl
        have g1 : DataW.trod enc Try.prog w 0 (fun _ => true) true q 5 [c1] = some y1 := by simpa [hc1, hc2] using hf 1 _ rfl
        have g2 : DataW.trod enc Try.prog w 0 (fun _ => true) true q 5 [c2] = some y2 := by simpa [hc1, hc2] using hf 2 _ rfl
        have g3 : DataW.trod enc Try.prog w 0 (fun _ => true) true q 5 [c3] = some y3 := by simpa [hc1, hc2] using hf 3 _ rfl
        have g4 : DataW.trod enc Try.prog w 0 (fun _ => true) true q 2 [c4] = some y4 := by simpa [hc1, hc2] using hf 4 _ rfl
        obtain ⟨a0, rfl, b0⟩ := trod_int_at Try.underlying5 g0
        obtain ⟨a1, rfl, b1⟩ := trod_int_at Try.underlying5 g1
        obtain ⟨a2, rfl, b2⟩ := trod_int_at Try.underlying5 g2
        obtain ⟨a3, rfl, b3⟩ := trod_int_at Try.underlying5 g3
        obtain ⟨a4, rfl, b4⟩ := trod_int_at Try.underlying2 g4
        simp [Lit.wf, IntKind.min, IntKind.max, IntKind.signed, IntKind.bits] at b0 b1 b2 b3 b4
        refine ⟨⟨a0, a1, a2, a3, a4⟩, ⟨b0.1, b0.2, b1.1, b1.2, b2.1, b2.2, b3.1, b3.2, b4.1, b4.2⟩, fun j u hj => ?_⟩
        have hj5 : j < 5 := (List.getElem?_eq_some_iff.1 hj).1
        have := hcell j hj5
        rw [Vm.add_add] at this
        rw [this]
        exact hj
    have : Inhabited Ins := ⟨⟨0, 0, 0, 0, 0⟩⟩
    obtain ⟨f, hf⟩ := choose_lt (n := len) (p := fun i (y : Ins) => y.ok ∧ ∀ j u, y.cells[j]? = some u → w.cell? (a.add (i * 5 + j)) = some u) each
    refine ⟨some a, len, cap, (List.range len).map f, (List.cons.inj h0).1, hl, by unfold maxLen at hm; omega, fun i hi => ?_, by rw [insV_len]; simp, fun hn => ⟨a, rfl, ?_, fun j u hu => ?_⟩⟩
    · obtain ⟨q, hq, rfl⟩ := List.mem_map.1 hi
      exact (hf q (List.mem_range.1 hq)).1
    · have := cell_lt ((hf 0 hn).2 0 _ rfl)
      rwa [block_of_add] at this
    · have hj := (List.getElem?_eq_some_iff.1 hu).1
      rw [insV_len] at hj
      simp at hj
      obtain ⟨q, r, hr5, rfl⟩ : ∃ q r, r < 5 ∧ j = q * 5 + r := ⟨j / 5, j % 5, by omega, by omega⟩
      have hq : q < len := by omega
      refine (hf q hq).2 r u ?_
      have hfl := flat_at Ins.cells 5 (fun _ => rfl) ((List.range len).map f) q r (f q) (by simp [hq]) hr5
      rw [← hfl]
      exact hu

namespace Vm
/-! ### memory at the start -/
theorem start (W : World) : Rep W (fun _ => False) (fun _ => (none, 0)) (hp [.gone]) W := by
  have h1 : ∀ i, hp [.gone] i = .gone ∨ hp [.gone] i = .dead := fun i => by
    cases i with
    | zero => exact .inl rfl
    | succ i => exact .inr (by unfold hp; simp)
  have hm : ∀ i, (hp [.gone] i).mine = false := fun i => by rcases h1 i with h | h <;> rw [h] <;> rfl
  refine { os := rfl, tape := rfl, output := rfl, size := Nat.le_refl _, frame := fun _ _ _ => rfl, nil := rfl, nil0 := rfl, st := fun i => ?_, blk := fun i => ?_, own := fun i a h => ?_, ro := fun i v a h => ?_, dist := fun i j ai aj _ h => ?_, lt := fun i a h => ?_ }
  · rcases h1 i with h | h <;> rw [h] <;> trivial
  · rcases h1 i with h | h <;> rw [h] <;> trivial
  · rw [hm i] at h; cases h
  · rcases h1 i with h' | h' <;> rw [h'] at h <;> cases h
  · rw [hm i] at h; cases h
  · rw [hm i] at h; cases h
/-- a slice that is handed in: where it begins, and what it reads as -/
theorem Rep.handed {W : World} {β : Env} {L : List HB} (R : Rep W (fun _ => False) β (hp L) W) (m : Nat) (hm : L.length = m) {A : Option Addr} {n cap k : Nat} {f : Nat → SV} (hr : Reads W W.heap.size k A n (elems β k n f)) (hn : n ≤ cap) (hf : ∀ q, Stable (hp L) (f q)) (hk : 0 < k) :
    ∃ β', (∀ i, (hp L i).born = true → β i = β' i) ∧ Rep W (fun _ => False) β' (hp (setH (setH L m .gone) (m + 1) (.ro (.arr n k f)))) W ∧ (SV.sl m (m + 1) [] k 0 n (some cap)).den β' = .slice A n cap := by
  have h1 : hp L m = .dead := hp_dead (by omega)
  have h2 : hp L (m + 1) = .dead := hp_dead (by omega)
  have R1 := R.birth m h1 (A, cap) .gone trivial rfl trivial (fun a hm _ => by cases hm) (fun v a hv => by cases hv)
  have hs : Stable (hp L) (.arr n k f) := by simp only [Stable]; exact hf
  have born1 : ∀ i, (hp L i).born = true → (upd (hp L) m .gone i).born = true := fun i hi => by unfold upd; split <;> simp_all [HB.born]
  have hs1 : Stable (upd (hp L) m .gone) (.arr n k f) := hs.more born1
  let e2 : Option Addr × Nat := (if n = 0 then none else A, n)
  have ag : ∀ i, (hp L i).born = true → β i = setE (setE β m (A, cap)) (m + 1) e2 i := fun i hi => by
    rw [setE_ne (by rintro rfl; rw [h2] at hi; cases hi), setE_ne (by rintro rfl; rw [h1] at hi; cases hi)]
  have hcl : (SV.arr n k f).cl (setE (setE β m (A, cap)) (m + 1) e2) = elems β k n f := by rw [← hs.cl ag, cl_arr']
  have R2 := R1.birth (m + 1) (by rw [upd_ne (by omega)]; exact h2) e2 (.ro (.arr n k f)) (hs1.more fun i hi => by unfold upd at hi ⊢; split <;> simp_all [HB.born]) rfl ?_ (fun a hm _ => by cases hm) ?_
  · refine ⟨_, ag, by rw [hp_setH, hp_setH]; exact R2, ?_⟩
    simp only [SV.den, setE_same, setE_ne (show m ≠ m + 1 by omega), Option.getD_some]
    by_cases h0 : n = 0
    · subst h0; simp
    · obtain ⟨ad, rfl, _⟩ := hr.2 (by omega)
      have e : max n cap = cap := by omega
      simp [h0, e2, e, offp, Addr.add]
  · refine ⟨fun a ha j x hx => ?_, fun hn => ?_, fun n' k' f' hv => ?_⟩
    · rw [setE_same] at ha
      rw [hcl] at hx
      by_cases h0 : n = 0
      · simp [e2, h0] at ha
      · obtain ⟨ad, rfl, _, hc⟩ := hr.2 (by omega)
        simp [e2, h0] at ha
        subst ha
        exact hc j x hx
    · rw [setE_same] at hn
      by_cases h0 : n = 0
      · simp [SV.size, h0]
      · obtain ⟨ad, rfl, _⟩ := hr.2 (by omega)
        simp [e2, h0] at hn
    · injection hv with q1 q2 q3
      rw [setE_same]
      exact Nat.le_of_eq q1.symm
  · intro v a hv ha hz
    injection hv with hv
    subst hv
    by_cases h0 : n = 0
    · simp [e2, h0] at ha
    · obtain ⟨ad, rfl, hb, _⟩ := hr.2 (by omega)
      simp [e2, h0] at ha
      subst ha
      exact ⟨hb, id⟩

/-- a law that a walk has shown -/
theorem law_of_lit {f : FuncId} {args : List SV} {L0 L1 : List HB} {W : World} {β : Env} (H : LitOk Try.prog f args L0 (.bool true) L1) (R : Rep W (fun _ => False) β (hp L0) W) :
    Calls Try.prog f (denL β args).toArray W fun e W' => e = .returned (.bool true) ∧ Below W.heap.size W W' :=
  (H W _ β W R).mono fun e W' ⟨β', _, R', _, he⟩ => ⟨he, R'.os, R'.tape, R'.output, R'.size, fun k hk => R'.frame k hk id⟩
end Vm
end Go.Proofs.Ytmljmabbopkpiaa
