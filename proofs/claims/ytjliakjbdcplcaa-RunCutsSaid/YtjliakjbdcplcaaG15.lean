import Derived.Test.YtjliakjbdcplcaaG6
import Derived.Test.YtjliakjbdcplcaaG13
section
namespace Go.Proofs.Ytjliakjbdcplcaa
open Go.ChangeShapes Go.WideShapes Go.ChangeAt Go.RowKit Go.Deep
set_option linter.unusedVariables false
set_option linter.unusedSimpArgs false
theorem open_bytes19 {H : Type} {enc : TypeId × Value → H} {w : World} {base : Nat} {n : Nat} {v : Value} {x : DataW H × List MemPlace} (h : DataW.trod enc Try.prog w base (fun _ => true) true n 51 [v] = some x) :
    ∃ A l c xs, v = .slice A l c ∧ l ≤ c ∧ c ≤ 9223372036854775807 ∧ (∀ q, 0 ≤ List.getD xs q 0 ∧ List.getD xs q 0 ≤ 255) ∧ Reads w w.heap.size 1 A l (Vm.u8V xs) ∧ List.length xs = l := by
  rcases open_slice1 Try.underlying51 (by kernel_rfl) h with ⟨h0, _⟩ | ⟨a, len, cap, m, k, V, D, Pl, h0, _, hl, hm, hmm, _, hx⟩
  · exact ⟨none, 0, 0, [], (List.cons.inj h0).1, by omega, by omega, (fun q => by simp), Reads.none_, rfl⟩
  · have hmc : m = cap := hmm.trans (if_pos rfl)
    obtain ⟨f, hf⟩ := choose_lt (n := len) (p := fun i (z : Int) => V i = .int .u8 z ∧ 0 ≤ z ∧ z ≤ 255) (fun i hi => by
      obtain ⟨z, hz, b⟩ := trod_int_at17 Try.underlying5 (hx i (by omega)).2
      simp [Lit.wf, IntKind.min, IntKind.max, IntKind.signed, IntKind.bits] at b
      exact ⟨z, hz, b.1, b.2⟩)
    refine ⟨some a, len, cap, (List.range len).map f, (List.cons.inj h0).1, hl, by unfold maxLen at hm; omega, fun q => ?_, ⟨by simp [Vm.u8V], ?_⟩, by simp⟩
    · rw [List.getD_eq_getElem?_getD]
      rcases Nat.lt_or_ge q len with hq | hq
      · rw [List.getElem?_eq_getElem (by simpa using hq)]
        simp only [Option.getD_some, List.getElem_map, List.getElem_range]
        exact (hf q hq).2
      · rw [List.getElem?_eq_none (by simpa using hq)]; simp
    · refine fun hn => ⟨a, rfl, ?_, fun j u hu => ?_⟩
      · have := cell_lt17 (hx 0 (by omega)).1
        rwa [block_of_add] at this
      · have hj : j < len := by
          have := (List.getElem?_eq_some_iff.1 hu).1
          simpa [Vm.u8V] using this
        rw [(hx j (by omega)).1, ← hu, (hf j hj).1]
        simp [Vm.u8V, hj]
end Go.Proofs.Ytjliakjbdcplcaa
end
