/- code (layer 14): contracts of One, Goes, Target. -/
import Derived.Test.YtmljmabbopkpiaaProg
import Derived.Test.YtmljmabbopkpiaaBase
import Derived.Test.YtmljmabbopkpiaaForm
import Derived.Test.YtmljmabbopkpiaaOne
namespace Go.Proofs.Ytmljmabbopkpiaa
open Go.RowKit
set_option linter.unusedVariables false
set_option linter.unusedSimpArgs false

set_option maxHeartbeats 1000000 in
theorem one_k0 (op a b c n : Int) (w : World)
   (hform : ∀ w, Calls Try.prog 39 #[.int .u8 op] w fun e w' => e = .returned (.tuple #[.string ⟨#[]⟩, .bool false]) ∧ Below w.heap.size w w') :
    Calls Try.prog 97 #[.agg #[.int .u8 op, .int .u8 a, .int .u8 b, .int .u8 c, .int .i64 n]] w fun e w' => e = .returned (.int .i64 140) ∧ Below w.heap.size w w' := by
  go_enter Try.func97, Try.ntmps97
  have HF := Lib.hid hform
  clear hform
  go_wp2_with fail
  refine (HF.out _).mono ?_
  rintro e w1 ⟨rfl, hb1⟩
  go_wp2
  go_ret
  exact ⟨rfl, ((Below.refl _ w).alloc (Nat.le_refl _) _).trans (hb1.mono (by simp))⟩

theorem form_c (op : Int) (h0 : 0 ≤ op) (w : World) : Calls Try.prog 39 #[.int .u8 op] w fun e w' => e = .returned (.tuple #[.string (formS (formC op)), .bool (formC op != 0)]) ∧ Below w.heap.size w w' := by
  by_cases h : 32 < op
  · by_cases h' : op ≤ 49
    · have hc : formC op = 1 := by unfold formC; rw [if_pos ⟨h, h'⟩]
      rw [hc]
      exact form_rrr op w h h'
    · exact form_hi op w (by omega)
  · exact form_lo op w h0 (by omega)

theorem one_c (i : Ins) (hi : i.ok) (w : World) : Calls Try.prog 97 #[i.v] w fun e w' => e = .returned (.int .i64 (oneE i)) ∧ Below w.heap.size w w' := by
  obtain ⟨op, a, b, c, n⟩ := i
  obtain ⟨o0, o1, a0, a1, b0, b1, c0, c1, n0, n1⟩ := hi
  dsimp only at *
  have hf := form_c op o0
  unfold Ins.v oneE
  dsimp only
  have hk : formC op = 0 ∨ formC op = 1 ∨ formC op = 2 ∨ formC op = 3 ∨ formC op = 4 ∨ formC op = 5 ∨ formC op = 6 ∨ formC op = 7 := by
    unfold formC; repeat (first | (split; · simp) | simp)
  rcases hk with h | h | h | h | h | h | h | h <;> rw [h] at hf <;> rw [h]
  · exact one_k0 op a b c n w hf
  · exact one_k1 op a b c n w a0 a1 b0 b1 c0 c1 hf
  · exact one_k2 op a b c n w a0 a1 b0 b1 c0 c1 hf
  · exact one_k3 op a b c n w a0 a1 b0 b1 c0 c1 hf
  · exact one_k4 op a b c n w a0 a1 b0 b1 c0 c1 hf
  · exact one_k5 op a b c n w a0 a1 b0 b1 c0 c1 hf
  · exact one_k6 op a b c n w a0 a1 b0 b1 c0 c1 hf
  · exact one_k7 op a b c n w a0 a1 b0 b1 c0 c1 hf

theorem oneE_vals (i : Ins) : oneE i = 0 ∨ oneE i = 140 ∨ oneE i = 141 := by
  unfold oneE oneK; split
  · exact .inr (.inl rfl)
  · split
    · exact .inl rfl
    · exact .inr (.inr rfl)

/-- whether an instruction goes on -/
def goesB (i : Ins) : Bool := oneE i == 0 && (i.op != 1 && (i.op != 2 && i.op != 9))
set_option maxRecDepth 100000 in
set_option maxHeartbeats 1000000 in
theorem goes_c (i : Ins) (hi : i.ok) (w : World) : Calls Try.prog 99 #[i.v] w fun e w' => e = .returned (.bool (goesB i)) ∧ Below w.heap.size w w' := by
  have h1 := fun w => one_c i hi w
  obtain ⟨E, hE⟩ : ∃ E, E = oneE i := ⟨_, rfl⟩
  unfold goesB
  rw [← hE] at h1 ⊢
  obtain ⟨op, a, b, c, n⟩ := i
  unfold Ins.v at h1 ⊢
  dsimp only at h1 ⊢
  have H1 := Lib.hid h1
  clear h1 hE hi
  go_enter Try.func99, Try.ntmps99
  go_wp2_with fail
  refine (H1.out _).mono ?_
  rintro e w1 ⟨rfl, hb1⟩
  have hB := Lib.hid (((Below.refl _ w).alloc (Nat.le_refl _) _).trans (hb1.mono (by simp)))
  have q0 : w1.cell? ⟨w.heap.size, 0, none⟩ = some (.int .u8 op) := by
    rw [hb1.cell (p := ⟨w.heap.size, 0, none⟩) (by simp)]; exact cell_of_row _ _ _ _ _ _ (heap_alloc_new w _)
  clear hb1
  go_wp2
  all_goals (go_ret; refine ⟨?_, hB.out⟩)
  all_goals first | (simp [*]; done) | (simp [*, Bool.and_assoc]; done)

/-- whether an instruction has a target -/
def targB (i : Ins) : Bool := oneE i == 0 && (i.op == 9 || (i.op == 10 || i.op == 11))
def targV (i : Ins) : Int := if targB i then i.n else 0
set_option maxRecDepth 100000 in
set_option maxHeartbeats 1000000 in
theorem target_c (i : Ins) (hi : i.ok) (w : World) : Calls Try.prog 98 #[i.v] w fun e w' => e = .returned (.tuple #[.int .i64 (targV i), .bool (targB i)]) ∧ Below w.heap.size w w' := by
  have h1 := fun w => one_c i hi w
  obtain ⟨E, hE⟩ : ∃ E, E = oneE i := ⟨_, rfl⟩
  obtain ⟨V, hV⟩ : ∃ V, V = targV i := ⟨_, rfl⟩
  obtain ⟨T, hT⟩ : ∃ T, T = targB i := ⟨_, rfl⟩
  have hV' := hV
  unfold targV at hV'
  rw [← hT] at hV'
  have hT' := hT
  unfold targB at hT'
  rw [← hE] at h1 hT'
  rw [← hT, ← hV]
  obtain ⟨op, a, b, c, n⟩ := i
  unfold Ins.v at h1 ⊢
  dsimp only at h1 hT' hV' ⊢
  have H1 := Lib.hid h1
  have HT := Lib.hid hT'
  have HV := Lib.hid hV'
  clear h1 hE hi hT hT' hV hV'
  go_enter Try.func98, Try.ntmps98
  go_wp2_with fail
  refine (H1.out _).mono ?_
  rintro e w1 ⟨rfl, hb1⟩
  have hB := Lib.hid (((Below.refl _ w).alloc (Nat.le_refl _) _).trans (hb1.mono (by simp)))
  have q0 : w1.cell? ⟨w.heap.size, 0, none⟩ = some (.int .u8 op) := by
    rw [hb1.cell (p := ⟨w.heap.size, 0, none⟩) (by simp)]; exact cell_of_row _ _ _ _ _ _ (heap_alloc_new w _)
  have q4 : w1.cell? ⟨w.heap.size, 4, none⟩ = some (.int .i64 n) := by
    rw [hb1.cell (p := ⟨w.heap.size, 4, none⟩) (by simp)]; exact cell_of_row _ _ _ _ _ _ (heap_alloc_new w _)
  clear hb1
  go_wp2
  all_goals go_ret2
  all_goals refine ⟨?_, hB.out⟩
  all_goals rw [HV.out, HT.out]
  all_goals first | (simp [*]; done) | (simp_all; done) | ((have hq : ((op != 9) = false ∨ (op != 10) = false) ∨ (op != 11) = false := (by assumption)); simp at hq; (have h11 : op = 11 := (by omega)); simp [*]; done)
end Go.Proofs.Ytmljmabbopkpiaa
