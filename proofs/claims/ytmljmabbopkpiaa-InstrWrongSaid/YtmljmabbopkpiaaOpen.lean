/- what is right: Env.right, State.right; copied, open, step, Do. -/
import Derived.Test.YtmljmabbopkpiaaDoC
import Derived.Test.YtmljmabbopkpiaaCheck
namespace Go.Proofs.Ytmljmabbopkpiaa
open Go.RowKit
set_option linter.unusedVariables false
set_option linter.unusedSimpArgs false

def Envi.v (v : Envi) : Value := .agg #[.int .u64 v.seed, .int .i64 v.process, .int .i64 v.ports, .int .i64 v.look, .int .i64 v.now]
def Envi.rightB (v : Envi) : Bool := decide (0 ≤ v.process ∧ v.process ≤ 65536 ∧ 0 ≤ v.ports ∧ 1 ≤ v.look ∧ 0 ≤ v.now ∧ v.now ≤ 281474976710656)

set_option maxRecDepth 100000 in
set_option maxHeartbeats 1000000 in
theorem envRight_c (v : Envi) (w : World) : Calls Try.prog 109 #[v.v] w fun e w' => e = .returned (.bool v.rightB) ∧ Below w.heap.size w w' := by
  obtain ⟨sd, p, q, l, n⟩ := v
  obtain ⟨B, hB⟩ : ∃ B, B = Envi.rightB ⟨sd, p, q, l, n⟩ := ⟨_, rfl⟩
  rw [← hB]
  unfold Envi.v
  dsimp only
  by_cases h1 : 0 ≤ p
  · by_cases h2 : p ≤ 65536
    · by_cases h3 : 0 ≤ q
      · by_cases h4 : 1 ≤ l
        · by_cases h5 : 0 ≤ n
          · have hx : B = decide (n ≤ 281474976710656) := by rw [hB]; simp [Envi.rightB, h1, h2, h3, h4, h5]
            subst hx; clear hB
            go_enter Try.func109, Try.ntmps109
            go_wp2
            go_ret
            exact ⟨rfl, (Below.refl _ w).alloc (Nat.le_refl _) _⟩
          · have hx : B = false := by rw [hB]; simp [Envi.rightB]; omega
            have hd := decide_eq_false h5
            subst hx; clear hB
            go_enter Try.func109, Try.ntmps109
            go_wp2
            go_ret
            exact ⟨rfl, (Below.refl _ w).alloc (Nat.le_refl _) _⟩
        · have hx : B = false := by rw [hB]; simp [Envi.rightB]; omega
          have hd := decide_eq_false h4
          subst hx; clear hB
          go_enter Try.func109, Try.ntmps109
          go_wp2
          go_ret
          exact ⟨rfl, (Below.refl _ w).alloc (Nat.le_refl _) _⟩
      · have hx : B = false := by rw [hB]; simp [Envi.rightB]; omega
        have hd := decide_eq_false h3
        subst hx; clear hB
        go_enter Try.func109, Try.ntmps109
        go_wp2
        go_ret
        exact ⟨rfl, (Below.refl _ w).alloc (Nat.le_refl _) _⟩
    · have hx : B = false := by rw [hB]; simp [Envi.rightB]; omega
      have hd := decide_eq_false h2
      subst hx; clear hB
      go_enter Try.func109, Try.ntmps109
      go_wp2
      go_ret
      exact ⟨rfl, (Below.refl _ w).alloc (Nat.le_refl _) _⟩
  · have hx : B = false := by rw [hB]; simp [Envi.rightB]; omega
    have hd := decide_eq_false h1
    subst hx; clear hB
    go_enter Try.func109, Try.ntmps109
    go_wp2
    go_ret
    exact ⟨rfl, (Below.refl _ w).alloc (Nat.le_refl _) _⟩

/-- a state as a value: 13 cells -/
def St.v (s : St) (C S : Value) : Value := .agg #[.int .i64 s.at_, .bool s.ended, .int .i64 (s.regs 0), .int .i64 (s.regs 1), .int .i64 (s.regs 2), .int .i64 (s.regs 3), .int .i64 (s.regs 4), .int .i64 (s.regs 5), .int .i64 (s.regs 6), .int .i64 (s.regs 7), C, .int .i64 s.draws, S]
/-- right for a program of n instructions; m: the number of cells -/
def rightB (at_ draws n m : Int) : Bool := decide (0 ≤ at_ ∧ at_ < n ∧ m ≤ 1024 ∧ 0 ≤ draws ∧ draws ≤ 1099511627776)

set_option maxRecDepth 100000 in
set_option maxHeartbeats 1000000 in
theorem stateRight_c (s : St) (A : Option Addr) (m c : Nat) (S : Value) (n : Int) (w : World) : Calls Try.prog 110 #[s.v (.slice A m c) S, .int .i64 n] w fun e w' => e = .returned (.bool (rightB s.at_ s.draws n m)) ∧ Below w.heap.size w w' := by
  obtain ⟨p, en, r, cs, d, sn⟩ := s
  obtain ⟨B, hB⟩ : ∃ B, B = rightB p d n m := ⟨_, rfl⟩
  dsimp only
  rw [← hB]
  unfold St.v
  dsimp only
  by_cases h1 : 0 ≤ p
  · by_cases h2 : p < n
    · by_cases h3 : (m : Int) ≤ 1024
      · by_cases h4 : 0 ≤ d
        · have hx : B = decide (d ≤ 1099511627776) := by rw [hB]; simp only [rightB, h1, h2, h3, h4, true_and]
          subst hx; clear hB
          go_enter Try.func110, Try.ntmps110
          go_wp2
          go_ret
          exact ⟨rfl, (Below.refl _ w).alloc (Nat.le_refl _) _⟩
        · have hx : B = false := by rw [hB]; unfold rightB; exact decide_eq_false (by omega)
          have hd := decide_eq_false h4
          subst hx; clear hB
          go_enter Try.func110, Try.ntmps110
          go_wp2
          go_ret
          exact ⟨rfl, (Below.refl _ w).alloc (Nat.le_refl _) _⟩
      · have hx : B = false := by rw [hB]; unfold rightB; exact decide_eq_false (by omega)
        have hd := decide_eq_false h3
        subst hx; clear hB
        go_enter Try.func110, Try.ntmps110
        go_wp2
        go_ret
        exact ⟨rfl, (Below.refl _ w).alloc (Nat.le_refl _) _⟩
    · have hx : B = false := by rw [hB]; unfold rightB; exact decide_eq_false (by omega)
      have hd := decide_eq_false h2
      subst hx; clear hB
      go_enter Try.func110, Try.ntmps110
      go_wp2
      go_ret
      exact ⟨rfl, (Below.refl _ w).alloc (Nat.le_refl _) _⟩
  · have hx : B = false := by rw [hB]; unfold rightB; exact decide_eq_false (by omega)
    have hd := decide_eq_false h1
    subst hx; clear hB
    go_enter Try.func110, Try.ntmps110
    go_wp2
    go_ret
    exact ⟨rfl, (Below.refl _ w).alloc (Nat.le_refl _) _⟩
end Go.Proofs.Ytmljmabbopkpiaa
