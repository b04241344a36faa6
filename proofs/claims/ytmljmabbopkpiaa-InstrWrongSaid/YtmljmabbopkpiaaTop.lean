/- what instr.Do answers, as a plain function; what a right program's instructions are. -/
import Derived.Test.YtmljmabbopkpiaaDoC
import Derived.Test.YtmljmabbopkpiaaCheck
import Derived.Test.YtmljmabbopkpiaaOpen
namespace Go.Proofs.Ytmljmabbopkpiaa
open Go.RowKit
set_option linter.unusedVariables false
set_option linter.unusedSimpArgs false

def insAt (p : List Ins) (k : Int) : Ins := p.getD k.toNat ⟨0, 0, 0, 0, 0⟩
def openE (p : List Ins) (v : Envi) (s : St) : Int :=
  if (checkI p).2 ≠ 0 then 180 else if v.rightB = false then 181 else if rightB s.at_ s.draws p.length s.cells.length = false then 182 else 0
def stepE (p : List Ins) (v : Envi) (s : St) : Int := if s.ended = true then 183 else doE s v (insAt p s.at_)
def topE (p : List Ins) (v : Envi) (s : St) : Int := if openE p v s ≠ 0 then openE p v s else stepE p v s
def zeroSt : St := ⟨0, false, fun _ => 0, [], 0, []⟩
def topS (p : List Ins) (v : Envi) (s : St) : St := if topE p v s ≠ 0 then zeroSt else doS s v (insAt p s.at_)

theorem badAt_zero {n : Int} {i : Ins} (h : badAt n i = 0) : oneE i = 0 := by
  unfold badAt at h
  by_cases h1 : oneE i = 0
  · exact h1
  · rw [if_pos h1] at h; exact h
theorem checkI_zero {p : List Ins} (h : (checkI p).2 = 0) : 0 < p.length ∧ p.length ≤ 256 ∧ ∀ i ∈ p, oneE i = 0 := by
  unfold checkI at h
  by_cases h0 : p.length = 0
  · rw [if_pos h0] at h; cases h
  · by_cases h1 : 256 < p.length
    · rw [if_neg h0, if_pos h1] at h; cases h
    · rw [if_neg h0, if_neg h1] at h
      refine ⟨by omega, by omega, fun i hi => ?_⟩
      unfold checkK at h
      cases hf : p.findIdx? (fun i => badAt p.length i != 0) with
      | some k =>
        rw [hf] at h
        obtain ⟨hk, hb, _⟩ := List.findIdx?_eq_some_iff_getElem.1 hf
        exfalso
        have hg : p.getD k ⟨0, 0, 0, 0, 0⟩ = p[k] := by simp [List.getD, hk]
        dsimp only at h
        rw [hg] at h
        simp [h] at hb
      | none =>
        rw [List.findIdx?_eq_none_iff] at hf
        have := hf i hi
        exact badAt_zero (by simpa using this)
theorem Envi.okay_of {v : Envi} (h : v.rightB = true) : v.okay := by
  unfold Envi.rightB at h
  have := of_decide_eq_true h
  exact ⟨by omega, by omega, by omega, by omega⟩
theorem rightB_of {a d n m : Int} (h : rightB a d n m = true) : 0 ≤ a ∧ a < n ∧ m ≤ 1024 ∧ 0 ≤ d ∧ d ≤ 1099511627776 := of_decide_eq_true h
end Go.Proofs.Ytmljmabbopkpiaa
