import Derived.Test.YtjliakjbdcplcaaGreatR1
import Derived.Test.YtjliakjbdcplcaaGreatR7
import Derived.Test.YtjliakjbdcplcaaGreatR8
import Derived.Test.YtjliakjbdcplcaaGreatR9
import Derived.Test.YtjliakjbdcplcaaGreatProg
import Derived.Test.YtjliakjbdcplcaaGreatChecked
import Derived.ProofKit
import Derived.Deep.Slices
import Derived.Scope
section
namespace Go.Proofs.YtjliakjbdcplcaaGreat.Vm
theorem d1_ {P : Prop} (h : P := by
 have HW := Lib.hid hw
 clear hw
 go_enter Tryz.func180, Tryz.ntmps180
 go_wp2_with fail
 refine (HW.out _).mono ?_
 rintro e w' ⟨rfl, hb⟩
 go_wp2_with (first
  | (go_at_call 186; refine (truth_c _ _).mono ?_; rintro e w' ⟨rfl, rfl⟩)
  | (go_at_call 185; refine (mod_c _ _ _ (by assumption)).mono ?_; rintro e w' ⟨rfl, rfl⟩))
 all_goals (go_ret2; refine ⟨?_, hb⟩)
 all_goals first | rfl | (show Ending.returned (.tuple #[.int .i64 _, _]) = .returned (.tuple #[.int .i64 _, _]); congr 4; simp [yl_]; done) | (show Ending.returned (.tuple #[.int .i64 _, _]) = .returned (.tuple #[.int .i64 _, _]); congr 4; simp [yl_]; omega)) : P := h
theorem d2_ {P : Prop} (h : P := by
 have HW := Lib.hid hw
 clear hw
 have hs := shB_bd b
 have hs0 : 0 ≤ bits BinOp.and IntKind.u64 (IntKind.u64.wrap b) 63 := hs.1
 have hs1 : bits BinOp.and IntKind.u64 (IntKind.u64.wrap b) 63 ≤ 64 := Int.le_trans hs.2 (by decide)
 clear hs
 go_enter Tryz.func180, Tryz.ntmps180
 go_wp2_with fail
 refine (HW.out _).mono ?_
 rintro e w' ⟨rfl, hb⟩
 go_wp2_with (first
  | (go_at_call 186; refine (truth_c _ _).mono ?_; rintro e w' ⟨rfl, rfl⟩)
  | (go_at_call 185; refine (mod_c _ _ _ (by assumption)).mono ?_; rintro e w' ⟨rfl, rfl⟩))
 all_goals (go_ret2; refine ⟨?_, hb⟩)
 all_goals first | rfl | (show Ending.returned (.tuple #[.int .i64 _, _]) = .returned (.tuple #[.int .i64 _, _]); congr 4; simp [yl_]; done) | (show Ending.returned (.tuple #[.int .i64 _, _]) = .returned (.tuple #[.int .i64 _, _]); congr 4; simp [yl_]; omega)) : P := h
end Go.Proofs.YtjliakjbdcplcaaGreat.Vm
end
set_option linter.unusedSimpArgs false
set_option linter.unusedVariables false
set_option maxRecDepth 100000
section
namespace Go.Proofs.YtjliakjbdcplcaaGreat
open Go.RowKit
set_option maxRecDepth 100000 in
set_option maxHeartbeats 4000000 in
theorem apply_1 (a b : Int) (w : World)
 (hw : ∀ w, Calls Tryz.prog 184 #[.int .u8 1, .int .i64 b] w fun e w' => e = .returned (.int .i64 0) ∧ Below w.heap.size w w') : Calls Tryz.prog 180 #[.int .u8 1, .int .i64 a, .int .i64 b] w fun e w' => e = .returned (.tuple #[.int .i64 (yl_ 1 a b), .int .i64 0]) ∧ Below w.heap.size w w' :=  Vm.d1_
set_option maxRecDepth 100000 in
set_option maxHeartbeats 4000000 in
theorem apply_2 (a b : Int) (w : World)
 (hw : ∀ w, Calls Tryz.prog 184 #[.int .u8 2, .int .i64 b] w fun e w' => e = .returned (.int .i64 0) ∧ Below w.heap.size w w') : Calls Tryz.prog 180 #[.int .u8 2, .int .i64 a, .int .i64 b] w fun e w' => e = .returned (.tuple #[.int .i64 (yl_ 2 a b), .int .i64 0]) ∧ Below w.heap.size w w' :=  Vm.d1_
set_option maxRecDepth 100000 in
set_option maxHeartbeats 4000000 in
theorem apply_3 (a b : Int) (w : World)
 (hw : ∀ w, Calls Tryz.prog 184 #[.int .u8 3, .int .i64 b] w fun e w' => e = .returned (.int .i64 0) ∧ Below w.heap.size w w') : Calls Tryz.prog 180 #[.int .u8 3, .int .i64 a, .int .i64 b] w fun e w' => e = .returned (.tuple #[.int .i64 (yl_ 3 a b), .int .i64 0]) ∧ Below w.heap.size w w' :=  Vm.d1_
set_option maxRecDepth 100000 in
set_option maxHeartbeats 4000000 in
theorem apply_4 (a b : Int) (w : World) (hb0 : b ≠ 0)
 (hw : ∀ w, Calls Tryz.prog 184 #[.int .u8 4, .int .i64 b] w fun e w' => e = .returned (.int .i64 0) ∧ Below w.heap.size w w') : Calls Tryz.prog 180 #[.int .u8 4, .int .i64 a, .int .i64 b] w fun e w' => e = .returned (.tuple #[.int .i64 (yl_ 4 a b), .int .i64 0]) ∧ Below w.heap.size w w' :=  Vm.d1_
set_option maxRecDepth 100000 in
set_option maxHeartbeats 4000000 in
theorem apply_5 (a b : Int) (w : World) (hb0 : b ≠ 0)
 (hw : ∀ w, Calls Tryz.prog 184 #[.int .u8 5, .int .i64 b] w fun e w' => e = .returned (.int .i64 0) ∧ Below w.heap.size w w') : Calls Tryz.prog 180 #[.int .u8 5, .int .i64 a, .int .i64 b] w fun e w' => e = .returned (.tuple #[.int .i64 (yl_ 5 a b), .int .i64 0]) ∧ Below w.heap.size w w' :=  Vm.d1_
set_option maxRecDepth 100000 in
set_option maxHeartbeats 4000000 in
theorem apply_6 (a b : Int) (w : World) (hb0 : b ≠ 0)
 (hw : ∀ w, Calls Tryz.prog 184 #[.int .u8 6, .int .i64 b] w fun e w' => e = .returned (.int .i64 0) ∧ Below w.heap.size w w') : Calls Tryz.prog 180 #[.int .u8 6, .int .i64 a, .int .i64 b] w fun e w' => e = .returned (.tuple #[.int .i64 (yl_ 6 a b), .int .i64 0]) ∧ Below w.heap.size w w' :=  Vm.d1_
set_option maxRecDepth 100000 in
set_option maxHeartbeats 4000000 in
theorem apply_7 (a b : Int) (w : World)
 (hw : ∀ w, Calls Tryz.prog 184 #[.int .u8 7, .int .i64 b] w fun e w' => e = .returned (.int .i64 0) ∧ Below w.heap.size w w') : Calls Tryz.prog 180 #[.int .u8 7, .int .i64 a, .int .i64 b] w fun e w' => e = .returned (.tuple #[.int .i64 (yl_ 7 a b), .int .i64 0]) ∧ Below w.heap.size w w' :=  Vm.d1_
set_option maxRecDepth 100000 in
set_option maxHeartbeats 4000000 in
theorem apply_8 (a b : Int) (w : World)
 (hw : ∀ w, Calls Tryz.prog 184 #[.int .u8 8, .int .i64 b] w fun e w' => e = .returned (.int .i64 0) ∧ Below w.heap.size w w') : Calls Tryz.prog 180 #[.int .u8 8, .int .i64 a, .int .i64 b] w fun e w' => e = .returned (.tuple #[.int .i64 (yl_ 8 a b), .int .i64 0]) ∧ Below w.heap.size w w' :=  Vm.d1_
set_option maxRecDepth 100000 in
set_option maxHeartbeats 4000000 in
theorem apply_9 (a b : Int) (w : World)
 (hw : ∀ w, Calls Tryz.prog 184 #[.int .u8 9, .int .i64 b] w fun e w' => e = .returned (.int .i64 0) ∧ Below w.heap.size w w') : Calls Tryz.prog 180 #[.int .u8 9, .int .i64 a, .int .i64 b] w fun e w' => e = .returned (.tuple #[.int .i64 (yl_ 9 a b), .int .i64 0]) ∧ Below w.heap.size w w' :=  Vm.d1_
set_option maxRecDepth 100000 in
set_option maxHeartbeats 4000000 in
theorem apply_10 (a b : Int) (w : World)
 (hw : ∀ w, Calls Tryz.prog 184 #[.int .u8 10, .int .i64 b] w fun e w' => e = .returned (.int .i64 0) ∧ Below w.heap.size w w') : Calls Tryz.prog 180 #[.int .u8 10, .int .i64 a, .int .i64 b] w fun e w' => e = .returned (.tuple #[.int .i64 (yl_ 10 a b), .int .i64 0]) ∧ Below w.heap.size w w' :=  Vm.d2_
set_option maxRecDepth 100000 in
set_option maxHeartbeats 4000000 in
theorem apply_11 (a b : Int) (w : World)
 (hw : ∀ w, Calls Tryz.prog 184 #[.int .u8 11, .int .i64 b] w fun e w' => e = .returned (.int .i64 0) ∧ Below w.heap.size w w') : Calls Tryz.prog 180 #[.int .u8 11, .int .i64 a, .int .i64 b] w fun e w' => e = .returned (.tuple #[.int .i64 (yl_ 11 a b), .int .i64 0]) ∧ Below w.heap.size w w' :=  Vm.d2_
set_option maxRecDepth 100000 in
set_option maxHeartbeats 4000000 in
theorem apply_12 (a b : Int) (w : World)
 (hw : ∀ w, Calls Tryz.prog 184 #[.int .u8 12, .int .i64 b] w fun e w' => e = .returned (.int .i64 0) ∧ Below w.heap.size w w') : Calls Tryz.prog 180 #[.int .u8 12, .int .i64 a, .int .i64 b] w fun e w' => e = .returned (.tuple #[.int .i64 (yl_ 12 a b), .int .i64 0]) ∧ Below w.heap.size w w' :=  Vm.d2_
set_option maxRecDepth 100000 in
set_option maxHeartbeats 4000000 in
theorem apply_13 (a b : Int) (w : World)
 (hw : ∀ w, Calls Tryz.prog 184 #[.int .u8 13, .int .i64 b] w fun e w' => e = .returned (.int .i64 0) ∧ Below w.heap.size w w') : Calls Tryz.prog 180 #[.int .u8 13, .int .i64 a, .int .i64 b] w fun e w' => e = .returned (.tuple #[.int .i64 (yl_ 13 a b), .int .i64 0]) ∧ Below w.heap.size w w' :=  Vm.d1_
set_option maxRecDepth 100000 in
set_option maxHeartbeats 4000000 in
theorem apply_14 (a b : Int) (w : World)
 (hw : ∀ w, Calls Tryz.prog 184 #[.int .u8 14, .int .i64 b] w fun e w' => e = .returned (.int .i64 0) ∧ Below w.heap.size w w') : Calls Tryz.prog 180 #[.int .u8 14, .int .i64 a, .int .i64 b] w fun e w' => e = .returned (.tuple #[.int .i64 (yl_ 14 a b), .int .i64 0]) ∧ Below w.heap.size w w' :=  Vm.d1_
set_option maxRecDepth 100000 in
set_option maxHeartbeats 4000000 in
theorem apply_15 (a b : Int) (w : World)
 (hw : ∀ w, Calls Tryz.prog 184 #[.int .u8 15, .int .i64 b] w fun e w' => e = .returned (.int .i64 0) ∧ Below w.heap.size w w') : Calls Tryz.prog 180 #[.int .u8 15, .int .i64 a, .int .i64 b] w fun e w' => e = .returned (.tuple #[.int .i64 (yl_ 15 a b), .int .i64 0]) ∧ Below w.heap.size w w' :=  Vm.d1_
set_option maxRecDepth 100000 in
set_option maxHeartbeats 4000000 in
theorem apply_16 (a b : Int) (w : World)
 (hw : ∀ w, Calls Tryz.prog 184 #[.int .u8 16, .int .i64 b] w fun e w' => e = .returned (.int .i64 0) ∧ Below w.heap.size w w') : Calls Tryz.prog 180 #[.int .u8 16, .int .i64 a, .int .i64 b] w fun e w' => e = .returned (.tuple #[.int .i64 (yl_ 16 a b), .int .i64 0]) ∧ Below w.heap.size w w' :=  Vm.d1_
set_option maxRecDepth 100000 in
set_option maxHeartbeats 4000000 in
theorem apply_17 (a b : Int) (w : World)
 (hw : ∀ w, Calls Tryz.prog 184 #[.int .u8 17, .int .i64 b] w fun e w' => e = .returned (.int .i64 0) ∧ Below w.heap.size w w') : Calls Tryz.prog 180 #[.int .u8 17, .int .i64 a, .int .i64 b] w fun e w' => e = .returned (.tuple #[.int .i64 (yl_ 17 a b), .int .i64 0]) ∧ Below w.heap.size w w' :=  Vm.d1_
def yp_ (op a b : Int) : Int := if yk_ op b = 0 then yl_ op a b else 0
theorem apply_c (op a b : Int) (w : World) : Calls Tryz.prog 180 #[.int .u8 op, .int .i64 a, .int .i64 b] w fun e w' => e = .returned (.tuple #[.int .i64 (yp_ op a b), .int .i64 (yk_ op b)]) ∧ Below w.heap.size w w' := by
 by_cases h : yk_ op b = 0
 ·have hw : ∀ w, Calls Tryz.prog 184 #[.int .u8 op, .int .i64 b] w fun e w' => e = .returned (.int .i64 0) ∧ Below w.heap.size w w' := by rw [← h]; exact wrong_c op b
  have hz : 4 ≤ op → op ≤ 6 → b ≠ 0 := by
   intro x y z
   rw [yk_, if_neg (by omega), if_pos ⟨z, x, y⟩] at h
   exact absurd h (by decide)
  have hop : 1 ≤ op ∧ op ≤ 17 := by
   refine ⟨?_, ?_⟩
   ·by_cases q : op < 1
    ·rw [yk_, if_pos (.inl q)] at h; exact absurd h (by decide)
    ·omega
   ·by_cases q : 17 < op
    ·rw [yk_, if_pos (.inr q)] at h; exact absurd h (by decide)
    ·omega
  rw [yp_, if_pos h, h]
  have h : op = 1 ∨ op = 2 ∨ op = 3 ∨ op = 4 ∨ op = 5 ∨ op = 6 ∨ op = 7 ∨ op = 8 ∨ op = 9 ∨ op = 10 ∨ op = 11 ∨ op = 12 ∨ op = 13 ∨ op = 14 ∨ op = 15 ∨ op = 16 ∨ op = 17 := by omega
  rcases h with h | h | h | h | h | h | h | h | h | h | h | h | h | h | h | h | h <;> subst h
  ·exact apply_1 a b w hw
  ·exact apply_2 a b w hw
  ·exact apply_3 a b w hw
  ·exact apply_4 a b w (hz (by decide) (by decide)) hw
  ·exact apply_5 a b w (hz (by decide) (by decide)) hw
  ·exact apply_6 a b w (hz (by decide) (by decide)) hw
  ·exact apply_7 a b w hw
  ·exact apply_8 a b w hw
  ·exact apply_9 a b w hw
  ·exact apply_10 a b w hw
  ·exact apply_11 a b w hw
  ·exact apply_12 a b w hw
  ·exact apply_13 a b w hw
  ·exact apply_14 a b w hw
  ·exact apply_15 a b w hw
  ·exact apply_16 a b w hw
  ·exact apply_17 a b w hw
 ·rw [yp_, if_neg h]
  exact apply_bad op a b w (by rw [bne_iff_ne]; exact h)
theorem right_last' {p : List Ins} (h : (checkI p).2 = 0) : 0 < p.length ∧ p.length ≤ 256 ∧ goesB (p.getD (p.length - 1) ⟨0, 0, 0, 0, 0⟩) = false ∧ ∀ k, k < p.length → badAt p.length (p.getD k ⟨0, 0, 0, 0, 0⟩) = 0 := by
 unfold checkI at h
 by_cases h0 : p.length = 0
 ·rw [if_pos h0] at h; cases h
 ·by_cases h1 : 256 < p.length
  ·rw [if_neg h0, if_pos h1] at h; cases h
  ·rw [if_neg h0, if_neg h1] at h
   refine ⟨by omega, by omega, ?_⟩
   unfold checkK at h
   cases hf : p.findIdx? (fun i => badAt p.length i != 0) with
   | some k =>
    rw [hf] at h
    obtain ⟨hk, hb, _⟩ := List.findIdx?_eq_some_iff_getElem.1 hf
    exfalso
    have hg : p.getD k ⟨0, 0, 0, 0, 0⟩ = p[k] := by simp [List.getD, hk]
    dsimp only at h
    rw [hg] at h
    simp [h] at hb
   | none =>
    rw [hf] at h
    rw [List.findIdx?_eq_none_iff] at hf
    dsimp only at h
    refine ⟨?_, fun k hk => ?_⟩
    ·by_cases hg : goesB (p.getD (p.length - 1) ⟨0, 0, 0, 0, 0⟩) = true
     ·rw [if_pos hg] at h; cases h
     ·simpa using hg
    ·have := hf (p.getD k ⟨0, 0, 0, 0, 0⟩) (by
      rw [List.getD_eq_getElem?_getD, List.getElem?_eq_getElem hk]; exact List.getElem_mem hk)
     simpa using this
structure RightI (n k : Nat) (x : Ins) : Prop where
 ok : x.ok
 one : oneE x = 0
 a : x.a < 8
 b : x.b < 8
 c : x.c < 8
 targ : targB x = true → 0 ≤ targV x ∧ targV x < n
 goes : goesB x = true → k + 1 < n
 cls : x.op = 1 ∨ x.op = 2 ∨ x.op = 3 ∨ x.op = 4 ∨ x.op = 5 ∨ x.op = 6 ∨ x.op = 7 ∨ x.op = 8 ∨ x.op = 9 ∨ x.op = 10 ∨ x.op = 11 ∨ (33 ≤ x.op ∧ x.op ≤ 49)
theorem one_regs {x : Ins} (h : oneE x = 0) : x.a < 8 ∧ x.b < 8 ∧ x.c < 8 ∧ (targB x = true → 0 ≤ x.n) ∧ (x.op = 1 ∨ x.op = 2 ∨ x.op = 3 ∨ x.op = 4 ∨ x.op = 5 ∨ x.op = 6 ∨ x.op = 7 ∨ x.op = 8 ∨ x.op = 9 ∨ x.op = 10 ∨ x.op = 11 ∨ (33 ≤ x.op ∧ x.op ≤ 49)) := by
 have h0 := h
 unfold oneE at h
 have hf : xo_ x.op ≠ 0 := fun e => by rw [if_pos e] at h; cases h
 rw [if_neg hf] at h
 have hc : xt_ (xo_ x.op) x.a x.b x.c x.n := by
  by_cases q : xt_ (xo_ x.op) x.a x.b x.c x.n
  ·exact q
  ·rw [y7_ q] at h; cases h
 have ht : targB x = true → x.op = 9 ∨ x.op = 10 ∨ x.op = 11 := fun ht => by
  unfold targB at ht
  simp at ht
  exact ht.2
 revert hc hf
 unfold xo_
 split
 ·rename_i q; intro hf hc; obtain ⟨q1, q2, q3, q4⟩ := hc; exact ⟨q1, q2, q3, fun t => by omega, by omega⟩
 split
 ·exact Vm.k3_
 split
 ·rename_i q; intro hf hc; obtain ⟨q1, q2, q3⟩ := hc; exact ⟨by omega, by omega, by omega, fun t => by have := ht t; omega, by omega⟩
 split
 ·exact Vm.k3_
 split
 ·exact Vm.k4_
 split
 ·exact Vm.k4_
 split
 ·exact Vm.k4_
 ·intro hf; exact absurd rfl hf
theorem right_at {p : List Ins} (hok : ∀ x ∈ p, x.ok) (h : (checkI p).2 = 0) {k : Nat} (hk : k < p.length) : RightI p.length k (p.getD k ⟨0, 0, 0, 0, 0⟩) := by
 obtain ⟨h0, h1, h2, h3⟩ := right_last' h
 have hb := h3 k hk
 unfold badAt at hb
 have h4 : oneE (p.getD k ⟨0, 0, 0, 0, 0⟩) = 0 := by
  by_cases q : oneE (p.getD k ⟨0, 0, 0, 0, 0⟩) = 0
  ·exact q
  ·rw [if_pos q] at hb; exact absurd hb q
 rw [if_neg (by omega)] at hb
 obtain ⟨ra, rb, rc, rt, rcl⟩ := one_regs h4
 refine ⟨hok _ (by rw [List.getD_eq_getElem?_getD, List.getElem?_eq_getElem hk]; exact List.getElem_mem hk), h4, ra, rb, rc, fun ht => ?_, fun hg => ?_, rcl⟩
 ·refine ⟨by unfold targV; rw [if_pos ht]; exact rt ht, ?_⟩
  by_cases q : (p.length : Int) ≤ targV (p.getD k ⟨0, 0, 0, 0, 0⟩)
  ·rw [if_pos ⟨ht, q⟩] at hb; cases hb
  ·omega
 ·by_cases q : k + 1 < p.length
  ·exact q
  ·have : k = p.length - 1 := by omega
   subst this
   rw [h2] at hg; cases hg
theorem goesB_of {x : Ins} (h : oneE x = 0) : goesB x = (x.op != 1 && (x.op != 2 && x.op != 9)) := by unfold goesB; rw [h]; rfl
theorem targB_of {x : Ins} (h : oneE x = 0) : targB x = (x.op == 9 || (x.op == 10 || x.op == 11)) := by unfold targB; rw [h]; rfl
end Go.Proofs.YtjliakjbdcplcaaGreat
end
section
namespace Go.Proofs.YtjliakjbdcplcaaGreat
open Go.RowKit
def foldI (x n : Int) : Int := bits .xor .u64 x (x / 2 ^ n.toNat)
theorem fold_c (x n : Int) (w : World) (h0 : 0 ≤ n) (h1 : n ≤ 64) : Calls Tryz.prog 193 #[.int .u64 x, .int .i64 n] w fun e w' => e = .returned (.int .u64 (foldI x n)) ∧ w = w' := by
 go_enter Tryz.func193, Tryz.ntmps193
 go_wp2
 go_ret
 exact ⟨rfl, rfl⟩
def mixI (x : Int) : Int := foldI (IntKind.u64.wrap (foldI (IntKind.u64.wrap (foldI x 30 * 13787848793156543929)) 27 * 10723151780598845931)) 31
theorem mix_c (x : Int) (w : World) : Calls Tryz.prog 192 #[.int .u64 x] w fun e w' => e = .returned (.int .u64 (mixI x)) ∧ w = w' := by
 go_enter Tryz.func192, Tryz.ntmps192
 go_wp2_with (go_at_call 193; refine (fold_c _ _ _ (by omega) (by omega)).mono ?_; rintro e w' ⟨rfl, rfl⟩)
 go_ret
 exact ⟨rfl, rfl⟩
def atI (key index : Int) : Int := mixI (IntKind.u64.wrap (key + IntKind.u64.wrap (IntKind.u64.wrap (IntKind.u64.wrap index + 1) * 11400714819323198485)))
theorem at_c (key index : Int) (w : World) : Calls Tryz.prog 188 #[.int .u64 key, .int .i64 index] w fun e w' => e = .returned (.int .u64 (atI key index)) ∧ w = w' := by
 go_enter Tryz.func188, Tryz.ntmps188
 go_wp2_with (go_at_call 192; refine (mix_c _ _).mono ?_; rintro e w' ⟨rfl, rfl⟩)
 go_ret
 exact ⟨rfl, rfl⟩
def lo32 (z : Int) : Int := bits .and .u64 z 4294967295
def upP (v n : Int) : Int := IntKind.u64.wrap (lo32 v * lo32 n)
def upQ (v n : Int) : Int := IntKind.u64.wrap (IntKind.u64.wrap (v / 4294967296 * lo32 n) + upP v n / 4294967296)
def upR (v n : Int) : Int := IntKind.u64.wrap (IntKind.u64.wrap (lo32 v * (n / 4294967296)) + lo32 (upQ v n))
def upperI (v n : Int) : Int := IntKind.u64.wrap (IntKind.u64.wrap (IntKind.u64.wrap (v / 4294967296 * (n / 4294967296)) + upQ v n / 4294967296) + upR v n / 4294967296)
theorem upper_c (v n : Int) (w : World) : Calls Tryz.prog 189 #[.int .u64 v, .int .u64 n] w fun e w' => e = .returned (.int .u64 (upperI v n)) ∧ w = w' := by
 go_enter Tryz.func189, Tryz.ntmps189
 go_wp2
 go_ret
 exact ⟨rfl, rfl⟩
theorem wrapU64 (z : Int) : IntKind.u64.wrap z = z % 18446744073709551616 := by simp [IntKind.wrap, IntKind.bits, IntKind.signed]
theorem lo32_eq (z : Int) (h0 : 0 ≤ z) (h1 : z < 18446744073709551616) : lo32 z = z % 4294967296 := and_low32 z h0 h1
theorem mul_bd (a b : Int) (a0 : 0 ≤ a) (a1 : a ≤ 4294967295) (b0 : 0 ≤ b) (b1 : b ≤ 4294967295) : 0 ≤ a * b ∧ a * b ≤ 18446744065119617025 :=
 ⟨Int.mul_nonneg a0 b0, Int.le_trans (Int.mul_le_mul a1 b1 b0 (by decide)) (by decide)⟩
theorem upper_eq (v n : Int) (v0 : 0 ≤ v) (v1 : v < 18446744073709551616) (n0 : 0 ≤ n) (n1 : n < 18446744073709551616) : upperI v n = v * n / 18446744073709551616 := by
 have ev := Int.emod_add_mul_ediv v 4294967296
 have en := Int.emod_add_mul_ediv n 4294967296
 have hlv := lo32_eq v v0 v1
 have hln := lo32_eq n n0 n1
 have a0 : 0 ≤ v / 4294967296 := by omega
 have a1 : v / 4294967296 ≤ 4294967295 := by omega
 have b0 : 0 ≤ v % 4294967296 := by omega
 have b1 : v % 4294967296 ≤ 4294967295 := by omega
 have c0 : 0 ≤ n / 4294967296 := by omega
 have c1 : n / 4294967296 ≤ 4294967295 := by omega
 have d0 : 0 ≤ n % 4294967296 := by omega
 have d1 : n % 4294967296 ≤ 4294967295 := by omega
 generalize ha : v / 4294967296 = a at *
 generalize hb : v % 4294967296 = b at *
 generalize hc : n / 4294967296 = c at *
 generalize hd : n % 4294967296 = d at *
 have hX := mul_bd a c a0 a1 c0 c1
 have hY := mul_bd a d a0 a1 d0 d1
 have hZ := mul_bd b c b0 b1 c0 c1
 have hW := mul_bd b d b0 b1 d0 d1
 have hvn : v * n = a * c * 18446744073709551616 + (a * d + b * c) * 4294967296 + b * d := by
  rw [← ev, ← en, Int.add_mul, Int.mul_add, Int.mul_add]
  rw [show b * (4294967296 * c) = b * c * 4294967296 by rw [Int.mul_comm 4294967296 c, Int.mul_assoc], show 4294967296 * a * d = a * d * 4294967296 by rw [Int.mul_comm 4294967296 a, Int.mul_assoc, Int.mul_comm 4294967296 d, Int.mul_assoc],
   show 4294967296 * a * (4294967296 * c) = a * c * 18446744073709551616 by rw [Int.mul_comm 4294967296 a, Int.mul_comm 4294967296 c, Int.mul_assoc, ← Int.mul_assoc 4294967296 c, Int.mul_comm 4294967296 c, Int.mul_assoc c, Int.mul_assoc]; rfl]
  omega
 have hp : upP v n = b * d := by
  rw [upP, hlv, hln, wrapU64]; omega
 have hq : upQ v n = a * d + b * d / 4294967296 := by
  rw [upQ, hp, hln, ha, wrapU64, wrapU64]; omega
 have hlq : lo32 (upQ v n) = (a * d + b * d / 4294967296) % 4294967296 := by
  rw [hq]; exact lo32_eq _ (by omega) (by omega)
 have hr : upR v n = b * c + (a * d + b * d / 4294967296) % 4294967296 := by
  rw [upR, hlq, hlv, hc, wrapU64, wrapU64]; omega
 rw [upperI, hq, hr, ha, hc, hvn, wrapU64, wrapU64, wrapU64]
 generalize a * c = X at *
 generalize a * d = Y at *
 generalize b * c = Z at *
 generalize b * d = U at *
 omega
def belowI (v n : Int) : Int := wrap64 (upperI v (IntKind.u64.wrap n))
theorem below_ok (v n : Int) (w : World) (h : 1 ≤ n) : Calls Tryz.prog 183 #[.int .u64 v, .int .i64 n] w fun e w' => e = .returned (.tuple #[.int .i64 (belowI v n), .int .i64 0]) ∧ w = w' := by
 go_enter Tryz.func183, Tryz.ntmps183
 go_wp2_with (go_at_call 189; refine (upper_c _ _ _).mono ?_; rintro e w' ⟨rfl, rfl⟩)
 go_ret2
 exact ⟨rfl, rfl⟩
def join2 (x y : Int) : Int := mixI (IntKind.u64.wrap (IntKind.u64.wrap (11400714819323198485 + y) + IntKind.u64.wrap (mixI (IntKind.u64.wrap (IntKind.u64.wrap (11400714819323198485 + x))) * 11400714819323198485)))
set_option maxRecDepth 100000 in
set_option maxHeartbeats 1000000 in
theorem join2_c (b : Nat) (x y : Int) (w : World) (h0 : w.cell? ⟨b, 0, none⟩ = some (.int .u64 x)) (h1 : w.cell? ⟨b, 1, none⟩ = some (.int .u64 y)) :
  Calls Tryz.prog 191 #[.slice (some ⟨b, 0, none⟩) 2 2] w fun e w' => e = .returned (.int .u64 (join2 x y)) ∧ w = w' := by
 go_enter Tryz.func191, Tryz.ntmps191
 go_wp2
 refine wp_loop_rounds 3 ?_
 rw [rounds_succ]
 go_wp2_with (go_at_call 192; refine (mix_c _ _).mono ?_; rintro e w' ⟨rfl, rfl⟩)
 rw [rounds_succ]
 go_wp2_with (go_at_call 192; refine (mix_c _ _).mono ?_; rintro e w' ⟨rfl, rfl⟩)
 rw [rounds_succ]
 go_wp2_with (go_at_call 192; refine (mix_c _ _).mono ?_; rintro e w' ⟨rfl, rfl⟩)
 go_ret
 exact ⟨rfl, rfl⟩
def keyI (seed process : Int) : Int := join2 seed process
theorem key_ok (seed process : Int) (w : World) (h0 : 0 ≤ process) (h1 : process ≤ 65536) : Calls Tryz.prog 187 #[.int .u64 seed, .int .i64 process] w fun e w' => e = .returned (.tuple #[.int .u64 (keyI seed process), .int .i64 0]) ∧ Below w.heap.size w w' := by
 go_enter Tryz.func187, Tryz.ntmps187
 go_wp2_with fail
 refine (join2_c w.heap.size seed process _ ?_ ?_).mono ?_
 ·exact cell_of_row _ _ _ _ _ _ (heap_alloc_new w _)
 ·exact cell_of_row _ _ _ _ _ _ (heap_alloc_new w _)
 rintro e w' ⟨rfl, rfl⟩
 go_wp2
 go_ret2
 exact ⟨rfl, (Below.refl _ _).alloc (Nat.le_refl _) _⟩
def valueI (seed process index : Int) : Int := atI (keyI seed process) index
set_option maxHeartbeats 1000000 in
theorem value_ok (seed process index : Int) (w : World) (h0 : 0 ≤ process) (h1 : process ≤ 65536) (h2 : 0 ≤ index) (h3 : index ≤ 281474976710656) :
  Calls Tryz.prog 182 #[.int .u64 seed, .int .i64 process, .int .i64 index] w fun e w' => e = .returned (.tuple #[.int .u64 (valueI seed process index), .int .i64 0]) ∧ Below w.heap.size w w' := by
 go_enter Tryz.func182, Tryz.ntmps182
 go_wp2_with fail
 refine (key_ok _ _ _ h0 h1).mono ?_
 rintro e w' ⟨rfl, hb⟩
 go_wp2_with (go_at_call 188; refine (at_c _ _ _).mono ?_; rintro e w' ⟨rfl, rfl⟩)
 go_ret2
 exact ⟨rfl, hb⟩
def drawI (seed process index n : Int) : Int := belowI (valueI seed process index) n
set_option maxHeartbeats 1000000 in
theorem draw_ok (seed process index n : Int) (w : World) (h0 : 0 ≤ process) (h1 : process ≤ 65536) (h2 : 0 ≤ index) (h3 : index ≤ 281474976710656) (hn : 1 ≤ n) :
  Calls Tryz.prog 178 #[.int .u64 seed, .int .i64 process, .int .i64 index, .int .i64 n] w fun e w' => e = .returned (.tuple #[.int .i64 (drawI seed process index n), .int .i64 0]) ∧ Below w.heap.size w w' := by
 go_enter Tryz.func178, Tryz.ntmps178
 go_wp2_with fail
 refine (value_ok _ _ _ _ h0 h1 h2 h3).mono ?_
 rintro e w' ⟨rfl, hb⟩
 go_wp2_with (go_at_call 183; refine (below_ok _ _ _ hn).mono ?_; rintro e w' ⟨rfl, rfl⟩)
 go_ret2
 exact ⟨rfl, hb⟩
theorem u64_bd (z : Int) : 0 ≤ IntKind.u64.wrap z ∧ IntKind.u64.wrap z < 18446744073709551616 := by rw [wrapU64]; omega
theorem foldI_bd (x n : Int) (h : 0 ≤ x) (h1 : x < 18446744073709551616) (hn : 0 ≤ n) : 0 ≤ foldI x n ∧ foldI x n < 18446744073709551616 := by
 unfold foldI
 have : bits .xor .u64 x (x / 2 ^ n.toNat) = IntKind.u64.wrap (bits .xor .u64 x (x / 2 ^ n.toNat)) := by
  simp only [bits, wrapU64]
  omega
 rw [this]; exact u64_bd _
theorem mixI_bd (x : Int) : 0 ≤ mixI x ∧ mixI x < 18446744073709551616 := foldI_bd _ _ (u64_bd _).1 (u64_bd _).2 (by decide)
theorem valueI_bd (s p i : Int) : 0 ≤ valueI s p i ∧ valueI s p i < 18446744073709551616 := mixI_bd _
theorem drawI_bd (s p i n : Int) (hn : 1 ≤ n) (hn1 : n ≤ 9223372036854775807) : 0 ≤ drawI s p i n ∧ drawI s p i n < n := by
 unfold drawI belowI
 have hv := valueI_bd s p i
 have hw : IntKind.u64.wrap n = n := by rw [wrapU64]; omega
 rw [hw, upper_eq _ _ hv.1 hv.2 (by omega) (by omega)]
 have h0 : 0 ≤ valueI s p i * n / 18446744073709551616 := Int.ediv_nonneg (Int.mul_nonneg hv.1 (by omega)) (by decide)
 have h1 : valueI s p i * n / 18446744073709551616 < n := by
  apply Int.ediv_lt_of_lt_mul (by decide)
  rw [Int.mul_comm n]
  exact Int.mul_lt_mul_of_pos_right hv.2 (by omega)
 have hz : wrap64 (valueI s p i * n / 18446744073709551616) = valueI s p i * n / 18446744073709551616 := by
  unfold wrap64; omega
 rw [hz]; exact ⟨h0, h1⟩
end Go.Proofs.YtjliakjbdcplcaaGreat
end
section
namespace Go.Proofs.YtjliakjbdcplcaaGreat.Vm
open Go.RowKit
structure Sta where
 at_ : Int
 ended : Bool
 regs : Nat → Int
 cells : List Int
 draws : Int
 sends : List Snd
structure Evi where
 seed : Int
 process : Int
 ports : Int
 look : Int
 now : Int
def Sta.put (s : Sta) (k : Nat) (x : Int) : Sta := { s with regs := fun j => if j = k then x else s.regs j, at_ := s.at_ + 1 }
theorem xu_ (s : Sta) : Sta.mk s.at_ s.ended (fun q => s.regs q) s.cells s.draws s.sends = s := rfl
theorem evi_eta (v : Evi) : Evi.mk v.seed v.process v.ports v.look v.now = v := rfl
def sendE (s : Sta) (v : Evi) (i : Ins) : Int :=
 if v.ports ≤ i.n then 188 else if s.regs i.a.toNat < v.look then 189 else if 281474976710656 - v.now < s.regs i.a.toNat then 1800 else if 256 ≤ s.sends.length then 1801 else 0
def doE (s : Sta) (v : Evi) (i : Ins) : Int :=
 if i.op = 2 then 184
 else if i.op = 5 ∨ i.op = 6 then (if s.regs i.b.toNat < 0 ∨ (s.cells.length : Int) ≤ s.regs i.b.toNat then 185 else 0)
 else if i.op = 7 then (if s.regs i.b.toNat < 1 then 186 else if s.draws = 1099511627776 then 187 else 0)
 else if i.op = 8 then sendE s v i
 else if i.op < 32 then 0
 else yk_ (i.op - 32) (s.regs i.c.toNat)
def doS (s : Sta) (v : Evi) (i : Ins) : Sta :=
 if doE s v i ≠ 0 then s
 else if i.op = 1 then { s with ended := true }
 else if i.op = 3 then s.put i.a.toNat i.n
 else if i.op = 4 then s.put i.a.toNat (s.regs i.b.toNat)
 else if i.op = 5 then s.put i.a.toNat (s.cells.getD (s.regs i.b.toNat).toNat 0)
 else if i.op = 6 then { s with cells := s.cells.set (s.regs i.b.toNat).toNat (s.regs i.a.toNat), at_ := s.at_ + 1 }
 else if i.op = 7 then { s.put i.a.toNat (drawI v.seed v.process s.draws (s.regs i.b.toNat)) with draws := s.draws + 1 }
 else if i.op = 8 then { s with at_ := s.at_ + 1, sends := s.sends ++ [⟨i.n, s.regs i.a.toNat, s.regs i.b.toNat⟩] }
 else if i.op = 9 then { s with at_ := i.n }
 else if i.op = 10 then { s with at_ := if s.regs i.a.toNat = 0 then i.n else s.at_ + 1 }
 else if i.op = 11 then { s with at_ := if s.regs i.a.toNat < 0 then i.n else s.at_ + 1 }
 else s.put i.a.toNat (yp_ (i.op - 32) (s.regs i.b.toNat) (s.regs i.c.toNat))
def Ins0 : Ins := ⟨0, 0, 0, 0, 0⟩
def insAt (p : List Ins) (k : Int) : Ins := p.getD k.toNat ⟨0, 0, 0, 0, 0⟩
def Evi.rightB (v : Evi) : Bool := decide (0 ≤ v.process ∧ v.process ≤ 65536 ∧ 0 ≤ v.ports ∧ 1 ≤ v.look ∧ 0 ≤ v.now ∧ v.now ≤ 281474976710656)
def Sta.rightB (s : Sta) (n : Int) : Bool := decide (0 ≤ s.at_ ∧ s.at_ < n ∧ (s.cells.length : Int) ≤ 1024 ∧ 0 ≤ s.draws ∧ s.draws ≤ 1099511627776)
def yv_ (p : List Ins) (v : Evi) (s : Sta) : Int :=
 if (checkI p).2 ≠ 0 then 180 else if v.rightB = false then 181 else if s.rightB p.length = false then 182 else 0
def stepE (p : List Ins) (v : Evi) (s : Sta) : Int := if s.ended = true then 183 else doE s v (insAt p s.at_)
def stepS (p : List Ins) (v : Evi) (s : Sta) : Sta := if s.ended = true then s else doS s v (insAt p s.at_)
def zeroSt : Sta := ⟨0, false, fun _ => 0, [], 0, []⟩
structure RI (x : Ins) : Prop where
 ok : x.ok
 a : x.a < 8
 b : x.b < 8
 c : x.c < 8
 jmp : x.op = 9 ∨ x.op = 10 ∨ x.op = 11 → 0 ≤ x.n ∧ x.n < 256
 snd : x.op = 8 → 0 ≤ x.n ∧ x.n < 16
 cls : x.op = 1 ∨ x.op = 2 ∨ x.op = 3 ∨ x.op = 4 ∨ x.op = 5 ∨ x.op = 6 ∨ x.op = 7 ∨ x.op = 8 ∨ x.op = 9 ∨ x.op = 10 ∨ x.op = 11 ∨ (33 ≤ x.op ∧ x.op ≤ 49)
theorem ri_at {p : List Ins} (hok : ∀ x ∈ p, x.ok) (h : (checkI p).2 = 0) {k : Nat} (hk : k < p.length) : RI (p.getD k ⟨0, 0, 0, 0, 0⟩) := by
 have R := right_at hok h hk
 have hl := (right_last' h).2.1
 refine ⟨R.ok, R.a, R.b, R.c, fun hj => ?_, fun h8 => ?_, R.cls⟩
 ·have ht : targB (p.getD k ⟨0, 0, 0, 0, 0⟩) = true := by
   rw [targB_of R.one]
   rcases hj with e | e | e <;> simp only [e] <;> decide
  have := R.targ ht
  unfold targV at this
  rw [if_pos ht] at this
  omega
 ·have h := R.one
  unfold oneE at h
  have hf : xo_ (p.getD k ⟨0, 0, 0, 0, 0⟩).op = 5 := by rw [h8]; rfl
  rw [hf, if_neg (by decide)] at h
  have hc : xt_ 5 (p.getD k ⟨0, 0, 0, 0, 0⟩).a (p.getD k ⟨0, 0, 0, 0, 0⟩).b (p.getD k ⟨0, 0, 0, 0, 0⟩).c (p.getD k ⟨0, 0, 0, 0, 0⟩).n := by
   by_cases q : xt_ 5 (p.getD k ⟨0, 0, 0, 0, 0⟩).a (p.getD k ⟨0, 0, 0, 0, 0⟩).b (p.getD k ⟨0, 0, 0, 0, 0⟩).c (p.getD k ⟨0, 0, 0, 0, 0⟩).n
   ·exact q
   ·rw [y7_ q] at h; cases h
  exact ⟨hc.2.2.2.1, hc.2.2.2.2⟩
structure VOk (v : Evi) : Prop where
 p0 : 0 ≤ v.process
 p1 : v.process ≤ 65536
 t0 : 0 ≤ v.now
 t1 : v.now ≤ 281474976710656
 o0 : 0 ≤ v.ports
 l0 : 1 ≤ v.look
structure SOk (s : Sta) : Prop where
 a0 : 0 ≤ s.at_
 a1 : s.at_ ≤ 256
 d0 : 0 ≤ s.draws
 d1 : s.draws ≤ 1099511627776
 c1 : s.cells.length ≤ 1024
 n1 : s.sends.length ≤ 1000000
theorem VOk.of {v : Evi} (h : v.rightB = true) : VOk v := by
 have := of_decide_eq_true (show decide _ = true from h)
 exact ⟨by omega, by omega, by omega, by omega, by omega, by omega⟩
theorem doS_bad {s : Sta} {v : Evi} {x : Ins} (h : doE s v x ≠ 0) : doS s v x = s := by unfold doS; rw [if_pos h]
end Go.Proofs.YtjliakjbdcplcaaGreat.Vm
end
section
namespace Go.Proofs.YtjliakjbdcplcaaGreat
open Go.ChangeShapes Go.WideShapes Go.ChangeAt Go.RowKit Go.Deep
theorem cell_lt17 {w : World} {p : Addr} {v : Value} (h : w.cell? p = some v) : p.block < w.heap.size := by
 rcases Nat.lt_or_ge p.block w.heap.size with hl | hg
 ·exact hl
 ·unfold World.cell? at h
  rw [Array.getElem?_eq_none hg] at h
  cases h
theorem z6_ {H : Type} {enc : TypeId × Value → H} {w : World} {base : Nat} {spare : Nat → Bool} {held : Bool} {n : Nat} {v : Value} {x : DataW H × List MemPlace} {t : TypeId} {k : IntKind} (ht : Tryz.prog.underlying t = some (.int k)) (h : DataW.trod enc Tryz.prog w base spare held n t [v] = some x) : ∃ a, v = .int k a ∧ (Lit.int k a).wf = true := by
 obtain ⟨a, e0, _, b⟩ := DataW.trod_int ht h
 exact ⟨a, (List.cons.inj e0).1, b⟩
namespace Vm
theorem law_of_lit17 {f : FuncId} {args : List SV} {L0 L1 : List HB} {W : World} {β : Env} (H : zp_ Tryz.prog f args L0 (.bool true) L1) (R : Rep W (fun _ => False) β (hp L0) W) :
  Calls Tryz.prog f (denL β args).toArray W fun e W' => e = .returned (.bool true) ∧ Below W.heap.size W W' :=
 (H W _ β W R).mono fun e W' ⟨β', _, R', _, he⟩ => ⟨he, R'.os, R'.tape, R'.output, R'.size, fun k hk => R'.frame k hk id⟩
end Vm
end Go.Proofs.YtjliakjbdcplcaaGreat
end
section
namespace Go.Proofs.YtjliakjbdcplcaaGreat.Vm
open Go.RowKit
section
variable {P : Program} {T : Tab} {C : FuncId → Option yt_} {w0 : World} {M : Nat → Prop} {E : Env} {n0 N n : Nat} {D : List Deferred} {φ φ2 φ' : Fr} {L L2 L' : List HB} {Q : Exit → Act → World → Prop} {ro : Option Nat} {K : Act → World → Prop}
theorem At.runEnd (hC : ∀ f S, C f = some S → zh_ P f S) (hT : TabOk P T) {ops : Array Oper} {k len : Nat} {l : List Oper} {c : Prop} {rs : List Rc} (hd : noDefer ops.toList = true) (hl : (ops.toList.drop k).take len = l) (hlen : l.length = len) (hr : runR T C N ops.toList φ L l = some (c, rs, φ', L')) (hc : c)
  (h : At w0 M E n0 N D φ' L' (Q .normal)) : At w0 M E n0 N D φ L (wpOpsIn (FR ro) n P ops Q (List.range' k len)) := by
 have := At.run (ro := ro) (n := n) (rest := []) hC hT hd hl hlen hr hc h
 rwa [List.append_nil] at this
theorem At.code {c : Code} (h : WF ro n P c w0 M E n0 N D φ L Q) : At w0 M E n0 N D φ L (c.wpIn (FR ro) n P Q) := h
theorem At.thenNormal (h : At w0 M E n0 N D φ L K) : At w0 M E n0 N D φ L (Exit.then K Q .normal) := h
theorem At.thenRet (h : At w0 M E n0 N D φ L (Q .ret)) : At w0 M E n0 N D φ L (Exit.then K Q .ret) := h
theorem At.thenExit {j : Nat} (h : At w0 M E n0 N D φ L (Q (.exit j))) : At w0 M E n0 N D φ L (Exit.then K Q (.exit j)) := h
theorem At.thenGoto {j : Nat} (h : At w0 M E n0 N D φ L (Q (.goto j))) : At w0 M E n0 N D φ L (Exit.then K Q (.goto j)) := h
theorem At.inNormal {id : Nat} (h : At w0 M E n0 N D φ L (Q .normal)) : At w0 M E n0 N D φ L (Exit.inBlock id Q .normal) := h
theorem At.inRet {id : Nat} (h : At w0 M E n0 N D φ L (Q .ret)) : At w0 M E n0 N D φ L (Exit.inBlock id Q .ret) := h
theorem At.inGoto {id j : Nat} (h : At w0 M E n0 N D φ L (Q (.goto j))) : At w0 M E n0 N D φ L (Exit.inBlock id Q (.goto j)) := h
theorem At.inHit {id : Nat} (h : At w0 M E n0 N D φ L (Q .normal)) : At w0 M E n0 N D φ L (Exit.inBlock id Q (.exit id)) := fun a w hS => by
 show (if id = id then Q .normal a w else Q (.exit id) a w)
 rw [if_pos rfl]
 exact h a w hS
theorem At.inMiss {id j : Nat} (hn : Nat.beq j id = false) (h : At w0 M E n0 N D φ L (Q (.exit j))) : At w0 M E n0 N D φ L (Exit.inBlock id Q (.exit j)) := fun a w hS => by
 show (if j = id then Q .normal a w else Q (.exit j) a w)
 rw [if_neg (fun e => by rw [e] at hn; simp at hn)]
 exact h a w hS
theorem At.noGotoNormal (h : At w0 M E n0 N D φ L (Q .normal)) : At w0 M E n0 N D φ L (Exit.noGoto Q .normal) := h
theorem At.noGotoRet (h : At w0 M E n0 N D φ L (Q .ret)) : At w0 M E n0 N D φ L (Exit.noGoto Q .ret) := h
theorem At.noGotoExit {j : Nat} (h : At w0 M E n0 N D φ L (Q (.exit j))) : At w0 M E n0 N D φ L (Exit.noGoto Q (.exit j)) := h
theorem WF.scope {c : Code} (h : WF none n P c w0 M E n0 N D φ L (Exit.noGoto Q)) : WF none n P (.scope c) w0 M E n0 N D φ L Q := fun a w hS => by
 have h1 : c.wp P (Exit.noGoto Q) a w := wpIn_wide.1 (h a w hS)
 exact wpIn_wide.2 (wp_scope_straight h1)
theorem WF.seqJoin {α : Type} (p : α → Prop) (φi : α → Fr) (Li : α → List HB) {x y : Code} (hx : WF ro n P x w0 M E n0 N D φ L (Exit.then (fun a w => ∃ z, p z ∧ St w0 M E n0 N D (φi z) (Li z) a w) Q)) (hy : ∀ z, p z → WF ro n P y w0 M E n0 N D (φi z) (Li z) Q) : WF ro n P (.seq x y) w0 M E n0 N D φ L Q := fun a w hS => by
 refine wpIn_seq (wpIn_mono (hx a w hS) fun e a' w' hq => ?_)
 cases e <;> try exact hq
 obtain ⟨z, hz, hS'⟩ := hq
 exact hy z hz a' w' hS'
theorem At.join {α : Type} {p : α → Prop} {φi : α → Fr} {Li : α → List HB} (z : α) (hz : p z) (hφ : SubF φ (φi z)) (hL : LessL L (Li z)) (h0 : hp (Li z) 0 = .gone) (hs : xe_ (hp (Li z)) (Li z)) (hf : StableF (hp (Li z)) (φi z)) (hb : bornTo n0 (Li z) = true) : At w0 M E n0 N D φ L (fun a w => ∃ z, p z ∧ St w0 M E n0 N D (φi z) (Li z) a w) :=
 fun a w hS => ⟨z, hz, hS.sub hφ hL h0 hs hf hb⟩
open Classical in
theorem WF.loop0 {α : Type} (p : α → Prop) (φi : α → Fr) (Li : α → List HB) (μ : α → Nat) {c : Code} (x0 : α) (h0 : p x0)
  (step : ∀ x, p x → WF ro n P c w0 M E n0 N D (φi x) (Li x) (Exit.then (fun a w => ∃ y, (p y ∧ μ y < μ x) ∧ St w0 M E n0 N D (φi y) (Li y) a w) Q)) : WF ro n P (.loop c) w0 M E n0 N D (φi x0) (Li x0) Q := by
 intro a w hS
 let I : Act → World → Prop := fun a w => ∃ x, p x ∧ St w0 M E n0 N D (φi x) (Li x) a w
 let pm : Act → World → Nat → Prop := fun a w k => ∃ x, p x ∧ St w0 M E n0 N D (φi x) (Li x) a w ∧ μ x = k
 have hex : ∀ a w, I a w → ∃ k, pm a w k := fun a w ⟨x, h1, h2⟩ => ⟨μ x, x, h1, h2, rfl⟩
 let m : Act → World → Nat := fun a w => if h : I a w then Classical.choose (least (hex a w h)) else 0
 have hm : ∀ a w (h : I a w), pm a w (m a w) ∧ ∀ k, pm a w k → m a w ≤ k := fun a w h => by
  have := Classical.choose_spec (least (hex a w h))
  simp only [m, h, dif_pos]
  exact this
 refine wpIn_loop I m ⟨x0, h0, hS⟩ fun a w hI => ?_
 obtain ⟨⟨x, hx, hSx, hμ⟩, hmin⟩ := hm a w hI
 refine wpIn_mono (step x hx a w hSx) fun e a' w' hq => ?_
 cases e <;> try exact hq
 obtain ⟨y, ⟨hy, hlt⟩, hSy⟩ := hq
 refine ⟨⟨y, hy, hSy⟩, ?_⟩
 have := (hm a' w' ⟨y, hy, hSy⟩).2 (μ y) ⟨y, hy, hSy, rfl⟩
 omega
theorem WF.loopAt {α : Type} (p : α → Prop) (φi : α → Fr) (Li : α → List HB) (μ : α → Nat) {c : Code} (x0 : α) (h0 : p x0)
  (hφ : SubF φ (φi x0)) (hL : LessL L (Li x0)) (hz : hp (Li x0) 0 = .gone) (hs : xe_ (hp (Li x0)) (Li x0)) (hf : StableF (hp (Li x0)) (φi x0)) (hb : bornTo n0 (Li x0) = true)
  (step : ∀ x, p x → WF ro n P c w0 M E n0 N D (φi x) (Li x) (Exit.then (fun a w => ∃ y, (p y ∧ μ y < μ x) ∧ St w0 M E n0 N D (φi y) (Li y) a w) Q)) : WF ro n P (.loop c) w0 M E n0 N D φ L Q :=
 WF.sub hφ hL hz hs hf hb (WF.loop0 p φi Li μ x0 h0 step)
theorem At.next {α : Type} {p : α → Prop} {φi : α → Fr} {Li : α → List HB} (y : α) (hy : p y) (hφ : SubF φ (φi y)) (hL : LessL L (Li y)) (h0 : hp (Li y) 0 = .gone) (hs : xe_ (hp (Li y)) (Li y)) (hf : StableF (hp (Li y)) (φi y)) (hb : bornTo n0 (Li y) = true) : At w0 M E n0 N D φ L (fun a w => ∃ y, p y ∧ St w0 M E n0 N D (φi y) (Li y) a w) :=
 fun a w hS => ⟨y, hy, hS.sub hφ hL h0 hs hf hb⟩
theorem At.endsRet (hT : TabOk P T) {fn : Func} {c : Prop} {vs : List SV} {v : SV} {rs : List ResultVar} {L0 : List HB} {w1 : World} {M1 : Nat → Prop} {D1 : List Deferred} (A : Anc w0 M [] w1 M1 D1) (hro : RoOk w0 M E L0) (hL0 : L0.length ≤ n0) (hrs : fn.results.toList = rs) (hr : resV T φ (hp L) rs = some (c, vs)) (hc : c) (hL : LessL L L2) (h0 : hp L2 0 = .gone) (hs : xe_ (hp L2) L2) (hsub : RoSub L L0) (hv : ∀ β, (resS vs).den β = v.den β) (hst : Stable (hp L2) v) :
  At w1 M1 E n0 N D1 φ L (EndsM n P fn w0 M E n0 v L2 .ret) := At.endsM hT A hro hL0 hrs hr hc hL h0 hs hsub hv hst
theorem At.endsNormal (hT : TabOk P T) {fn : Func} {c : Prop} {vs : List SV} {v : SV} {rs : List ResultVar} {L0 : List HB} {w1 : World} {M1 : Nat → Prop} {D1 : List Deferred} (A : Anc w0 M [] w1 M1 D1) (hro : RoOk w0 M E L0) (hL0 : L0.length ≤ n0) (hrs : fn.results.toList = rs) (hr : resV T φ (hp L) rs = some (c, vs)) (hc : c) (hL : LessL L L2) (h0 : hp L2 0 = .gone) (hs : xe_ (hp L2) L2) (hsub : RoSub L L0) (hv : ∀ β, (resS vs).den β = v.den β) (hst : Stable (hp L2) v) :
  At w1 M1 E n0 N D1 φ L (EndsM n P fn w0 M E n0 v L2 .normal) := At.endsM hT A hro hL0 hrs hr hc hL h0 hs hsub hv hst
end
end Go.Proofs.YtjliakjbdcplcaaGreat.Vm
end
section
namespace Go.Proofs.YtjliakjbdcplcaaGreat.Vm
open Go.RowKit
set_option linter.defProp false
def J22 := @WF.region
def J23 := @WF.drawn
def J24 := fun (_ : (0 : Nat) = 0) => @WF.cond
def JH := And.intro @Bool.not_eq_true' (And.intro @Bool.not_eq_false' (And.intro @decide_eq_true_eq (And.intro @decide_eq_false_iff_not (And.intro @Bool.and_eq_true @Bool.or_eq_true))))
def JP := And.intro @Int.cast_ofNat_Int (And.intro @ofV_m1 @ofV_min)
def JS := And.intro @and_self (And.intro @true_and (And.intro @and_true (And.intro @false_implies (And.intro @true_implies (And.intro @Bool.not_eq_true' @imp_self)))))
theorem fol : Tryz.prog.follows .mixedOrders = true := by kernel_rfl
def c0 : FuncId → Option yt_ := y6_ []
theorem zs_ : ∀ f S, c0 f = some S → zh_ Tryz.prog f S := fun f S h => by cases h
class Ctl (Q : Prop) (P : outParam Prop) : Prop where
 h : P → Q
class NeB (j k : Nat) : Prop where
 h : Nat.beq j k = false
instance {k : Nat} : NeB 0 (k + 1) := ⟨rfl⟩
instance {k : Nat} : NeB (k + 1) 0 := ⟨rfl⟩
instance {j k : Nat} [h : NeB j k] : NeB (j + 1) (k + 1) := ⟨h.h⟩
section
variable {P : Program} {w0 : World} {M : Nat → Prop} {E : Env} {n0 N n : Nat} {D : List Deferred} {φ : Fr} {L : List HB} {Q : Exit → Act → World → Prop} {ro : Option Nat} {K : Act → World → Prop}
instance {x y : Code} : Ctl (WF ro n P (.seq x y) w0 M E n0 N D φ L Q) (WF ro n P x w0 M E n0 N D φ L (Exit.then (y.wpIn (FR ro) n P Q) Q)) := ⟨WF.seq⟩
instance {c : Code} : Ctl (At w0 M E n0 N D φ L (c.wpIn (FR ro) n P Q)) (WF ro n P c w0 M E n0 N D φ L Q) := ⟨At.code⟩
instance : Ctl (At w0 M E n0 N D φ L (Exit.then K Q .normal)) (At w0 M E n0 N D φ L K) := ⟨At.thenNormal⟩
instance : Ctl (At w0 M E n0 N D φ L (Exit.then K Q .ret)) (At w0 M E n0 N D φ L (Q .ret)) := ⟨At.thenRet⟩
instance {j : Nat} : Ctl (At w0 M E n0 N D φ L (Exit.then K Q (.exit j))) (At w0 M E n0 N D φ L (Q (.exit j))) := ⟨At.thenExit⟩
instance {j : Nat} : Ctl (At w0 M E n0 N D φ L (Exit.then K Q (.goto j))) (At w0 M E n0 N D φ L (Q (.goto j))) := ⟨At.thenGoto⟩
instance {id : Nat} : Ctl (At w0 M E n0 N D φ L (Exit.inBlock id Q .normal)) (At w0 M E n0 N D φ L (Q .normal)) := ⟨At.inNormal⟩
instance {id : Nat} : Ctl (At w0 M E n0 N D φ L (Exit.inBlock id Q .ret)) (At w0 M E n0 N D φ L (Q .ret)) := ⟨At.inRet⟩
instance {id j : Nat} : Ctl (At w0 M E n0 N D φ L (Exit.inBlock id Q (.goto j))) (At w0 M E n0 N D φ L (Q (.goto j))) := ⟨At.inGoto⟩
instance {id : Nat} : Ctl (At w0 M E n0 N D φ L (Exit.inBlock id Q (.exit id))) (At w0 M E n0 N D φ L (Q .normal)) := ⟨At.inHit⟩
instance : Ctl (At w0 M E n0 N D φ L (Exit.noGoto Q .normal)) (At w0 M E n0 N D φ L (Q .normal)) := ⟨At.noGotoNormal⟩
instance : Ctl (At w0 M E n0 N D φ L (Exit.noGoto Q .ret)) (At w0 M E n0 N D φ L (Q .ret)) := ⟨At.noGotoRet⟩
instance {j : Nat} : Ctl (At w0 M E n0 N D φ L (Exit.noGoto Q (.exit j))) (At w0 M E n0 N D φ L (Q (.exit j))) := ⟨At.noGotoExit⟩
instance : Ctl (WF ro n P .skip w0 M E n0 N D φ L Q) (At w0 M E n0 N D φ L (Q .normal)) := ⟨WF.skip⟩
instance : Ctl (WF ro n P .ret w0 M E n0 N D φ L Q) (At w0 M E n0 N D φ L (Q .ret)) := ⟨WF.ret⟩
instance {id : Nat} : Ctl (WF ro n P (.exit id) w0 M E n0 N D φ L Q) (At w0 M E n0 N D φ L (Q (.exit id))) := ⟨WF.exit⟩
instance {id : Nat} : Ctl (WF ro n P (.goto id) w0 M E n0 N D φ L Q) (At w0 M E n0 N D φ L (Q (.goto id))) := ⟨WF.goto⟩
instance {id : Nat} : Ctl (WF ro n P (.label id) w0 M E n0 N D φ L Q) (At w0 M E n0 N D φ L (Q .normal)) := ⟨WF.label⟩
instance {id : Nat} {c : Code} : Ctl (WF ro n P (.block id c) w0 M E n0 N D φ L Q) (WF ro n P c w0 M E n0 N D φ L (Exit.inBlock id Q)) := ⟨WF.block⟩
instance {c : Code} : Ctl (WF none n P (.scope c) w0 M E n0 N D φ L Q) (WF none n P c w0 M E n0 N D φ L (Exit.noGoto Q)) := ⟨WF.scope⟩
instance {id j : Nat} [h : NeB j id] : Ctl (At w0 M E n0 N D φ L (Exit.inBlock id Q (.exit j))) (At w0 M E n0 N D φ L (Q (.exit j))) := ⟨At.inMiss h.h⟩
end
end Go.Proofs.YtjliakjbdcplcaaGreat.Vm
end
