import Derived.Test.YtjliakjbdcplcaaG1
import Derived.Test.YtjliakjbdcplcaaG4
import Derived.Test.YtjliakjbdcplcaaG5
import Derived.Test.YtjliakjbdcplcaaProg
import Derived.Test.YtjliakjbdcplcaaChecked
import Derived.ProofKit
import Derived.Deep.Slices
import Derived.Scope
section
namespace Go.Proofs.Ytjliakjbdcplcaa.Vm
theorem b3 {P : Prop} (h : P := by rename_i q; intro hf hc; obtain ⟨q1, q2, q3, q4⟩ := hc; exact ⟨by omega, by omega, by omega, fun t => by omega, by omega⟩) : P := h
theorem b4 {P : Prop} (h : P := by rename_i q; intro hf hc; obtain ⟨q1, q2, q3, q4, q5⟩ := hc; exact ⟨by omega, by omega, by omega, fun t => by omega, by omega⟩) : P := h
end Go.Proofs.Ytjliakjbdcplcaa.Vm
end
section
namespace Go.Proofs.Ytjliakjbdcplcaa
open Go.RowKit
set_option linter.unusedVariables false
set_option linter.unusedSimpArgs false

set_option maxRecDepth 100000 in
set_option maxHeartbeats 4000000 in
theorem apply_1 (a b : Int) (w : World)
  (hw : ∀ w, Calls Try.prog 130 #[.int .u8 1, .int .i64 b] w fun e w' => e = .returned (.int .i64 0) ∧ Below w.heap.size w w') : Calls Try.prog 117 #[.int .u8 1, .int .i64 a, .int .i64 b] w fun e w' => e = .returned (.tuple #[.int .i64 (applyI 1 a b), .int .i64 0]) ∧ Below w.heap.size w w' := by
  have HW := Lib.hid hw
  clear hw
  go_enter Try.func117, Try.ntmps117
  go_wp2_with fail
  refine (HW.out _).mono ?_
  rintro e w' ⟨rfl, hb⟩
  go_wp2_with (first
    | (go_at_call 132; refine (truth_c _ _).mono ?_; rintro e w' ⟨rfl, rfl⟩)
    | (go_at_call 131; refine (mod_c _ _ _ (by assumption)).mono ?_; rintro e w' ⟨rfl, rfl⟩))
  all_goals (go_ret2; refine ⟨?_, hb⟩)
  all_goals first | rfl | (show Ending.returned (.tuple #[.int .i64 _, _]) = .returned (.tuple #[.int .i64 _, _]); congr 4; simp [applyI]; done) | (show Ending.returned (.tuple #[.int .i64 _, _]) = .returned (.tuple #[.int .i64 _, _]); congr 4; simp [applyI]; omega)

set_option maxRecDepth 100000 in
set_option maxHeartbeats 4000000 in
theorem apply_2 (a b : Int) (w : World)
  (hw : ∀ w, Calls Try.prog 130 #[.int .u8 2, .int .i64 b] w fun e w' => e = .returned (.int .i64 0) ∧ Below w.heap.size w w') : Calls Try.prog 117 #[.int .u8 2, .int .i64 a, .int .i64 b] w fun e w' => e = .returned (.tuple #[.int .i64 (applyI 2 a b), .int .i64 0]) ∧ Below w.heap.size w w' := by
  have HW := Lib.hid hw
  clear hw
  go_enter Try.func117, Try.ntmps117
  go_wp2_with fail
  refine (HW.out _).mono ?_
  rintro e w' ⟨rfl, hb⟩
  go_wp2_with (first
    | (go_at_call 132; refine (truth_c _ _).mono ?_; rintro e w' ⟨rfl, rfl⟩)
    | (go_at_call 131; refine (mod_c _ _ _ (by assumption)).mono ?_; rintro e w' ⟨rfl, rfl⟩))
  all_goals (go_ret2; refine ⟨?_, hb⟩)
  all_goals first | rfl | (show Ending.returned (.tuple #[.int .i64 _, _]) = .returned (.tuple #[.int .i64 _, _]); congr 4; simp [applyI]; done) | (show Ending.returned (.tuple #[.int .i64 _, _]) = .returned (.tuple #[.int .i64 _, _]); congr 4; simp [applyI]; omega)

set_option maxRecDepth 100000 in
set_option maxHeartbeats 4000000 in
theorem apply_3 (a b : Int) (w : World)
  (hw : ∀ w, Calls Try.prog 130 #[.int .u8 3, .int .i64 b] w fun e w' => e = .returned (.int .i64 0) ∧ Below w.heap.size w w') : Calls Try.prog 117 #[.int .u8 3, .int .i64 a, .int .i64 b] w fun e w' => e = .returned (.tuple #[.int .i64 (applyI 3 a b), .int .i64 0]) ∧ Below w.heap.size w w' := by
  have HW := Lib.hid hw
  clear hw
  go_enter Try.func117, Try.ntmps117
  go_wp2_with fail
  refine (HW.out _).mono ?_
  rintro e w' ⟨rfl, hb⟩
  go_wp2_with (first
    | (go_at_call 132; refine (truth_c _ _).mono ?_; rintro e w' ⟨rfl, rfl⟩)
    | (go_at_call 131; refine (mod_c _ _ _ (by assumption)).mono ?_; rintro e w' ⟨rfl, rfl⟩))
  all_goals (go_ret2; refine ⟨?_, hb⟩)
  all_goals first | rfl | (show Ending.returned (.tuple #[.int .i64 _, _]) = .returned (.tuple #[.int .i64 _, _]); congr 4; simp [applyI]; done) | (show Ending.returned (.tuple #[.int .i64 _, _]) = .returned (.tuple #[.int .i64 _, _]); congr 4; simp [applyI]; omega)

set_option maxRecDepth 100000 in
set_option maxHeartbeats 4000000 in
theorem apply_4 (a b : Int) (w : World) (hb0 : b ≠ 0)
  (hw : ∀ w, Calls Try.prog 130 #[.int .u8 4, .int .i64 b] w fun e w' => e = .returned (.int .i64 0) ∧ Below w.heap.size w w') : Calls Try.prog 117 #[.int .u8 4, .int .i64 a, .int .i64 b] w fun e w' => e = .returned (.tuple #[.int .i64 (applyI 4 a b), .int .i64 0]) ∧ Below w.heap.size w w' := by
  have HW := Lib.hid hw
  clear hw
  go_enter Try.func117, Try.ntmps117
  go_wp2_with fail
  refine (HW.out _).mono ?_
  rintro e w' ⟨rfl, hb⟩
  go_wp2_with (first
    | (go_at_call 132; refine (truth_c _ _).mono ?_; rintro e w' ⟨rfl, rfl⟩)
    | (go_at_call 131; refine (mod_c _ _ _ (by assumption)).mono ?_; rintro e w' ⟨rfl, rfl⟩))
  all_goals (go_ret2; refine ⟨?_, hb⟩)
  all_goals first | rfl | (show Ending.returned (.tuple #[.int .i64 _, _]) = .returned (.tuple #[.int .i64 _, _]); congr 4; simp [applyI]; done) | (show Ending.returned (.tuple #[.int .i64 _, _]) = .returned (.tuple #[.int .i64 _, _]); congr 4; simp [applyI]; omega)

set_option maxRecDepth 100000 in
set_option maxHeartbeats 4000000 in
theorem apply_5 (a b : Int) (w : World) (hb0 : b ≠ 0)
  (hw : ∀ w, Calls Try.prog 130 #[.int .u8 5, .int .i64 b] w fun e w' => e = .returned (.int .i64 0) ∧ Below w.heap.size w w') : Calls Try.prog 117 #[.int .u8 5, .int .i64 a, .int .i64 b] w fun e w' => e = .returned (.tuple #[.int .i64 (applyI 5 a b), .int .i64 0]) ∧ Below w.heap.size w w' := by
  have HW := Lib.hid hw
  clear hw
  go_enter Try.func117, Try.ntmps117
  go_wp2_with fail
  refine (HW.out _).mono ?_
  rintro e w' ⟨rfl, hb⟩
  go_wp2_with (first
    | (go_at_call 132; refine (truth_c _ _).mono ?_; rintro e w' ⟨rfl, rfl⟩)
    | (go_at_call 131; refine (mod_c _ _ _ (by assumption)).mono ?_; rintro e w' ⟨rfl, rfl⟩))
  all_goals (go_ret2; refine ⟨?_, hb⟩)
  all_goals first | rfl | (show Ending.returned (.tuple #[.int .i64 _, _]) = .returned (.tuple #[.int .i64 _, _]); congr 4; simp [applyI]; done) | (show Ending.returned (.tuple #[.int .i64 _, _]) = .returned (.tuple #[.int .i64 _, _]); congr 4; simp [applyI]; omega)

set_option maxRecDepth 100000 in
set_option maxHeartbeats 4000000 in
theorem apply_6 (a b : Int) (w : World) (hb0 : b ≠ 0)
  (hw : ∀ w, Calls Try.prog 130 #[.int .u8 6, .int .i64 b] w fun e w' => e = .returned (.int .i64 0) ∧ Below w.heap.size w w') : Calls Try.prog 117 #[.int .u8 6, .int .i64 a, .int .i64 b] w fun e w' => e = .returned (.tuple #[.int .i64 (applyI 6 a b), .int .i64 0]) ∧ Below w.heap.size w w' := by
  have HW := Lib.hid hw
  clear hw
  go_enter Try.func117, Try.ntmps117
  go_wp2_with fail
  refine (HW.out _).mono ?_
  rintro e w' ⟨rfl, hb⟩
  go_wp2_with (first
    | (go_at_call 132; refine (truth_c _ _).mono ?_; rintro e w' ⟨rfl, rfl⟩)
    | (go_at_call 131; refine (mod_c _ _ _ (by assumption)).mono ?_; rintro e w' ⟨rfl, rfl⟩))
  all_goals (go_ret2; refine ⟨?_, hb⟩)
  all_goals first | rfl | (show Ending.returned (.tuple #[.int .i64 _, _]) = .returned (.tuple #[.int .i64 _, _]); congr 4; simp [applyI]; done) | (show Ending.returned (.tuple #[.int .i64 _, _]) = .returned (.tuple #[.int .i64 _, _]); congr 4; simp [applyI]; omega)

set_option maxRecDepth 100000 in
set_option maxHeartbeats 4000000 in
theorem apply_7 (a b : Int) (w : World)
  (hw : ∀ w, Calls Try.prog 130 #[.int .u8 7, .int .i64 b] w fun e w' => e = .returned (.int .i64 0) ∧ Below w.heap.size w w') : Calls Try.prog 117 #[.int .u8 7, .int .i64 a, .int .i64 b] w fun e w' => e = .returned (.tuple #[.int .i64 (applyI 7 a b), .int .i64 0]) ∧ Below w.heap.size w w' := by
  have HW := Lib.hid hw
  clear hw
  go_enter Try.func117, Try.ntmps117
  go_wp2_with fail
  refine (HW.out _).mono ?_
  rintro e w' ⟨rfl, hb⟩
  go_wp2_with (first
    | (go_at_call 132; refine (truth_c _ _).mono ?_; rintro e w' ⟨rfl, rfl⟩)
    | (go_at_call 131; refine (mod_c _ _ _ (by assumption)).mono ?_; rintro e w' ⟨rfl, rfl⟩))
  all_goals (go_ret2; refine ⟨?_, hb⟩)
  all_goals first | rfl | (show Ending.returned (.tuple #[.int .i64 _, _]) = .returned (.tuple #[.int .i64 _, _]); congr 4; simp [applyI]; done) | (show Ending.returned (.tuple #[.int .i64 _, _]) = .returned (.tuple #[.int .i64 _, _]); congr 4; simp [applyI]; omega)

set_option maxRecDepth 100000 in
set_option maxHeartbeats 4000000 in
theorem apply_8 (a b : Int) (w : World)
  (hw : ∀ w, Calls Try.prog 130 #[.int .u8 8, .int .i64 b] w fun e w' => e = .returned (.int .i64 0) ∧ Below w.heap.size w w') : Calls Try.prog 117 #[.int .u8 8, .int .i64 a, .int .i64 b] w fun e w' => e = .returned (.tuple #[.int .i64 (applyI 8 a b), .int .i64 0]) ∧ Below w.heap.size w w' := by
  have HW := Lib.hid hw
  clear hw
  go_enter Try.func117, Try.ntmps117
  go_wp2_with fail
  refine (HW.out _).mono ?_
  rintro e w' ⟨rfl, hb⟩
  go_wp2_with (first
    | (go_at_call 132; refine (truth_c _ _).mono ?_; rintro e w' ⟨rfl, rfl⟩)
    | (go_at_call 131; refine (mod_c _ _ _ (by assumption)).mono ?_; rintro e w' ⟨rfl, rfl⟩))
  all_goals (go_ret2; refine ⟨?_, hb⟩)
  all_goals first | rfl | (show Ending.returned (.tuple #[.int .i64 _, _]) = .returned (.tuple #[.int .i64 _, _]); congr 4; simp [applyI]; done) | (show Ending.returned (.tuple #[.int .i64 _, _]) = .returned (.tuple #[.int .i64 _, _]); congr 4; simp [applyI]; omega)

set_option maxRecDepth 100000 in
set_option maxHeartbeats 4000000 in
theorem apply_9 (a b : Int) (w : World)
  (hw : ∀ w, Calls Try.prog 130 #[.int .u8 9, .int .i64 b] w fun e w' => e = .returned (.int .i64 0) ∧ Below w.heap.size w w') : Calls Try.prog 117 #[.int .u8 9, .int .i64 a, .int .i64 b] w fun e w' => e = .returned (.tuple #[.int .i64 (applyI 9 a b), .int .i64 0]) ∧ Below w.heap.size w w' := by
  have HW := Lib.hid hw
  clear hw
  go_enter Try.func117, Try.ntmps117
  go_wp2_with fail
  refine (HW.out _).mono ?_
  rintro e w' ⟨rfl, hb⟩
  go_wp2_with (first
    | (go_at_call 132; refine (truth_c _ _).mono ?_; rintro e w' ⟨rfl, rfl⟩)
    | (go_at_call 131; refine (mod_c _ _ _ (by assumption)).mono ?_; rintro e w' ⟨rfl, rfl⟩))
  all_goals (go_ret2; refine ⟨?_, hb⟩)
  all_goals first | rfl | (show Ending.returned (.tuple #[.int .i64 _, _]) = .returned (.tuple #[.int .i64 _, _]); congr 4; simp [applyI]; done) | (show Ending.returned (.tuple #[.int .i64 _, _]) = .returned (.tuple #[.int .i64 _, _]); congr 4; simp [applyI]; omega)

set_option maxRecDepth 100000 in
set_option maxHeartbeats 4000000 in
theorem apply_10 (a b : Int) (w : World)
  (hw : ∀ w, Calls Try.prog 130 #[.int .u8 10, .int .i64 b] w fun e w' => e = .returned (.int .i64 0) ∧ Below w.heap.size w w') : Calls Try.prog 117 #[.int .u8 10, .int .i64 a, .int .i64 b] w fun e w' => e = .returned (.tuple #[.int .i64 (applyI 10 a b), .int .i64 0]) ∧ Below w.heap.size w w' := by
  have HW := Lib.hid hw
  clear hw
  have hs := shB_bd b
  have hs0 : 0 ≤ bits BinOp.and IntKind.u64 (IntKind.u64.wrap b) 63 := hs.1
  have hs1 : bits BinOp.and IntKind.u64 (IntKind.u64.wrap b) 63 ≤ 64 := Int.le_trans hs.2 (by decide)
  clear hs
  go_enter Try.func117, Try.ntmps117
  go_wp2_with fail
  refine (HW.out _).mono ?_
  rintro e w' ⟨rfl, hb⟩
  go_wp2_with (first
    | (go_at_call 132; refine (truth_c _ _).mono ?_; rintro e w' ⟨rfl, rfl⟩)
    | (go_at_call 131; refine (mod_c _ _ _ (by assumption)).mono ?_; rintro e w' ⟨rfl, rfl⟩))
  all_goals (go_ret2; refine ⟨?_, hb⟩)
  all_goals first | rfl | (show Ending.returned (.tuple #[.int .i64 _, _]) = .returned (.tuple #[.int .i64 _, _]); congr 4; simp [applyI]; done) | (show Ending.returned (.tuple #[.int .i64 _, _]) = .returned (.tuple #[.int .i64 _, _]); congr 4; simp [applyI]; omega)

set_option maxRecDepth 100000 in
set_option maxHeartbeats 4000000 in
theorem apply_11 (a b : Int) (w : World)
  (hw : ∀ w, Calls Try.prog 130 #[.int .u8 11, .int .i64 b] w fun e w' => e = .returned (.int .i64 0) ∧ Below w.heap.size w w') : Calls Try.prog 117 #[.int .u8 11, .int .i64 a, .int .i64 b] w fun e w' => e = .returned (.tuple #[.int .i64 (applyI 11 a b), .int .i64 0]) ∧ Below w.heap.size w w' := by
  have HW := Lib.hid hw
  clear hw
  have hs := shB_bd b
  have hs0 : 0 ≤ bits BinOp.and IntKind.u64 (IntKind.u64.wrap b) 63 := hs.1
  have hs1 : bits BinOp.and IntKind.u64 (IntKind.u64.wrap b) 63 ≤ 64 := Int.le_trans hs.2 (by decide)
  clear hs
  go_enter Try.func117, Try.ntmps117
  go_wp2_with fail
  refine (HW.out _).mono ?_
  rintro e w' ⟨rfl, hb⟩
  go_wp2_with (first
    | (go_at_call 132; refine (truth_c _ _).mono ?_; rintro e w' ⟨rfl, rfl⟩)
    | (go_at_call 131; refine (mod_c _ _ _ (by assumption)).mono ?_; rintro e w' ⟨rfl, rfl⟩))
  all_goals (go_ret2; refine ⟨?_, hb⟩)
  all_goals first | rfl | (show Ending.returned (.tuple #[.int .i64 _, _]) = .returned (.tuple #[.int .i64 _, _]); congr 4; simp [applyI]; done) | (show Ending.returned (.tuple #[.int .i64 _, _]) = .returned (.tuple #[.int .i64 _, _]); congr 4; simp [applyI]; omega)

set_option maxRecDepth 100000 in
set_option maxHeartbeats 4000000 in
theorem apply_12 (a b : Int) (w : World)
  (hw : ∀ w, Calls Try.prog 130 #[.int .u8 12, .int .i64 b] w fun e w' => e = .returned (.int .i64 0) ∧ Below w.heap.size w w') : Calls Try.prog 117 #[.int .u8 12, .int .i64 a, .int .i64 b] w fun e w' => e = .returned (.tuple #[.int .i64 (applyI 12 a b), .int .i64 0]) ∧ Below w.heap.size w w' := by
  have HW := Lib.hid hw
  clear hw
  have hs := shB_bd b
  have hs0 : 0 ≤ bits BinOp.and IntKind.u64 (IntKind.u64.wrap b) 63 := hs.1
  have hs1 : bits BinOp.and IntKind.u64 (IntKind.u64.wrap b) 63 ≤ 64 := Int.le_trans hs.2 (by decide)
  clear hs
  go_enter Try.func117, Try.ntmps117
  go_wp2_with fail
  refine (HW.out _).mono ?_
  rintro e w' ⟨rfl, hb⟩
  go_wp2_with (first
    | (go_at_call 132; refine (truth_c _ _).mono ?_; rintro e w' ⟨rfl, rfl⟩)
    | (go_at_call 131; refine (mod_c _ _ _ (by assumption)).mono ?_; rintro e w' ⟨rfl, rfl⟩))
  all_goals (go_ret2; refine ⟨?_, hb⟩)
  all_goals first | rfl | (show Ending.returned (.tuple #[.int .i64 _, _]) = .returned (.tuple #[.int .i64 _, _]); congr 4; simp [applyI]; done) | (show Ending.returned (.tuple #[.int .i64 _, _]) = .returned (.tuple #[.int .i64 _, _]); congr 4; simp [applyI]; omega)

set_option maxRecDepth 100000 in
set_option maxHeartbeats 4000000 in
theorem apply_13 (a b : Int) (w : World)
  (hw : ∀ w, Calls Try.prog 130 #[.int .u8 13, .int .i64 b] w fun e w' => e = .returned (.int .i64 0) ∧ Below w.heap.size w w') : Calls Try.prog 117 #[.int .u8 13, .int .i64 a, .int .i64 b] w fun e w' => e = .returned (.tuple #[.int .i64 (applyI 13 a b), .int .i64 0]) ∧ Below w.heap.size w w' := by
  have HW := Lib.hid hw
  clear hw
  go_enter Try.func117, Try.ntmps117
  go_wp2_with fail
  refine (HW.out _).mono ?_
  rintro e w' ⟨rfl, hb⟩
  go_wp2_with (first
    | (go_at_call 132; refine (truth_c _ _).mono ?_; rintro e w' ⟨rfl, rfl⟩)
    | (go_at_call 131; refine (mod_c _ _ _ (by assumption)).mono ?_; rintro e w' ⟨rfl, rfl⟩))
  all_goals (go_ret2; refine ⟨?_, hb⟩)
  all_goals first | rfl | (show Ending.returned (.tuple #[.int .i64 _, _]) = .returned (.tuple #[.int .i64 _, _]); congr 4; simp [applyI]; done) | (show Ending.returned (.tuple #[.int .i64 _, _]) = .returned (.tuple #[.int .i64 _, _]); congr 4; simp [applyI]; omega)

set_option maxRecDepth 100000 in
set_option maxHeartbeats 4000000 in
theorem apply_14 (a b : Int) (w : World)
  (hw : ∀ w, Calls Try.prog 130 #[.int .u8 14, .int .i64 b] w fun e w' => e = .returned (.int .i64 0) ∧ Below w.heap.size w w') : Calls Try.prog 117 #[.int .u8 14, .int .i64 a, .int .i64 b] w fun e w' => e = .returned (.tuple #[.int .i64 (applyI 14 a b), .int .i64 0]) ∧ Below w.heap.size w w' := by
  have HW := Lib.hid hw
  clear hw
  go_enter Try.func117, Try.ntmps117
  go_wp2_with fail
  refine (HW.out _).mono ?_
  rintro e w' ⟨rfl, hb⟩
  go_wp2_with (first
    | (go_at_call 132; refine (truth_c _ _).mono ?_; rintro e w' ⟨rfl, rfl⟩)
    | (go_at_call 131; refine (mod_c _ _ _ (by assumption)).mono ?_; rintro e w' ⟨rfl, rfl⟩))
  all_goals (go_ret2; refine ⟨?_, hb⟩)
  all_goals first | rfl | (show Ending.returned (.tuple #[.int .i64 _, _]) = .returned (.tuple #[.int .i64 _, _]); congr 4; simp [applyI]; done) | (show Ending.returned (.tuple #[.int .i64 _, _]) = .returned (.tuple #[.int .i64 _, _]); congr 4; simp [applyI]; omega)

set_option maxRecDepth 100000 in
set_option maxHeartbeats 4000000 in
theorem apply_15 (a b : Int) (w : World)
  (hw : ∀ w, Calls Try.prog 130 #[.int .u8 15, .int .i64 b] w fun e w' => e = .returned (.int .i64 0) ∧ Below w.heap.size w w') : Calls Try.prog 117 #[.int .u8 15, .int .i64 a, .int .i64 b] w fun e w' => e = .returned (.tuple #[.int .i64 (applyI 15 a b), .int .i64 0]) ∧ Below w.heap.size w w' := by
  have HW := Lib.hid hw
  clear hw
  go_enter Try.func117, Try.ntmps117
  go_wp2_with fail
  refine (HW.out _).mono ?_
  rintro e w' ⟨rfl, hb⟩
  go_wp2_with (first
    | (go_at_call 132; refine (truth_c _ _).mono ?_; rintro e w' ⟨rfl, rfl⟩)
    | (go_at_call 131; refine (mod_c _ _ _ (by assumption)).mono ?_; rintro e w' ⟨rfl, rfl⟩))
  all_goals (go_ret2; refine ⟨?_, hb⟩)
  all_goals first | rfl | (show Ending.returned (.tuple #[.int .i64 _, _]) = .returned (.tuple #[.int .i64 _, _]); congr 4; simp [applyI]; done) | (show Ending.returned (.tuple #[.int .i64 _, _]) = .returned (.tuple #[.int .i64 _, _]); congr 4; simp [applyI]; omega)

set_option maxRecDepth 100000 in
set_option maxHeartbeats 4000000 in
theorem apply_16 (a b : Int) (w : World)
  (hw : ∀ w, Calls Try.prog 130 #[.int .u8 16, .int .i64 b] w fun e w' => e = .returned (.int .i64 0) ∧ Below w.heap.size w w') : Calls Try.prog 117 #[.int .u8 16, .int .i64 a, .int .i64 b] w fun e w' => e = .returned (.tuple #[.int .i64 (applyI 16 a b), .int .i64 0]) ∧ Below w.heap.size w w' := by
  have HW := Lib.hid hw
  clear hw
  go_enter Try.func117, Try.ntmps117
  go_wp2_with fail
  refine (HW.out _).mono ?_
  rintro e w' ⟨rfl, hb⟩
  go_wp2_with (first
    | (go_at_call 132; refine (truth_c _ _).mono ?_; rintro e w' ⟨rfl, rfl⟩)
    | (go_at_call 131; refine (mod_c _ _ _ (by assumption)).mono ?_; rintro e w' ⟨rfl, rfl⟩))
  all_goals (go_ret2; refine ⟨?_, hb⟩)
  all_goals first | rfl | (show Ending.returned (.tuple #[.int .i64 _, _]) = .returned (.tuple #[.int .i64 _, _]); congr 4; simp [applyI]; done) | (show Ending.returned (.tuple #[.int .i64 _, _]) = .returned (.tuple #[.int .i64 _, _]); congr 4; simp [applyI]; omega)

set_option maxRecDepth 100000 in
set_option maxHeartbeats 4000000 in
theorem apply_17 (a b : Int) (w : World)
  (hw : ∀ w, Calls Try.prog 130 #[.int .u8 17, .int .i64 b] w fun e w' => e = .returned (.int .i64 0) ∧ Below w.heap.size w w') : Calls Try.prog 117 #[.int .u8 17, .int .i64 a, .int .i64 b] w fun e w' => e = .returned (.tuple #[.int .i64 (applyI 17 a b), .int .i64 0]) ∧ Below w.heap.size w w' := by
  have HW := Lib.hid hw
  clear hw
  go_enter Try.func117, Try.ntmps117
  go_wp2_with fail
  refine (HW.out _).mono ?_
  rintro e w' ⟨rfl, hb⟩
  go_wp2_with (first
    | (go_at_call 132; refine (truth_c _ _).mono ?_; rintro e w' ⟨rfl, rfl⟩)
    | (go_at_call 131; refine (mod_c _ _ _ (by assumption)).mono ?_; rintro e w' ⟨rfl, rfl⟩))
  all_goals (go_ret2; refine ⟨?_, hb⟩)
  all_goals first | rfl | (show Ending.returned (.tuple #[.int .i64 _, _]) = .returned (.tuple #[.int .i64 _, _]); congr 4; simp [applyI]; done) | (show Ending.returned (.tuple #[.int .i64 _, _]) = .returned (.tuple #[.int .i64 _, _]); congr 4; simp [applyI]; omega)

def applyV (op a b : Int) : Int := if wrongE op b = 0 then applyI op a b else 0

theorem apply_c (op a b : Int) (w : World) : Calls Try.prog 117 #[.int .u8 op, .int .i64 a, .int .i64 b] w fun e w' => e = .returned (.tuple #[.int .i64 (applyV op a b), .int .i64 (wrongE op b)]) ∧ Below w.heap.size w w' := by
  by_cases h : wrongE op b = 0
  · have hw : ∀ w, Calls Try.prog 130 #[.int .u8 op, .int .i64 b] w fun e w' => e = .returned (.int .i64 0) ∧ Below w.heap.size w w' := by rw [← h]; exact wrong_c op b
    have hz : 4 ≤ op → op ≤ 6 → b ≠ 0 := by
      intro x y z
      rw [wrongE, if_neg (by omega), if_pos ⟨z, x, y⟩] at h
      exact absurd h (by decide)
    have hop : 1 ≤ op ∧ op ≤ 17 := by
      refine ⟨?_, ?_⟩
      · by_cases q : op < 1
        · rw [wrongE, if_pos (.inl q)] at h; exact absurd h (by decide)
        · omega
      · by_cases q : 17 < op
        · rw [wrongE, if_pos (.inr q)] at h; exact absurd h (by decide)
        · omega
    rw [applyV, if_pos h, h]
    have h : op = 1 ∨ op = 2 ∨ op = 3 ∨ op = 4 ∨ op = 5 ∨ op = 6 ∨ op = 7 ∨ op = 8 ∨ op = 9 ∨ op = 10 ∨ op = 11 ∨ op = 12 ∨ op = 13 ∨ op = 14 ∨ op = 15 ∨ op = 16 ∨ op = 17 := by omega
    rcases h with h | h | h | h | h | h | h | h | h | h | h | h | h | h | h | h | h <;> subst h
    · exact apply_1 a b w hw
    · exact apply_2 a b w hw
    · exact apply_3 a b w hw
    · exact apply_4 a b w (hz (by decide) (by decide)) hw
    · exact apply_5 a b w (hz (by decide) (by decide)) hw
    · exact apply_6 a b w (hz (by decide) (by decide)) hw
    · exact apply_7 a b w hw
    · exact apply_8 a b w hw
    · exact apply_9 a b w hw
    · exact apply_10 a b w hw
    · exact apply_11 a b w hw
    · exact apply_12 a b w hw
    · exact apply_13 a b w hw
    · exact apply_14 a b w hw
    · exact apply_15 a b w hw
    · exact apply_16 a b w hw
    · exact apply_17 a b w hw
  · rw [applyV, if_neg h]
    exact apply_bad op a b w (by rw [bne_iff_ne]; exact h)
end Go.Proofs.Ytjliakjbdcplcaa
end

section
namespace Go.Proofs.Ytjliakjbdcplcaa
set_option linter.unusedVariables false
set_option linter.unusedSimpArgs false
theorem right_last' {p : List Ins} (h : (checkI p).2 = 0) : 0 < p.length ∧ p.length ≤ 256 ∧ goesB (p.getD (p.length - 1) ⟨0, 0, 0, 0, 0⟩) = false ∧ ∀ k, k < p.length → badAt p.length (p.getD k ⟨0, 0, 0, 0, 0⟩) = 0 := by
  unfold checkI at h
  by_cases h0 : p.length = 0
  · rw [if_pos h0] at h; cases h
  · by_cases h1 : 256 < p.length
    · rw [if_neg h0, if_pos h1] at h; cases h
    · rw [if_neg h0, if_neg h1] at h
      refine ⟨by omega, by omega, ?_⟩
      unfold checkK at h
      cases hf : p.findIdx? (fun i => badAt p.length i != 0) with
      | some k =>
        rw [hf] at h
        obtain ⟨hk, hb, _⟩ := List.findIdx?_eq_some_iff_getElem.1 hf
        exfalso
        have hg : p.getD k ⟨0, 0, 0, 0, 0⟩ = p[k] := by simp [List.getD, hk]
        dsimp only at h
        rw [hg] at h
        simp [h] at hb
      | none =>
        rw [hf] at h
        rw [List.findIdx?_eq_none_iff] at hf
        dsimp only at h
        refine ⟨?_, fun k hk => ?_⟩
        · by_cases hg : goesB (p.getD (p.length - 1) ⟨0, 0, 0, 0, 0⟩) = true
          · rw [if_pos hg] at h; cases h
          · simpa using hg
        · have := hf (p.getD k ⟨0, 0, 0, 0, 0⟩) (by
            rw [List.getD_eq_getElem?_getD, List.getElem?_eq_getElem hk]; exact List.getElem_mem hk)
          simpa using this
structure RightI (n k : Nat) (x : Ins) : Prop where
  ok : x.ok
  one : oneE x = 0
  a : x.a < 8
  b : x.b < 8
  c : x.c < 8
  targ : targB x = true → 0 ≤ targV x ∧ targV x < n
  goes : goesB x = true → k + 1 < n
  cls : x.op = 1 ∨ x.op = 2 ∨ x.op = 3 ∨ x.op = 4 ∨ x.op = 5 ∨ x.op = 6 ∨ x.op = 7 ∨ x.op = 8 ∨ x.op = 9 ∨ x.op = 10 ∨ x.op = 11 ∨ (33 ≤ x.op ∧ x.op ≤ 49)
theorem one_regs {x : Ins} (h : oneE x = 0) : x.a < 8 ∧ x.b < 8 ∧ x.c < 8 ∧ (targB x = true → 0 ≤ x.n) ∧ (x.op = 1 ∨ x.op = 2 ∨ x.op = 3 ∨ x.op = 4 ∨ x.op = 5 ∨ x.op = 6 ∨ x.op = 7 ∨ x.op = 8 ∨ x.op = 9 ∨ x.op = 10 ∨ x.op = 11 ∨ (33 ≤ x.op ∧ x.op ≤ 49)) := by
  have h0 := h
  unfold oneE at h
  have hf : formC x.op ≠ 0 := fun e => by rw [if_pos e] at h; cases h
  rw [if_neg hf] at h
  have hc : fitsC (formC x.op) x.a x.b x.c x.n := by
    by_cases q : fitsC (formC x.op) x.a x.b x.c x.n
    · exact q
    · rw [oneK_neg q] at h; cases h
  have ht : targB x = true → x.op = 9 ∨ x.op = 10 ∨ x.op = 11 := fun ht => by
    unfold targB at ht
    simp at ht
    exact ht.2
  revert hc hf
  unfold formC
  split
  · rename_i q; intro hf hc; obtain ⟨q1, q2, q3, q4⟩ := hc; exact ⟨q1, q2, q3, fun t => by omega, by omega⟩
  split
  · exact Vm.b3
  split
  · rename_i q; intro hf hc; obtain ⟨q1, q2, q3⟩ := hc; exact ⟨by omega, by omega, by omega, fun t => by have := ht t; omega, by omega⟩
  split
  · exact Vm.b3
  split
  · exact Vm.b4
  split
  · exact Vm.b4
  split
  · exact Vm.b4
  · intro hf; exact absurd rfl hf
theorem right_at {p : List Ins} (hok : ∀ x ∈ p, x.ok) (h : (checkI p).2 = 0) {k : Nat} (hk : k < p.length) : RightI p.length k (p.getD k ⟨0, 0, 0, 0, 0⟩) := by
  obtain ⟨h0, h1, h2, h3⟩ := right_last' h
  have hb := h3 k hk
  unfold badAt at hb
  have h4 : oneE (p.getD k ⟨0, 0, 0, 0, 0⟩) = 0 := by
    by_cases q : oneE (p.getD k ⟨0, 0, 0, 0, 0⟩) = 0
    · exact q
    · rw [if_pos q] at hb; exact absurd hb q
  rw [if_neg (by omega)] at hb
  obtain ⟨ra, rb, rc, rt, rcl⟩ := one_regs h4
  refine ⟨hok _ (by rw [List.getD_eq_getElem?_getD, List.getElem?_eq_getElem hk]; exact List.getElem_mem hk), h4, ra, rb, rc, fun ht => ?_, fun hg => ?_, rcl⟩
  · refine ⟨by unfold targV; rw [if_pos ht]; exact rt ht, ?_⟩
    by_cases q : (p.length : Int) ≤ targV (p.getD k ⟨0, 0, 0, 0, 0⟩)
    · rw [if_pos ⟨ht, q⟩] at hb; cases hb
    · omega
  · by_cases q : k + 1 < p.length
    · exact q
    · have : k = p.length - 1 := by omega
      subst this
      rw [h2] at hg; cases hg
theorem goesB_of {x : Ins} (h : oneE x = 0) : goesB x = (x.op != 1 && (x.op != 2 && x.op != 9)) := by unfold goesB; rw [h]; rfl
theorem targB_of {x : Ins} (h : oneE x = 0) : targB x = (x.op == 9 || (x.op == 10 || x.op == 11)) := by unfold targB; rw [h]; rfl
end Go.Proofs.Ytjliakjbdcplcaa
end

section
namespace Go.Proofs.Ytjliakjbdcplcaa
open Go.RowKit
set_option linter.unusedVariables false
set_option linter.unusedSimpArgs false

def foldI (x n : Int) : Int := bits .xor .u64 x (x / 2 ^ n.toNat)
theorem fold_c (x n : Int) (w : World) (h0 : 0 ≤ n) (h1 : n ≤ 64) : Calls Try.prog 148 #[.int .u64 x, .int .i64 n] w fun e w' => e = .returned (.int .u64 (foldI x n)) ∧ w = w' := by
  go_enter Try.func148, Try.ntmps148
  go_wp2
  go_ret
  exact ⟨rfl, rfl⟩

def mixI (x : Int) : Int := foldI (IntKind.u64.wrap (foldI (IntKind.u64.wrap (foldI x 30 * 13787848793156543929)) 27 * 10723151780598845931)) 31
theorem mix_c (x : Int) (w : World) : Calls Try.prog 147 #[.int .u64 x] w fun e w' => e = .returned (.int .u64 (mixI x)) ∧ w = w' := by
  go_enter Try.func147, Try.ntmps147
  go_wp2_with (go_at_call 148; refine (fold_c _ _ _ (by omega) (by omega)).mono ?_; rintro e w' ⟨rfl, rfl⟩)
  go_ret
  exact ⟨rfl, rfl⟩

def atI (key index : Int) : Int := mixI (IntKind.u64.wrap (key + IntKind.u64.wrap (IntKind.u64.wrap (IntKind.u64.wrap index + 1) * 11400714819323198485)))
theorem at_c (key index : Int) (w : World) : Calls Try.prog 144 #[.int .u64 key, .int .i64 index] w fun e w' => e = .returned (.int .u64 (atI key index)) ∧ w = w' := by
  go_enter Try.func144, Try.ntmps144
  go_wp2_with (go_at_call 147; refine (mix_c _ _).mono ?_; rintro e w' ⟨rfl, rfl⟩)
  go_ret
  exact ⟨rfl, rfl⟩

def lo32 (z : Int) : Int := bits .and .u64 z 4294967295
def upP (v n : Int) : Int := IntKind.u64.wrap (lo32 v * lo32 n)
def upQ (v n : Int) : Int := IntKind.u64.wrap (IntKind.u64.wrap (v / 4294967296 * lo32 n) + upP v n / 4294967296)
def upR (v n : Int) : Int := IntKind.u64.wrap (IntKind.u64.wrap (lo32 v * (n / 4294967296)) + lo32 (upQ v n))
def upperI (v n : Int) : Int := IntKind.u64.wrap (IntKind.u64.wrap (IntKind.u64.wrap (v / 4294967296 * (n / 4294967296)) + upQ v n / 4294967296) + upR v n / 4294967296)
theorem upper_c (v n : Int) (w : World) : Calls Try.prog 145 #[.int .u64 v, .int .u64 n] w fun e w' => e = .returned (.int .u64 (upperI v n)) ∧ w = w' := by
  go_enter Try.func145, Try.ntmps145
  go_wp2
  go_ret
  exact ⟨rfl, rfl⟩

def belowI (v n : Int) : Int := wrap64 (upperI v (IntKind.u64.wrap n))
theorem below_ok (v n : Int) (w : World) (h : 1 ≤ n) : Calls Try.prog 142 #[.int .u64 v, .int .i64 n] w fun e w' => e = .returned (.tuple #[.int .i64 (belowI v n), .int .i64 0]) ∧ w = w' := by
  go_enter Try.func142, Try.ntmps142
  go_wp2_with (go_at_call 145; refine (upper_c _ _ _).mono ?_; rintro e w' ⟨rfl, rfl⟩)
  go_ret2
  exact ⟨rfl, rfl⟩

def join2 (x y : Int) : Int := mixI (IntKind.u64.wrap (IntKind.u64.wrap (11400714819323198485 + y) + IntKind.u64.wrap (mixI (IntKind.u64.wrap (IntKind.u64.wrap (11400714819323198485 + x))) * 11400714819323198485)))
set_option maxRecDepth 100000 in
set_option maxHeartbeats 1000000 in
theorem join2_c (b : Nat) (x y : Int) (w : World) (h0 : w.cell? ⟨b, 0, none⟩ = some (.int .u64 x)) (h1 : w.cell? ⟨b, 1, none⟩ = some (.int .u64 y)) :
    Calls Try.prog 146 #[.slice (some ⟨b, 0, none⟩) 2 2] w fun e w' => e = .returned (.int .u64 (join2 x y)) ∧ w = w' := by
  go_enter Try.func146, Try.ntmps146
  go_wp2
  refine wp_loop_rounds 3 ?_
  rw [rounds_succ]
  go_wp2_with (go_at_call 147; refine (mix_c _ _).mono ?_; rintro e w' ⟨rfl, rfl⟩)
  rw [rounds_succ]
  go_wp2_with (go_at_call 147; refine (mix_c _ _).mono ?_; rintro e w' ⟨rfl, rfl⟩)
  rw [rounds_succ]
  go_wp2_with (go_at_call 147; refine (mix_c _ _).mono ?_; rintro e w' ⟨rfl, rfl⟩)
  go_ret
  exact ⟨rfl, rfl⟩

def keyI (seed process : Int) : Int := join2 seed process
theorem key_ok (seed process : Int) (w : World) (h0 : 0 ≤ process) (h1 : process ≤ 65536) : Calls Try.prog 143 #[.int .u64 seed, .int .i64 process] w fun e w' => e = .returned (.tuple #[.int .u64 (keyI seed process), .int .i64 0]) ∧ Below w.heap.size w w' := by
  go_enter Try.func143, Try.ntmps143
  go_wp2_with fail
  refine (join2_c w.heap.size seed process _ ?_ ?_).mono ?_
  · exact cell_of_row _ _ _ _ _ _ (heap_alloc_new w _)
  · exact cell_of_row _ _ _ _ _ _ (heap_alloc_new w _)
  rintro e w' ⟨rfl, rfl⟩
  go_wp2
  go_ret2
  exact ⟨rfl, (Below.refl _ _).alloc (Nat.le_refl _) _⟩
def valueI (seed process index : Int) : Int := atI (keyI seed process) index
set_option maxHeartbeats 1000000 in
theorem value_ok (seed process index : Int) (w : World) (h0 : 0 ≤ process) (h1 : process ≤ 65536) (h2 : 0 ≤ index) (h3 : index ≤ 281474976710656) :
    Calls Try.prog 141 #[.int .u64 seed, .int .i64 process, .int .i64 index] w fun e w' => e = .returned (.tuple #[.int .u64 (valueI seed process index), .int .i64 0]) ∧ Below w.heap.size w w' := by
  go_enter Try.func141, Try.ntmps141
  go_wp2_with fail
  refine (key_ok _ _ _ h0 h1).mono ?_
  rintro e w' ⟨rfl, hb⟩
  go_wp2_with (go_at_call 144; refine (at_c _ _ _).mono ?_; rintro e w' ⟨rfl, rfl⟩)
  go_ret2
  exact ⟨rfl, hb⟩

def drawI (seed process index n : Int) : Int := belowI (valueI seed process index) n
set_option maxHeartbeats 1000000 in
theorem draw_ok (seed process index n : Int) (w : World) (h0 : 0 ≤ process) (h1 : process ≤ 65536) (h2 : 0 ≤ index) (h3 : index ≤ 281474976710656) (hn : 1 ≤ n) :
    Calls Try.prog 137 #[.int .u64 seed, .int .i64 process, .int .i64 index, .int .i64 n] w fun e w' => e = .returned (.tuple #[.int .i64 (drawI seed process index n), .int .i64 0]) ∧ Below w.heap.size w w' := by
  go_enter Try.func137, Try.ntmps137
  go_wp2_with fail
  refine (value_ok _ _ _ _ h0 h1 h2 h3).mono ?_
  rintro e w' ⟨rfl, hb⟩
  go_wp2_with (go_at_call 142; refine (below_ok _ _ _ hn).mono ?_; rintro e w' ⟨rfl, rfl⟩)
  go_ret2
  exact ⟨rfl, hb⟩

end Go.Proofs.Ytjliakjbdcplcaa
end

section
namespace Go.Proofs.Ytjliakjbdcplcaa.Vm
open Go.RowKit
set_option linter.unusedVariables false
set_option linter.unusedSimpArgs false

structure Sta where
  at_ : Int
  ended : Bool
  regs : Nat → Int
  cells : List Int
  draws : Int
  sends : List Snd
structure Evi where
  seed : Int
  process : Int
  ports : Int
  look : Int
  now : Int
def Sta.put (s : Sta) (k : Nat) (x : Int) : Sta := { s with regs := fun j => if j = k then x else s.regs j, at_ := s.at_ + 1 }
theorem sta_eta (s : Sta) : Sta.mk s.at_ s.ended (fun q => s.regs q) s.cells s.draws s.sends = s := rfl
theorem evi_eta (v : Evi) : Evi.mk v.seed v.process v.ports v.look v.now = v := rfl
def sendE (s : Sta) (v : Evi) (i : Ins) : Int :=
  if v.ports ≤ i.n then 188 else if s.regs i.a.toNat < v.look then 189 else if 281474976710656 - v.now < s.regs i.a.toNat then 1800 else if 256 ≤ s.sends.length then 1801 else 0
def doE (s : Sta) (v : Evi) (i : Ins) : Int :=
  if i.op = 2 then 184
  else if i.op = 5 ∨ i.op = 6 then (if s.regs i.b.toNat < 0 ∨ (s.cells.length : Int) ≤ s.regs i.b.toNat then 185 else 0)
  else if i.op = 7 then (if s.regs i.b.toNat < 1 then 186 else if s.draws = 1099511627776 then 187 else 0)
  else if i.op = 8 then sendE s v i
  else if i.op < 32 then 0
  else wrongE (i.op - 32) (s.regs i.c.toNat)
def doS (s : Sta) (v : Evi) (i : Ins) : Sta :=
  if doE s v i ≠ 0 then s
  else if i.op = 1 then { s with ended := true }
  else if i.op = 3 then s.put i.a.toNat i.n
  else if i.op = 4 then s.put i.a.toNat (s.regs i.b.toNat)
  else if i.op = 5 then s.put i.a.toNat (s.cells.getD (s.regs i.b.toNat).toNat 0)
  else if i.op = 6 then { s with cells := s.cells.set (s.regs i.b.toNat).toNat (s.regs i.a.toNat), at_ := s.at_ + 1 }
  else if i.op = 7 then { s.put i.a.toNat (drawI v.seed v.process s.draws (s.regs i.b.toNat)) with draws := s.draws + 1 }
  else if i.op = 8 then { s with at_ := s.at_ + 1, sends := s.sends ++ [⟨i.n, s.regs i.a.toNat, s.regs i.b.toNat⟩] }
  else if i.op = 9 then { s with at_ := i.n }
  else if i.op = 10 then { s with at_ := if s.regs i.a.toNat = 0 then i.n else s.at_ + 1 }
  else if i.op = 11 then { s with at_ := if s.regs i.a.toNat < 0 then i.n else s.at_ + 1 }
  else s.put i.a.toNat (applyV (i.op - 32) (s.regs i.b.toNat) (s.regs i.c.toNat))
def Ins0 : Ins := ⟨0, 0, 0, 0, 0⟩
def insAt (p : List Ins) (k : Int) : Ins := p.getD k.toNat ⟨0, 0, 0, 0, 0⟩
def Evi.rightB (v : Evi) : Bool := decide (0 ≤ v.process ∧ v.process ≤ 65536 ∧ 0 ≤ v.ports ∧ 1 ≤ v.look ∧ 0 ≤ v.now ∧ v.now ≤ 281474976710656)
def Sta.rightB (s : Sta) (n : Int) : Bool := decide (0 ≤ s.at_ ∧ s.at_ < n ∧ (s.cells.length : Int) ≤ 1024 ∧ 0 ≤ s.draws ∧ s.draws ≤ 1099511627776)
def openE (p : List Ins) (v : Evi) (s : Sta) : Int :=
  if (checkI p).2 ≠ 0 then 180 else if v.rightB = false then 181 else if s.rightB p.length = false then 182 else 0
def stepE (p : List Ins) (v : Evi) (s : Sta) : Int := if s.ended = true then 183 else doE s v (insAt p s.at_)
def stepS (p : List Ins) (v : Evi) (s : Sta) : Sta := if s.ended = true then s else doS s v (insAt p s.at_)
def zeroSt : Sta := ⟨0, false, fun _ => 0, [], 0, []⟩
structure RI (x : Ins) : Prop where
  ok : x.ok
  a : x.a < 8
  b : x.b < 8
  c : x.c < 8
  jmp : x.op = 9 ∨ x.op = 10 ∨ x.op = 11 → 0 ≤ x.n ∧ x.n < 256
  snd : x.op = 8 → 0 ≤ x.n ∧ x.n < 16
  cls : x.op = 1 ∨ x.op = 2 ∨ x.op = 3 ∨ x.op = 4 ∨ x.op = 5 ∨ x.op = 6 ∨ x.op = 7 ∨ x.op = 8 ∨ x.op = 9 ∨ x.op = 10 ∨ x.op = 11 ∨ (33 ≤ x.op ∧ x.op ≤ 49)
theorem ri_at {p : List Ins} (hok : ∀ x ∈ p, x.ok) (h : (checkI p).2 = 0) {k : Nat} (hk : k < p.length) : RI (p.getD k ⟨0, 0, 0, 0, 0⟩) := by
  have R := right_at hok h hk
  have hl := (right_last' h).2.1
  refine ⟨R.ok, R.a, R.b, R.c, fun hj => ?_, fun h8 => ?_, R.cls⟩
  · have ht : targB (p.getD k ⟨0, 0, 0, 0, 0⟩) = true := by
      rw [targB_of R.one]
      rcases hj with e | e | e <;> simp only [e] <;> decide
    have := R.targ ht
    unfold targV at this
    rw [if_pos ht] at this
    omega
  · have h := R.one
    unfold oneE at h
    have hf : formC (p.getD k ⟨0, 0, 0, 0, 0⟩).op = 5 := by rw [h8]; rfl
    rw [hf, if_neg (by decide)] at h
    have hc : fitsC 5 (p.getD k ⟨0, 0, 0, 0, 0⟩).a (p.getD k ⟨0, 0, 0, 0, 0⟩).b (p.getD k ⟨0, 0, 0, 0, 0⟩).c (p.getD k ⟨0, 0, 0, 0, 0⟩).n := by
      by_cases q : fitsC 5 (p.getD k ⟨0, 0, 0, 0, 0⟩).a (p.getD k ⟨0, 0, 0, 0, 0⟩).b (p.getD k ⟨0, 0, 0, 0, 0⟩).c (p.getD k ⟨0, 0, 0, 0, 0⟩).n
      · exact q
      · rw [oneK_neg q] at h; cases h
    exact ⟨hc.2.2.2.1, hc.2.2.2.2⟩
structure VOk (v : Evi) : Prop where
  p0 : 0 ≤ v.process
  p1 : v.process ≤ 65536
  t0 : 0 ≤ v.now
  t1 : v.now ≤ 281474976710656
  o0 : 0 ≤ v.ports
  l0 : 1 ≤ v.look
structure SOk (s : Sta) : Prop where
  a0 : 0 ≤ s.at_
  a1 : s.at_ ≤ 256
  d0 : 0 ≤ s.draws
  d1 : s.draws ≤ 1099511627776
  c1 : s.cells.length ≤ 1024
  n1 : s.sends.length ≤ 1000000
theorem VOk.of {v : Evi} (h : v.rightB = true) : VOk v := by
  have := of_decide_eq_true (show decide _ = true from h)
  exact ⟨by omega, by omega, by omega, by omega, by omega, by omega⟩
theorem doS_bad {s : Sta} {v : Evi} {x : Ins} (h : doE s v x ≠ 0) : doS s v x = s := by unfold doS; rw [if_pos h]
end Go.Proofs.Ytjliakjbdcplcaa.Vm
end

section
namespace Go.Proofs.Ytjliakjbdcplcaa
open Go.ChangeShapes Go.WideShapes Go.ChangeAt Go.RowKit Go.Deep
set_option linter.unusedVariables false
set_option linter.unusedSimpArgs false

theorem cell_lt17 {w : World} {p : Addr} {v : Value} (h : w.cell? p = some v) : p.block < w.heap.size := by
  rcases Nat.lt_or_ge p.block w.heap.size with hl | hg
  · exact hl
  · unfold World.cell? at h
    rw [Array.getElem?_eq_none hg] at h
    cases h
theorem trod_int_at17 {H : Type} {enc : TypeId × Value → H} {w : World} {base : Nat} {spare : Nat → Bool} {held : Bool} {n : Nat} {v : Value} {x : DataW H × List MemPlace} {t : TypeId} {k : IntKind} (ht : Try.prog.underlying t = some (.int k)) (h : DataW.trod enc Try.prog w base spare held n t [v] = some x) : ∃ a, v = .int k a ∧ (Lit.int k a).wf = true := by
  obtain ⟨a, e0, _, b⟩ := DataW.trod_int ht h
  exact ⟨a, (List.cons.inj e0).1, b⟩
set_option maxRecDepth 100000 in
theorem open_small17s {H : Type} {enc : TypeId × Value → H} {w : World} {n : Nat} {v : Value} {x : DataW H × List MemPlace} (h : DataW.trod enc Try.prog w 0 (fun _ => true) true n 22 [v] = some x) :
    ∃ A l c xs, v = .slice A l c ∧ l ≤ c ∧ c ≤ 9223372036854775807 ∧ (∀ i ∈ xs, Ins.ok i) ∧ Reads w w.heap.size 5 A l (insV xs) := by
  have h5 : Try.prog.cellsOf 155 = 5 := by kernel_rfl
  have hc1 : Try.prog.cellsOf 5 = 1 := by kernel_rfl
  have hc2 : Try.prog.cellsOf 2 = 1 := by kernel_rfl
  rcases open_slice Try.underlying22 h with ⟨h0, _⟩ | ⟨a, len, cap, m, k, D, Pl, h0, _, hl, hm, hmm, _, hx⟩
  · exact ⟨none, 0, 0, [], (List.cons.inj h0).1, by omega, by omega, (fun _ h => by cases h), Reads.none_⟩
  · have hmc : m = cap := hmm.trans (if_pos rfl)
    have each : ∀ i, i < len → ∃ y : Ins, y.ok ∧ ∀ j u, y.cells[j]? = some u → w.cell? (a.add (i * 5 + j)) = some u := by
      intro i hi
      obtain ⟨cs', h1, h2⟩ := hx i (by omega)
      rw [h5] at h1
      obtain ⟨_, hlen, hcell⟩ := World.cells?_some h1
      obtain ⟨ys, q, _, _, _, hyl, hf⟩ := DataW.trod_struct Try.underlying155 h2
      match ys, hyl, cs', hlen with
      | [y0, y1, y2, y3, y4], _, [c0, c1, c2, c3, c4], _ =>
        have g0 : DataW.trod enc Try.prog w 0 (fun _ => true) true q 5 [c0] = some y0 := by simpa [hc1, hc2] using hf 0 _ rfl
        have g1 : DataW.trod enc Try.prog w 0 (fun _ => true) true q 5 [c1] = some y1 := by simpa [hc1, hc2] using hf 1 _ rfl
        have g2 : DataW.trod enc Try.prog w 0 (fun _ => true) true q 5 [c2] = some y2 := by simpa [hc1, hc2] using hf 2 _ rfl
        have g3 : DataW.trod enc Try.prog w 0 (fun _ => true) true q 5 [c3] = some y3 := by simpa [hc1, hc2] using hf 3 _ rfl
        have g4 : DataW.trod enc Try.prog w 0 (fun _ => true) true q 2 [c4] = some y4 := by simpa [hc1, hc2] using hf 4 _ rfl
        obtain ⟨a0, rfl, b0⟩ := trod_int_at17 Try.underlying5 g0
        obtain ⟨a1, rfl, b1⟩ := trod_int_at17 Try.underlying5 g1
        obtain ⟨a2, rfl, b2⟩ := trod_int_at17 Try.underlying5 g2
        obtain ⟨a3, rfl, b3⟩ := trod_int_at17 Try.underlying5 g3
        obtain ⟨a4, rfl, b4⟩ := trod_int_at17 Try.underlying2 g4
        simp [Lit.wf, IntKind.min, IntKind.max, IntKind.signed, IntKind.bits] at b0 b1 b2 b3 b4
        refine ⟨⟨a0, a1, a2, a3, a4⟩, ⟨b0.1, b0.2, b1.1, b1.2, b2.1, b2.2, b3.1, b3.2, b4.1, b4.2⟩, fun j u hj => ?_⟩
        have hj5 : j < 5 := (List.getElem?_eq_some_iff.1 hj).1
        have := hcell j hj5
        rw [Vm.add_add] at this
        rw [this]
        exact hj
    have : Inhabited Ins := ⟨⟨0, 0, 0, 0, 0⟩⟩
    obtain ⟨f, hf⟩ := choose_lt (n := len) (p := fun i (y : Ins) => y.ok ∧ ∀ j u, y.cells[j]? = some u → w.cell? (a.add (i * 5 + j)) = some u) each
    refine ⟨some a, len, cap, (List.range len).map f, (List.cons.inj h0).1, hl, by unfold maxLen at hm; omega, fun i hi => ?_, by rw [insV_len]; simp, fun hn => ⟨a, rfl, ?_, fun j u hu => ?_⟩⟩
    · obtain ⟨q, hq, rfl⟩ := List.mem_map.1 hi
      exact (hf q (List.mem_range.1 hq)).1
    · have := cell_lt17 ((hf 0 hn).2 0 _ rfl)
      rwa [block_of_add] at this
    · have hj := (List.getElem?_eq_some_iff.1 hu).1
      rw [insV_len] at hj
      simp at hj
      obtain ⟨q, r, hr5, rfl⟩ : ∃ q r, r < 5 ∧ j = q * 5 + r := ⟨j / 5, j % 5, by omega, by omega⟩
      have hq : q < len := by omega
      refine (hf q hq).2 r u ?_
      have hfl := flat_at Ins.cells 5 (fun _ => rfl) ((List.range len).map f) q r (f q) (by simp [hq]) hr5
      rw [← hfl]
      exact hu
theorem open_words19 {H : Type} {enc : TypeId × Value → H} {w : World} {base : Nat} {n : Nat} {v : Value} {x : DataW H × List MemPlace} (h : DataW.trod enc Try.prog w base (fun _ => true) true n 24 [v] = some x) :
    ∃ A l c xs, v = .slice A l c ∧ l ≤ c ∧ c ≤ 9223372036854775807 ∧ Reads w w.heap.size 1 A l (int64s xs) := by
  rcases open_slice1 Try.underlying24 (by kernel_rfl) h with ⟨h0, _⟩ | ⟨a, len, cap, m, k, V, D, Pl, h0, _, hl, hm, hmm, _, hx⟩
  · exact ⟨none, 0, 0, [], (List.cons.inj h0).1, by omega, by omega, Reads.none_⟩
  · have hmc : m = cap := hmm.trans (if_pos rfl)
    obtain ⟨f, hf⟩ := choose_lt (n := len) (p := fun i (z : Int) => V i = .int .i64 z) (fun i hi => by
      obtain ⟨z, hz, _⟩ := trod_int_at17 Try.underlying2 (hx i (by omega)).2
      exact ⟨z, hz⟩)
    refine ⟨some a, len, cap, (List.range len).map f, (List.cons.inj h0).1, hl, by unfold maxLen at hm; omega, by simp [int64s], fun hn => ⟨a, rfl, ?_, fun j u hu => ?_⟩⟩
    · have := cell_lt17 (hx 0 (by omega)).1
      rwa [block_of_add] at this
    · have hj : j < len := by
        have := (List.getElem?_eq_some_iff.1 hu).1
        simpa [int64s] using this
      rw [(hx j (by omega)).1, ← hu, hf j hj]
      simp [int64s, hj]
structure S19 where
  xs : List Ins
  a : Int
  d : Int
  sn : Int
  time : Int
  source : Int
  value : Int
  fuel : Int
  rg : Nat → Int
  cs : List Int
  v : Vm.Evi
structure S19.ok (y : S19) : Prop where
  x : ∀ i ∈ y.xs, i.ok
  a : 0 ≤ y.a ∧ y.a ≤ 255
  d : 0 ≤ y.d ∧ y.d ≤ 4294967295
  sn : 0 ≤ y.sn ∧ y.sn ≤ 255
  time : 0 ≤ y.time ∧ y.time ≤ 4294967295
  source : 0 ≤ y.source ∧ y.source ≤ 255
  fuel : 0 ≤ y.fuel ∧ y.fuel ≤ 65535
def S19.cells (y : S19) (A B : Value) : Array Value := #[A, .int .u8 y.a, .int .i64 (y.rg 0), .int .i64 (y.rg 1), .int .i64 (y.rg 2), .int .i64 (y.rg 3), .int .i64 (y.rg 4), .int .i64 (y.rg 5), .int .i64 (y.rg 6), .int .i64 (y.rg 7), B, .int .u32 y.d, .int .u8 y.sn, .int .u64 y.v.seed, .int .i64 y.v.process, .int .i64 y.v.ports, .int .i64 y.v.look, .int .i64 y.v.now, .int .u32 y.time, .int .u8 y.source, .int .i64 y.value, .int .u16 y.fuel]
set_option maxRecDepth 100000 in
set_option maxHeartbeats 2000000 in
theorem open_small19 {H : Type} {enc : TypeId × Value → H} {w : World} {b0 : Nat} {r : Reach} {v : Value} {d : DataW H} {p : List MemPlace} (hv : Value.okWide Try.prog w r b0 33 v) (h : DataW.Trod enc Try.prog w 0 (fun _ => true) true 33 v d p) :
    ∃ (y : S19) (A : Option Addr) (l c : Nat) (B : Option Addr) (l2 c2 : Nat), v = .agg (y.cells (.slice A l c) (.slice B l2 c2)) ∧ y.ok ∧ l ≤ c ∧ c ≤ 9223372036854775807 ∧ l2 ≤ c2 ∧ c2 ≤ 9223372036854775807 ∧ Reads w w.heap.size 5 A l (insV y.xs) ∧ Reads w w.heap.size 1 B l2 (int64s y.cs) := by
  obtain ⟨cs, rfl, hsz⟩ := okWide_struct Try.underlying33 hv
  obtain ⟨l⟩ := cs
  have k0 : Try.prog.cellsOf 33 = 22 := by kernel_rfl
  have k1 : Try.prog.cellsOf 5 = 1 := by kernel_rfl
  have k2 : Try.prog.cellsOf 23 = 8 := by kernel_rfl
  have k3 : Try.prog.cellsOf 24 = 1 := by kernel_rfl
  have k4 : Try.prog.cellsOf 25 = 1 := by kernel_rfl
  have k5 : Try.prog.cellsOf 22 = 1 := by kernel_rfl
  have k6 : Try.prog.cellsOf 27 = 12 := by kernel_rfl
  have k7 : Try.prog.cellsOf 30 = 5 := by kernel_rfl
  have k8 : Try.prog.cellsOf 28 = 1 := by kernel_rfl
  have k9 : Try.prog.cellsOf 3 = 1 := by kernel_rfl
  have k10 : Try.prog.cellsOf 2 = 1 := by kernel_rfl
  have k11 : Try.prog.cellsOf 31 = 1 := by kernel_rfl
  match l, hsz.trans k0 with
  | [c0, c1, c2, c3, c4, c5, c6, c7, c8, c9, c10, c11, c12, c13, c14, c15, c16, c17, c18, c19, c20, c21], _ =>
    obtain ⟨fuel, hf⟩ := h
    obtain ⟨xs, n, _, _, _, hlen, hg⟩ := DataW.trod_struct Try.underlying33 hf
    match xs, hlen with
    | [y0, y1, y2, y3, y4, y5, y6], _ =>
      have g0 : DataW.trod enc Try.prog w 0 (fun _ => true) true n 22 [c0] = some y0 := by simpa [Value.cells, k1, k2, k3, k4, k5, k6, k7, k8, k9, k10, k11] using hg 0 _ rfl
      have g1 : DataW.trod enc Try.prog w 0 (fun _ => true) true n 27 [c1, c2, c3, c4, c5, c6, c7, c8, c9, c10, c11, c12] = some y1 := by simpa [Value.cells, k1, k2, k3, k4, k5, k6, k7, k8, k9, k10, k11] using hg 1 _ rfl
      have g2 : DataW.trod enc Try.prog w 0 (fun _ => true) true n 30 [c13, c14, c15, c16, c17] = some y2 := by simpa [Value.cells, k1, k2, k3, k4, k5, k6, k7, k8, k9, k10, k11] using hg 2 _ rfl
      have g3 : DataW.trod enc Try.prog w 0 (fun _ => true) true n 25 [c18] = some y3 := by simpa [Value.cells, k1, k2, k3, k4, k5, k6, k7, k8, k9, k10, k11] using hg 3 _ rfl
      have g4 : DataW.trod enc Try.prog w 0 (fun _ => true) true n 5 [c19] = some y4 := by simpa [Value.cells, k1, k2, k3, k4, k5, k6, k7, k8, k9, k10, k11] using hg 4 _ rfl
      have g5 : DataW.trod enc Try.prog w 0 (fun _ => true) true n 2 [c20] = some y5 := by simpa [Value.cells, k1, k2, k3, k4, k5, k6, k7, k8, k9, k10, k11] using hg 5 _ rfl
      have g6 : DataW.trod enc Try.prog w 0 (fun _ => true) true n 31 [c21] = some y6 := by simpa [Value.cells, k1, k2, k3, k4, k5, k6, k7, k8, k9, k10, k11] using hg 6 _ rfl
      obtain ⟨time, rfl, b3⟩ := trod_int_at17 Try.underlying25 g3
      obtain ⟨source, rfl, b4⟩ := trod_int_at17 Try.underlying5 g4
      obtain ⟨value, rfl, b5⟩ := trod_int_at17 Try.underlying2 g5
      obtain ⟨fl, rfl, b6⟩ := trod_int_at17 Try.underlying31 g6
      obtain ⟨A, l, c, zs, rfl, e1, e2, e3, e4⟩ := open_small17s g0
      obtain ⟨us, n1, _, _, _, ulen, hu⟩ := DataW.trod_struct Try.underlying27 g1
      match us, ulen with
      | [u0, u1, u2, u3, u4], _ =>
        have q0 : DataW.trod enc Try.prog w 0 (fun _ => true) true n1 5 [c1] = some u0 := by simpa [Value.cells, k1, k2, k3, k4, k5, k6, k7, k8, k9, k10, k11] using hu 0 _ rfl
        have q1 : DataW.trod enc Try.prog w 0 (fun _ => true) true n1 23 [c2, c3, c4, c5, c6, c7, c8, c9] = some u1 := by simpa [Value.cells, k1, k2, k3, k4, k5, k6, k7, k8, k9, k10, k11] using hu 1 _ rfl
        have q2 : DataW.trod enc Try.prog w 0 (fun _ => true) true n1 24 [c10] = some u2 := by simpa [Value.cells, k1, k2, k3, k4, k5, k6, k7, k8, k9, k10, k11] using hu 2 _ rfl
        have q3 : DataW.trod enc Try.prog w 0 (fun _ => true) true n1 25 [c11] = some u3 := by simpa [Value.cells, k1, k2, k3, k4, k5, k6, k7, k8, k9, k10, k11] using hu 3 _ rfl
        have q4 : DataW.trod enc Try.prog w 0 (fun _ => true) true n1 5 [c12] = some u4 := by simpa [Value.cells, k1, k2, k3, k4, k5, k6, k7, k8, k9, k10, k11] using hu 4 _ rfl
        obtain ⟨a0, rfl, d0⟩ := trod_int_at17 Try.underlying5 q0
        obtain ⟨a3, rfl, d3⟩ := trod_int_at17 Try.underlying25 q3
        obtain ⟨a4, rfl, d4⟩ := trod_int_at17 Try.underlying5 q4
        obtain ⟨B, l2, c2', ys, rfl, f1, f2, f3⟩ := open_words19 q2
        obtain ⟨ts, k, _, _, _, tlen, ht⟩ := DataW.trod_array Try.underlying23 q1
        match ts, tlen with
        | [t0, t1, t2, t3, t4, t5, t6, t7], _ =>
          have v0 : DataW.trod enc Try.prog w 0 (fun _ => true) true k 2 [c2] = some t0 := by simpa [k10] using ht 0 (by decide)
          obtain ⟨r0, rfl, s0⟩ := trod_int_at17 Try.underlying2 v0
          have v1 : DataW.trod enc Try.prog w 0 (fun _ => true) true k 2 [c3] = some t1 := by simpa [k10] using ht 1 (by decide)
          obtain ⟨r1, rfl, s1⟩ := trod_int_at17 Try.underlying2 v1
          have v2 : DataW.trod enc Try.prog w 0 (fun _ => true) true k 2 [c4] = some t2 := by simpa [k10] using ht 2 (by decide)
          obtain ⟨r2, rfl, s2⟩ := trod_int_at17 Try.underlying2 v2
          have v3 : DataW.trod enc Try.prog w 0 (fun _ => true) true k 2 [c5] = some t3 := by simpa [k10] using ht 3 (by decide)
          obtain ⟨r3, rfl, s3⟩ := trod_int_at17 Try.underlying2 v3
          have v4 : DataW.trod enc Try.prog w 0 (fun _ => true) true k 2 [c6] = some t4 := by simpa [k10] using ht 4 (by decide)
          obtain ⟨r4, rfl, s4⟩ := trod_int_at17 Try.underlying2 v4
          have v5 : DataW.trod enc Try.prog w 0 (fun _ => true) true k 2 [c7] = some t5 := by simpa [k10] using ht 5 (by decide)
          obtain ⟨r5, rfl, s5⟩ := trod_int_at17 Try.underlying2 v5
          have v6 : DataW.trod enc Try.prog w 0 (fun _ => true) true k 2 [c8] = some t6 := by simpa [k10] using ht 6 (by decide)
          obtain ⟨r6, rfl, s6⟩ := trod_int_at17 Try.underlying2 v6
          have v7 : DataW.trod enc Try.prog w 0 (fun _ => true) true k 2 [c9] = some t7 := by simpa [k10] using ht 7 (by decide)
          obtain ⟨r7, rfl, s7⟩ := trod_int_at17 Try.underlying2 v7
          obtain ⟨vs, n2, _, _, _, vlen, hvv⟩ := DataW.trod_struct Try.underlying30 g2
          match vs, vlen with
          | [w0, w1, w2, w3, w4], _ =>
            have p0 : DataW.trod enc Try.prog w 0 (fun _ => true) true n2 28 [c13] = some w0 := by simpa [Value.cells, k1, k2, k3, k4, k5, k6, k7, k8, k9, k10, k11] using hvv 0 _ rfl
            obtain ⟨o0, rfl, _⟩ := trod_int_at17 Try.underlying28 p0
            have p1 : DataW.trod enc Try.prog w 0 (fun _ => true) true n2 3 [c14] = some w1 := by simpa [Value.cells, k1, k2, k3, k4, k5, k6, k7, k8, k9, k10, k11] using hvv 1 _ rfl
            obtain ⟨o1, rfl, _⟩ := trod_int_at17 Try.underlying3 p1
            have p2 : DataW.trod enc Try.prog w 0 (fun _ => true) true n2 3 [c15] = some w2 := by simpa [Value.cells, k1, k2, k3, k4, k5, k6, k7, k8, k9, k10, k11] using hvv 2 _ rfl
            obtain ⟨o2, rfl, _⟩ := trod_int_at17 Try.underlying3 p2
            have p3 : DataW.trod enc Try.prog w 0 (fun _ => true) true n2 3 [c16] = some w3 := by simpa [Value.cells, k1, k2, k3, k4, k5, k6, k7, k8, k9, k10, k11] using hvv 3 _ rfl
            obtain ⟨o3, rfl, _⟩ := trod_int_at17 Try.underlying3 p3
            have p4 : DataW.trod enc Try.prog w 0 (fun _ => true) true n2 3 [c17] = some w4 := by simpa [Value.cells, k1, k2, k3, k4, k5, k6, k7, k8, k9, k10, k11] using hvv 4 _ rfl
            obtain ⟨o4, rfl, _⟩ := trod_int_at17 Try.underlying3 p4
            simp [Lit.wf, IntKind.min, IntKind.max, IntKind.signed, IntKind.bits] at b3 b4 b6 d0 d3 d4
            exact ⟨⟨zs, a0, a3, a4, time, source, value, fl, fun j => match j with | 0 => r0 | 1 => r1 | 2 => r2 | 3 => r3 | 4 => r4 | 5 => r5 | 6 => r6 | _ => r7, ys, ⟨o0, o1, o2, o3, o4⟩⟩, A, l, c, B, l2, c2', rfl, ⟨e3, d0, d3, d4, b3, b4, b6⟩, e1, e2, f1, f2, e4, f3⟩
namespace Vm
theorem den_s19 {β : Env} (y : S19) (p1 p2 : Nat) : (SV.agg [.sl 1 2 [] 5 0 y.xs.length (some p1), .agg [.int .u8 y.a, .arr 8 1 (fun q => .int .i64 (y.rg q)), .sl 3 4 [] 1 0 y.cs.length (some p2), .int .u32 y.d, .int .u8 y.sn], .agg [.int .u64 y.v.seed, .int .i64 y.v.process, .int .i64 y.v.ports, .int .i64 y.v.look, .int .i64 y.v.now], .int .u32 y.time, .int .u8 y.source, .int .i64 y.value, .int .u16 y.fuel]).den β = .agg (y.cells ((SV.sl 1 2 [] 5 0 y.xs.length (some p1)).den β) ((SV.sl 3 4 [] 1 0 y.cs.length (some p2)).den β)) := by
  rw [den_agg rfl, cl_agg]
  have h8 : (SV.arr 8 1 (fun q => .int .i64 (y.rg q))).cl β = int64s (ls iOf 8 (fun q => .int .i64 (y.rg q))) := by rw [cl_arr', elems_i64 (fun q _ => rfl)]
  simp only [clL_cons, clL_nil, cl_agg, h8]
  rfl
end Vm
namespace Vm
theorem law_of_lit17 {f : FuncId} {args : List SV} {L0 L1 : List HB} {W : World} {β : Env} (H : LitOk Try.prog f args L0 (.bool true) L1) (R : Rep W (fun _ => False) β (hp L0) W) :
    Calls Try.prog f (denL β args).toArray W fun e W' => e = .returned (.bool true) ∧ Below W.heap.size W W' :=
  (H W _ β W R).mono fun e W' ⟨β', _, R', _, he⟩ => ⟨he, R'.os, R'.tape, R'.output, R'.size, fun k hk => R'.frame k hk id⟩
end Vm
end Go.Proofs.Ytjliakjbdcplcaa
end

section
namespace Go.Proofs.Ytjliakjbdcplcaa.Vm
open Go.RowKit
set_option linter.unusedVariables false
set_option linter.unusedSimpArgs false
set_option maxRecDepth 100000

section
variable {P : Program} {T : Tab} {C : FuncId → Option Spec} {w0 : World} {M : Nat → Prop} {E : Env} {n0 N n : Nat} {D : List Deferred} {φ φ2 φ' : Fr} {L L2 L' : List HB} {Q : Exit → Act → World → Prop} {ro : Option Nat} {K : Act → World → Prop}

theorem At.runEnd (hC : ∀ f S, C f = some S → CallOk P f S) (hT : TabOk P T) {ops : Array Oper} {k len : Nat} {l : List Oper} {c : Prop} {rs : List Rc} (hd : noDefer ops.toList = true) (hl : (ops.toList.drop k).take len = l) (hlen : l.length = len) (hr : runR T C N ops.toList φ L l = some (c, rs, φ', L')) (hc : c)
    (h : At w0 M E n0 N D φ' L' (Q .normal)) : At w0 M E n0 N D φ L (wpOpsIn (FR ro) n P ops Q (List.range' k len)) := by
  have := At.run (ro := ro) (n := n) (rest := []) hC hT hd hl hlen hr hc h
  rwa [List.append_nil] at this
theorem At.code {c : Code} (h : WF ro n P c w0 M E n0 N D φ L Q) : At w0 M E n0 N D φ L (c.wpIn (FR ro) n P Q) := h
theorem At.thenNormal (h : At w0 M E n0 N D φ L K) : At w0 M E n0 N D φ L (Exit.then K Q .normal) := h
theorem At.thenRet (h : At w0 M E n0 N D φ L (Q .ret)) : At w0 M E n0 N D φ L (Exit.then K Q .ret) := h
theorem At.thenExit {j : Nat} (h : At w0 M E n0 N D φ L (Q (.exit j))) : At w0 M E n0 N D φ L (Exit.then K Q (.exit j)) := h
theorem At.thenGoto {j : Nat} (h : At w0 M E n0 N D φ L (Q (.goto j))) : At w0 M E n0 N D φ L (Exit.then K Q (.goto j)) := h
theorem At.inNormal {id : Nat} (h : At w0 M E n0 N D φ L (Q .normal)) : At w0 M E n0 N D φ L (Exit.inBlock id Q .normal) := h
theorem At.inRet {id : Nat} (h : At w0 M E n0 N D φ L (Q .ret)) : At w0 M E n0 N D φ L (Exit.inBlock id Q .ret) := h
theorem At.inGoto {id j : Nat} (h : At w0 M E n0 N D φ L (Q (.goto j))) : At w0 M E n0 N D φ L (Exit.inBlock id Q (.goto j)) := h
theorem At.inHit {id : Nat} (h : At w0 M E n0 N D φ L (Q .normal)) : At w0 M E n0 N D φ L (Exit.inBlock id Q (.exit id)) := fun a w hS => by
  show (if id = id then Q .normal a w else Q (.exit id) a w)
  rw [if_pos rfl]
  exact h a w hS
theorem At.inMiss {id j : Nat} (hn : Nat.beq j id = false) (h : At w0 M E n0 N D φ L (Q (.exit j))) : At w0 M E n0 N D φ L (Exit.inBlock id Q (.exit j)) := fun a w hS => by
  show (if j = id then Q .normal a w else Q (.exit j) a w)
  rw [if_neg (fun e => by rw [e] at hn; simp at hn)]
  exact h a w hS
theorem At.noGotoNormal (h : At w0 M E n0 N D φ L (Q .normal)) : At w0 M E n0 N D φ L (Exit.noGoto Q .normal) := h
theorem At.noGotoRet (h : At w0 M E n0 N D φ L (Q .ret)) : At w0 M E n0 N D φ L (Exit.noGoto Q .ret) := h
theorem At.noGotoExit {j : Nat} (h : At w0 M E n0 N D φ L (Q (.exit j))) : At w0 M E n0 N D φ L (Exit.noGoto Q (.exit j)) := h
theorem WF.scope {c : Code} (h : WF none n P c w0 M E n0 N D φ L (Exit.noGoto Q)) : WF none n P (.scope c) w0 M E n0 N D φ L Q := fun a w hS => by
  have h1 : c.wp P (Exit.noGoto Q) a w := wpIn_wide.1 (h a w hS)
  exact wpIn_wide.2 (wp_scope_straight h1)
open Classical in
theorem WF.loop0 {α : Type} (p : α → Prop) (φi : α → Fr) (Li : α → List HB) (μ : α → Nat) {c : Code} (x0 : α) (h0 : p x0)
    (step : ∀ x, p x → WF ro n P c w0 M E n0 N D (φi x) (Li x) (Exit.then (fun a w => ∃ y, (p y ∧ μ y < μ x) ∧ St w0 M E n0 N D (φi y) (Li y) a w) Q)) : WF ro n P (.loop c) w0 M E n0 N D (φi x0) (Li x0) Q := by
  intro a w hS
  let I : Act → World → Prop := fun a w => ∃ x, p x ∧ St w0 M E n0 N D (φi x) (Li x) a w
  let pm : Act → World → Nat → Prop := fun a w k => ∃ x, p x ∧ St w0 M E n0 N D (φi x) (Li x) a w ∧ μ x = k
  have hex : ∀ a w, I a w → ∃ k, pm a w k := fun a w ⟨x, h1, h2⟩ => ⟨μ x, x, h1, h2, rfl⟩
  let m : Act → World → Nat := fun a w => if h : I a w then Classical.choose (least (hex a w h)) else 0
  have hm : ∀ a w (h : I a w), pm a w (m a w) ∧ ∀ k, pm a w k → m a w ≤ k := fun a w h => by
    have := Classical.choose_spec (least (hex a w h))
    simp only [m, h, dif_pos]
    exact this
  refine wpIn_loop I m ⟨x0, h0, hS⟩ fun a w hI => ?_
  obtain ⟨⟨x, hx, hSx, hμ⟩, hmin⟩ := hm a w hI
  refine wpIn_mono (step x hx a w hSx) fun e a' w' hq => ?_
  cases e <;> try exact hq
  obtain ⟨y, ⟨hy, hlt⟩, hSy⟩ := hq
  refine ⟨⟨y, hy, hSy⟩, ?_⟩
  have := (hm a' w' ⟨y, hy, hSy⟩).2 (μ y) ⟨y, hy, hSy, rfl⟩
  omega
theorem WF.loopAt {α : Type} (p : α → Prop) (φi : α → Fr) (Li : α → List HB) (μ : α → Nat) {c : Code} (x0 : α) (h0 : p x0)
    (hφ : SubF φ (φi x0)) (hL : LessL L (Li x0)) (hz : hp (Li x0) 0 = .gone) (hs : StableH (hp (Li x0)) (Li x0)) (hf : StableF (hp (Li x0)) (φi x0)) (hb : bornTo n0 (Li x0) = true)
    (step : ∀ x, p x → WF ro n P c w0 M E n0 N D (φi x) (Li x) (Exit.then (fun a w => ∃ y, (p y ∧ μ y < μ x) ∧ St w0 M E n0 N D (φi y) (Li y) a w) Q)) : WF ro n P (.loop c) w0 M E n0 N D φ L Q :=
  WF.sub hφ hL hz hs hf hb (WF.loop0 p φi Li μ x0 h0 step)
theorem At.next {α : Type} {p : α → Prop} {φi : α → Fr} {Li : α → List HB} (y : α) (hy : p y) (hφ : SubF φ (φi y)) (hL : LessL L (Li y)) (h0 : hp (Li y) 0 = .gone) (hs : StableH (hp (Li y)) (Li y)) (hf : StableF (hp (Li y)) (φi y)) (hb : bornTo n0 (Li y) = true) : At w0 M E n0 N D φ L (fun a w => ∃ y, p y ∧ St w0 M E n0 N D (φi y) (Li y) a w) :=
  fun a w hS => ⟨y, hy, hS.sub hφ hL h0 hs hf hb⟩
theorem At.endsRet (hT : TabOk P T) {fn : Func} {c : Prop} {vs : List SV} {v : SV} {rs : List ResultVar} {L0 : List HB} {w1 : World} {M1 : Nat → Prop} {D1 : List Deferred} (A : Anc w0 M [] w1 M1 D1) (hro : RoOk w0 M E L0) (hL0 : L0.length ≤ n0) (hrs : fn.results.toList = rs) (hr : resV T φ (hp L) rs = some (c, vs)) (hc : c) (hL : LessL L L2) (h0 : hp L2 0 = .gone) (hs : StableH (hp L2) L2) (hsub : RoSub L L0) (hv : ∀ β, (resS vs).den β = v.den β) (hst : Stable (hp L2) v) :
    At w1 M1 E n0 N D1 φ L (EndsM n P fn w0 M E n0 v L2 .ret) := At.endsM hT A hro hL0 hrs hr hc hL h0 hs hsub hv hst
end
end Go.Proofs.Ytjliakjbdcplcaa.Vm
end

section
namespace Go.Proofs.Ytjliakjbdcplcaa.Vm
open Go.RowKit
set_option linter.defProp false
def J1 := @WF.seq
def J2 := @At.code
def J3 := @At.thenNormal
def J4 := @At.thenRet
def J5 := @At.thenExit
def J6 := @At.thenGoto
def J7 := @At.inNormal
def J8 := @At.inRet
def J9 := @At.inGoto
def J10 := @At.inHit
def J11 := @At.noGotoNormal
def J12 := @At.noGotoRet
def J13 := @At.noGotoExit
def J14 := @WF.skip
def J15 := @WF.ret
def J16 := @WF.exit
def J17 := @WF.goto
def J18 := @WF.label
def J19 := @WF.block
def J20 := @WF.scope
def J21 := @At.inMiss
def J22 := @WF.region
def J23 := @WF.drawn
def J24 := @WF.cond
def JH := And.intro @Bool.not_eq_true' (And.intro @Bool.not_eq_false' (And.intro @decide_eq_true_eq (And.intro @decide_eq_false_iff_not (And.intro @Bool.and_eq_true @Bool.or_eq_true))))
def JP := And.intro @Int.cast_ofNat_Int (And.intro @ofV_m1 @ofV_min)
def JS := And.intro @and_self (And.intro @true_and (And.intro @and_true (And.intro @false_implies (And.intro @true_implies (And.intro @Bool.not_eq_true' @imp_self)))))
theorem fol : Try.prog.follows .mixedOrders = true := by kernel_rfl
def c0 : FuncId → Option Spec := look2 []
theorem c1_ok : ∀ f S, c0 f = some S → CallOk Try.prog f S := fun f S h => by cases h
end Go.Proofs.Ytjliakjbdcplcaa.Vm
end

section
namespace Go.Proofs.Ytjliakjbdcplcaa.Vm
open Go.RowKit
set_option linter.unusedVariables false
set_option linter.unusedSimpArgs false
set_option maxRecDepth 100000

def rhoL (l : List Nat) (m : Nat) : Nat → Nat := fun i => if i < l.length then l.getD i 0 else m + (i - l.length)
def noMine : List HB → Bool
  | [] => true
  | b :: l => !b.mine && noMine l
theorem noMine_spec : ∀ {L : List HB}, noMine L = true → ∀ i, (hp L i).mine = false
  | [], _, i => by unfold hp; simp [HB.mine]
  | b :: l, h, 0 => by
    simp only [noMine, Bool.and_eq_true, Bool.not_eq_true'] at h
    exact h.1
  | b :: l, h, i + 1 => by
    simp only [noMine, Bool.and_eq_true] at h
    have := noMine_spec h.2 i
    unfold hp at this ⊢
    simpa using this
def FitL (ρ : Nat → Nat) (h : HM) : List HB → List Nat → Prop
  | [], _ => True
  | b :: l, n => match n with
    | j :: n => Fit ρ b (h j) ∧ FitL ρ h l n
    | [] => False
theorem fitL_get {ρ : Nat → Nat} {h : HM} : ∀ {L : List HB} {l : List Nat}, FitL ρ h L l → ∀ i, i < L.length → Fit ρ (hp L i) (h (l.getD i 0))
  | [], l, _, i, hi => by simp at hi
  | b :: L, [], hf, _, _ => by exact hf.elim
  | b :: L, j :: l, hf, 0, _ => hf.1
  | b :: L, j :: l, hf, i + 1, hi => by
    have := fitL_get hf.2 i (by simpa using hi)
    unfold hp at this ⊢
    simpa using this
def hG (n0 : Nat) (L0 L1 : List HB) : HM := fun i => if i < n0 then hp L0 i else hp L1 i
theorem laid_ro {L0 L1 : List HB} {h : HM} {l : List Nat} {m : Nat} {v : SV} (hlen : l.length = L0.length) (hpos : 0 < L0.length) (h00 : l.getD 0 0 = 0) (hz : hp L0 0 = .gone) (hno : noMine L0 = true) (hfit : FitL (rhoL l m) h L0 l) (hm : ∀ i, m ≤ i → i < m + (L1.length - L0.length) → h i = .dead) (hle : L0.length ≤ L1.length)
    (hst0 : StableH (hp L0) L0) (hstb : ∀ j, (h j).stable h) (hnew : NewL (hG L0.length L0 L1) (L1.drop L0.length)) (hv : Stable (hG L0.length L0 L1) v) :
    Laid L0 L1 h (wrs h (newB (rhoL l m) m (L1.drop L0.length))) (rhoL l m) m v := by
  obtain ⟨k, hk⟩ : ∃ k, k = L1.length - L0.length := ⟨_, rfl⟩
  have hdl : (L1.drop L0.length).length = k := by rw [List.length_drop, hk]
  have hrl : ∀ i, i < L0.length → rhoL l m i = l.getD i 0 := fun i hi => if_pos (by omega)
  have hrn : ∀ i, L0.length ≤ i → rhoL l m i = m + (i - L0.length) := fun i hi => by
    unfold rhoL; rw [if_neg (by omega), hlen]
  have hmin := noMine_spec hno
  have hget : ∀ j, m ≤ j → (L1.drop L0.length).getD (j - m) .dead = hp L1 (L0.length + (j - m)) := fun j hj => by
    unfold hp
    rw [List.getD_eq_getElem?_getD, List.getD_eq_getElem?_getD, List.getElem?_drop]
  have hnewj : ∀ j, m ≤ j → j < m + k → wrs h (newB (rhoL l m) m (L1.drop L0.length)) j = (hp L1 (L0.length + (j - m))).ren (rhoL l m) := fun j h1 h3 => by
    rw [wrs_newB, if_pos ⟨h1, by omega⟩, hget j h1]
  have holdj : ∀ j, ¬ (m ≤ j ∧ j < m + k) → wrs h (newB (rhoL l m) m (L1.drop L0.length)) j = h j := fun j hj => by
    rw [wrs_newB, if_neg (by rw [hdl]; exact hj)]
  have bornold : ∀ j, (h j).born = true → ¬ (m ≤ j ∧ j < m + k) := fun j hj hc => by
    rw [hm j hc.1 (by omega)] at hj; cases hj
  have more : ∀ i, (h i).born = true → (wrs h (newB (rhoL l m) m (L1.drop L0.length)) i).born = true := fun i hi => by rw [holdj i (bornold i hi)]; exact hi
  have hfit' : ∀ i, i < L0.length → Fit (rhoL l m) (hp L0 i) (h (rhoL l m i)) := fun i hi => by rw [hrl i hi]; exact fitL_get hfit i hi
  have moreG : ∀ i, (hG L0.length L0 L1 i).born = true → (wrs h (newB (rhoL l m) m (L1.drop L0.length)) (rhoL l m i)).born = true := fun i hi => by
    unfold hG at hi
    split at hi
    · rename_i hlt
      exact more _ (hfit' i hlt).born
    · rename_i hge
      have hlt : i < L1.length := by
        rcases Nat.lt_or_ge i L1.length with h' | h'
        · exact h'
        · rw [hp_dead h'] at hi; cases hi
      rw [hrn i (by omega), hnewj _ (by omega) (by omega), show L0.length + (m + (i - L0.length) - m) = i by omega]
      cases hh : hp L1 i <;> rw [hh] at hi <;> first | rfl | (cases hi; done)
  have hnewS := newL_spec hnew
  refine { z := by rw [hrl 0 hpos, h00], z0 := hz, new := fun i hi => hrn i hi, pre := hfit', inj := fun i j hi hj hne hmi => absurd hmi (by rw [hmin i]; exact Bool.false_ne_true), img := fun i hi hmi => absurd hmi (by rw [hmin i]; exact Bool.false_ne_true), old := fun j hj _ => holdj j (bornold j hj), fresh := fun j hj => ?_, un := fun i hi hb => ?_, st0 := stableH_spec hst0, st2 := fun j => ?_, stv := hv.ren moreG }
  · by_cases hc : m ≤ j ∧ j < m + k
    · exact .inr ⟨hc.1, hnewj j hc.1 hc.2, (hnewS _ (by omega)).2⟩
    · left
      rw [holdj j hc]
      cases hh : h j <;> rw [hh] at hj <;> first | rfl | (cases hj; done)
  · have hlt : i < L1.length := by
      rcases Nat.lt_or_ge i L1.length with h' | h'
      · exact h'
      · rw [hp_dead h'] at hb; cases hb
    rw [hrn i hi, hm _ (by omega) (by omega)]
    rfl
  · by_cases hc : m ≤ j ∧ j < m + k
    · rw [hnewj j hc.1 hc.2]
      have hs := (hnewS (L0.length + (j - m)) (by omega)).1
      cases hh : hp L1 (L0.length + (j - m)) with
      | own t u ex => rw [hh] at hs; exact Stable.ren moreG hs
      | ro u => rw [hh] at hs; exact Stable.ren moreG hs
      | raw o => trivial
      | gone => trivial
      | dead => trivial
    · rw [holdj j hc]
      have : (h j).stable h := hstb j
      exact HB.stable_more this more
theorem callG {P : Program} {f : FuncId} {args : List SV} {L0 L1 : List HB} {v : SV} {w0 w : World} {M : Nat → Prop} {β : Env} {h h' : HM} {m : Nat} (l : List Nat) (H : LitOk P f args L0 v L1) (R : Rep w0 M β h' w) (hlen : l.length = L0.length) (hpos : 0 < L0.length) (h00 : l.getD 0 0 = 0) (hz : hp L0 0 = .gone) (hno : noMine L0 = true) (hfit : FitL (rhoL l m) h' L0 l)
    (hm : ∀ i, m ≤ i → h i = .dead) (hwr : ∀ p ∈ newB (rhoL l m) m (L1.drop L0.length), h' p.1 = h p.1) (hle : L0.length ≤ L1.length)
    (hst0 : StableH (hp L0) L0) (hsta : StableL (hp L0) args) (hnew : NewL (hG L0.length L0 L1) (L1.drop L0.length)) (hv : Stable (hG L0.length L0 L1) v) :
    Calls P f (denL β (renL (rhoL l m) args)).toArray w fun e w' => ∃ β', (∀ i, (h' i).born = true → β i = β' i) ∧ Rep w0 M β' (wrs h' (newB (rhoL l m) m (L1.drop L0.length))) w' ∧ Stable (wrs h' (newB (rhoL l m) m (L1.drop L0.length))) (v.ren (rhoL l m)) ∧ e = .returned ((v.ren (rhoL l m)).den β') :=
  call_lit H R (laid_ro hlen hpos h00 hz hno hfit (fun i hi hlt => by
    obtain ⟨b, hb⟩ := newB_mem (ρ := rhoL l m) (l := L1.drop L0.length) hi (by rw [List.length_drop]; exact hlt)
    exact (hwr _ hb).trans (hm i hi)) hle hst0 R.st hnew hv) hsta

def sg (l : List Nat) : Nat → Nat := fun i => l.getD i 0
def PickL (σ : Nat → Nat) (h : HM) : List HB → List Nat → Prop
  | [], _ => True
  | b :: l, n => match n with
    | j :: n => (b = .gone ∨ Less (h j) (b.ren σ)) ∧ PickL σ h l n
    | [] => False
theorem pickL_get {σ : Nat → Nat} {h : HM} : ∀ {L : List HB} {l : List Nat}, PickL σ h L l → ∀ i, i < L.length → hp L i = .gone ∨ Less (h (l.getD i 0)) ((hp L i).ren σ)
  | [], l, _, i, hi => by simp at hi
  | b :: L, [], hf, _, _ => by exact hf.elim
  | b :: L, j :: l, hf, 0, _ => hf.1
  | b :: L, j :: l, hf, i + 1, hi => by
    have := pickL_get hf.2 i (by simpa using hi)
    unfold hp at this ⊢
    simpa using this
def injL : List HB → List Nat → List Nat → Bool
  | [], _, _ => true
  | b :: L, l, seen => match l with
    | j :: l => bif b.mine then !memN j seen && injL L l (j :: seen) else injL L l seen
    | [] => false
theorem injL_seen : ∀ {L : List HB} {l seen : List Nat}, injL L l seen = true → ∀ i, i < L.length → (hp L i).mine = true → l.getD i 0 ∉ seen
  | [], l, seen, _, i, hi, _ => by simp at hi
  | b :: L, [], seen, h, _, _, _ => by cases h
  | b :: L, j :: l, seen, h, i, hi, hm => by
    simp only [injL] at h
    cases i with
    | zero =>
      have hb : b.mine = true := hm
      rw [hb] at h
      simp only [cond_true, Bool.and_eq_true, Bool.not_eq_true'] at h
      intro hc
      have := memN_iff.2 hc
      simp only [List.getD_cons_zero] at this
      rw [h.1] at this
      cases this
    | succ i =>
      have hm' : (hp L i).mine = true := by unfold hp at hm ⊢; simpa using hm
      rw [List.getD_cons_succ]
      cases hb : b.mine with
      | false => rw [hb] at h; exact injL_seen h i (by simpa using hi) hm'
      | true =>
        rw [hb] at h
        simp only [cond_true, Bool.and_eq_true] at h
        exact fun hc => injL_seen h.2 i (by simpa using hi) hm' (.tail _ hc)
theorem injL_spec : ∀ {L : List HB} {l seen : List Nat}, injL L l seen = true → ∀ i j, i < j → j < L.length → (hp L i).mine = true → (hp L j).mine = true → l.getD i 0 ≠ l.getD j 0
  | [], l, seen, _, i, j, _, hj, _, _ => by simp at hj
  | b :: L, [], seen, h, _, _, _, _, _, _ => by cases h
  | b :: L, k :: l, seen, h, i, j, hij, hj, hi, hjm => by
    simp only [injL] at h
    obtain ⟨j, rfl⟩ : ∃ j', j = j' + 1 := ⟨j - 1, by omega⟩
    have hj' : j < L.length := by simpa using hj
    have hjm' : (hp L j).mine = true := by unfold hp at hjm ⊢; simpa using hjm
    rw [List.getD_cons_succ]
    cases i with
    | zero =>
      have hb : b.mine = true := hi
      rw [hb] at h
      simp only [cond_true, Bool.and_eq_true] at h
      rw [List.getD_cons_zero]
      exact fun e => injL_seen h.2 j hj' hjm' (by rw [← e]; exact .head _)
    | succ i =>
      have hi' : (hp L i).mine = true := by unfold hp at hi ⊢; simpa using hi
      rw [List.getD_cons_succ]
      cases hb : b.mine with
      | false => rw [hb] at h; exact injL_spec h i j (by omega) hj' hi' hjm'
      | true =>
        rw [hb] at h
        simp only [cond_true, Bool.and_eq_true] at h
        exact injL_spec h.2 i j (by omega) hj' hi' hjm'
theorem Rep.pick {w0 w : World} {M : Nat → Prop} {β : Env} {h : HM} {L : List HB} {l : List Nat} (R : Rep w0 M β h w) (h0 : l.getD 0 0 = 0) (hz : hp L 0 = .gone) (hp_ : PickL (sg l) h L l) (hi : injL L l [] = true) (hs : StableH (hp L) L) : Rep w0 M (fun i => β (sg l i)) (hp L) w := by
  have get : ∀ i, (hp L i) = .dead ∨ hp L i = .gone ∨ (i < L.length ∧ Less (h (sg l i)) ((hp L i).ren (sg l))) := fun i => by
    rcases Nat.lt_or_ge i L.length with hlt | hge
    · rcases pickL_get hp_ i hlt with e | e
      · exact .inr (.inl e)
      · exact .inr (.inr ⟨hlt, e⟩)
    · exact .inl (hp_dead hge)
  have mine : ∀ i, (hp L i).mine = true → i < L.length ∧ (h (sg l i)).mine = true := fun i hm => by
    rcases get i with e | e | ⟨hlt, e⟩
    · rw [e] at hm; cases hm
    · rw [e] at hm; cases hm
    · refine ⟨hlt, less_mine e ?_⟩
      cases hh : hp L i <;> rw [hh] at hm <;> first | rfl | (cases hm; done)
  refine { os := R.os, tape := R.tape, output := R.output, size := R.size, frame := R.frame, nil := ?_, nil0 := hz, st := stableH_spec hs, blk := fun i => ?_, own := fun i a hm ha => R.own _ a (mine i hm).2 ha, ro := fun i v a hv ha hzz => ?_, dist := fun i j ai aj hne hmi hmj hai haj => ?_, lt := fun i a hm ha => R.lt _ a (mine i hm).2 ha }
  · show β (l.getD 0 0) = _
    rw [h0]; exact R.nil
  · rcases get i with e | e | ⟨hlt, e⟩
    · rw [e]; trivial
    · rw [e]; trivial
    · have hB := R.blk (sg l i)
      exact holds_unren (β := fun i => β (sg l i)) (β' := β) (h := hp L) (ρ := sg l) (fun _ _ => rfl) (stableH_spec hs i) rfl (holds_less e hB)
  · rcases get i with e | e | ⟨hlt, e⟩
    · rw [e] at hv; cases hv
    · rw [e] at hv; cases hv
    · rw [hv] at e
      exact R.ro _ (v.ren (sg l)) a (less_ro e) ha (by rw [size_ren]; exact hzz)
  · have h1 := mine i hmi
    have h2 := mine j hmj
    refine R.dist _ _ ai aj ?_ h1.2 h2.2 hai haj
    rcases Nat.lt_or_ge i j with hlt | hge
    · exact injL_spec hi i j hlt h2.1 hmi hmj
    · exact fun e => injL_spec hi j i (by omega) h1.1 hmj hmi e.symm
def idTo (n : Nat) (l : List Nat) : Bool := (List.range n).all fun i => Nat.beq (l.getD i 0) i
section
variable {P : Program} {T : Tab} {w0 w1 : World} {M M1 : Nat → Prop} {E : Env} {n0 N n : Nat} {D1 : List Deferred} {φ : Fr} {L L2 : List HB}
theorem At.endsPick (l : List Nat) (hT : TabOk P T) {fn : Func} {c : Prop} {vs : List SV} {v : SV} {rs : List ResultVar} {L0 : List HB} (A : Anc w0 M [] w1 M1 D1) (hro : RoOk w0 M E L0) (hL0 : L0.length ≤ n0) (hrs : fn.results.toList = rs) (hr : resV T φ (hp L) rs = some (c, vs)) (hc : c) (h00 : l.getD 0 0 = 0) (hz : hp L2 0 = .gone) (hid : idTo n0 l = true) (hpk : PickL (sg l) (hp L) L2 l) (hinj : injL L2 l [] = true) (hs : StableH (hp L2) L2) (hsub : RoSub L L0) (hv : ∀ β, (resS vs).den β = (v.ren (sg l)).den β) (hst : Stable (hp L2) v) :
    At w1 M1 E n0 N D1 φ L (EndsM n P fn w0 M E n0 v L2 .ret) := fun a w hS => by
  obtain ⟨⟨β, hE, R, F⟩, hbn, _, hd⟩ := hS
  subst hrs
  have R0 : Rep w0 M β (hp L) w := R.back A fun i u a hi ha hz => by
    obtain ⟨h1, h2⟩ := roSub_spec hsub i u hi
    exact hro i u a h1 (by rw [← hE i (Nat.lt_of_lt_of_le h2 hL0)]; exact ha) hz
  obtain ⟨rs, d1, n1, k1⟩ := A.marks
  simp only [EndsM, bodyPostM, hd, d1, List.append_nil]
  refine leaves_marks (β := β) (h := hp L) rs w R0 n1 (fun r hr => ?_) (fun w' R' => ?_)
  · obtain ⟨k1, k2, k3, k4⟩ := k1 r hr
    refine ⟨k1, fun ⟨i, a', hm, ha, e⟩ => ?_, (R.frame r k2 k3).trans k4⟩
    rcases R.own i a' hm ha with h' | h'
    · omega
    · exact k3 (by rw [← e]; exact h')
  · obtain ⟨q1, q2⟩ := resV_ok ⟨hT, R', F⟩ hr hc
    refine ⟨_, q2, fun i => β (sg l i), fun i hi => ?_, R'.pick h00 hz hpk hinj hs, hst, ?_⟩
    · simp only [idTo, List.all_eq_true] at hid
      have e := Nat.eq_of_beq_eq_true (hid i (List.mem_range.2 hi))
      show β (l.getD i 0) = E i
      rw [e]; exact hE i hi
    · rw [hv]
      congr 1
      exact den_ren (h := hp L2) (fun _ _ => rfl) hst
end
theorem hp_append1 (L : List HB) (x : HB) : hp (L ++ [x]) = upd (hp L) L.length x := by
  funext i
  unfold hp upd
  by_cases h2 : i = L.length
  · subst h2; simp
  · rw [if_neg h2]
    rcases Nat.lt_or_ge i L.length with h | h
    · simp [List.getElem?_append_left h]
    · simp [List.getElem?_eq_none (show (L ++ [x]).length ≤ i by simp; omega), List.getElem?_eq_none h]
theorem At.nil {w0 : World} {M : Nat → Prop} {E : Env} {n0 N : Nat} {D : List Deferred} {φ : Fr} {L : List HB} {K : Act → World → Prop} (t : Tmp) (ty k : Nat) (f : Nat → SV) (hl : look φ t = some (.sl 0 0 [] 0 0 0 (some 0))) (hf : ∀ (h : HM) (q : Nat), Stable h (f q))
    (h : At w0 M E n0 N D ((t, .sl L.length L.length [] k 0 0 none) :: φ) (L ++ [.own ty (.arr 0 k f) false]) K) : At w0 M E n0 N D φ L K := fun a w hS => by
  obtain ⟨⟨β, hE, R, F⟩, hbn, hsz, hd⟩ := hS
  have hm : hp L L.length = .dead := hp_dead (Nat.le_refl _)
  have R1 := nothing R (e := ty) (k := k) (g := f) hm (fun q => hf _ q)
  have hag : ∀ i, (hp L i).born = true → β i = setE β L.length (none, 0) i := agree_setE hm
  have hborn : ∀ i, (hp L i).born = true → (upd (hp L) L.length (.own ty (.arr 0 k f) false) i).born = true := fun i hi => by
    unfold Vm.upd; split
    · rfl
    · exact hi
  refine h a w ⟨⟨setE β L.length (none, 0), fun i hi => (hag i (hbn i hi)).symm.trans (hE i hi), by rw [hp_append1]; exact R1, fun u v hu => ?_⟩, fun i hi => by rw [hp_append1]; exact hborn i (hbn i hi), hsz, hd⟩
  rw [hp_append1]
  simp only [look] at hu
  cases hq : Nat.beq t u with
  | true =>
    rw [hq] at hu
    have := Nat.eq_of_beq_eq_true hq
    subst this
    injection hu with hu
    subst hu
    refine ⟨?_, ?_⟩
    · simp only [Stable, upd_same]; exact ⟨rfl, rfl⟩
    · rw [(F t _ hl).2]
      simp [SV.den, setE_same, R.nil]
  | false =>
    rw [hq] at hu
    obtain ⟨k1, k2⟩ := F u v hu
    exact ⟨k1.more hborn, by rw [k2]; exact k1.den hag⟩
end Go.Proofs.Ytjliakjbdcplcaa.Vm
end

section
namespace Go.Proofs.Ytjliakjbdcplcaa.Vm
open Go.RowKit
set_option linter.unusedVariables false
set_option linter.unusedSimpArgs false
set_option maxRecDepth 100000

def oldB (ρ : Nat → Nat) : List HB → List HB → List Nat → List (Nat × HB)
  | [], _, _ => []
  | b :: L0, L1, l => match L1, l with
    | c :: L1, j :: l => bif b.mine then (j, c.ren ρ) :: oldB ρ L0 L1 l else oldB ρ L0 L1 l
    | _, _ => []
def mrgL : List HB → List HB → List HB
  | [], L1 => L1
  | b :: L0, L1 => match L1 with
    | c :: L1 => (bif b.mine then c else b) :: mrgL L0 L1
    | [] => []
def noRo2 : List HB → List HB → Bool
  | [], L1 => L1.all fun c => !c.isRo
  | b :: L0, L1 => match L1 with
    | c :: L1 => (!b.mine || (c.born && !c.isRo)) && noRo2 L0 L1
    | [] => true
theorem hp_cons (b : HB) (L : List HB) (i : Nat) : hp (b :: L) (i + 1) = hp L i := by unfold hp; simp
theorem hp_zero (b : HB) (L : List HB) : hp (b :: L) 0 = b := by unfold hp; simp
theorem noRo2_old : ∀ {L0 L1 : List HB}, noRo2 L0 L1 = true → L0.length ≤ L1.length → ∀ i, i < L0.length → (hp L0 i).mine = true → (hp L1 i).born = true ∧ (hp L1 i).isRo = false
  | [], _, _, _, i, hi, _ => by simp at hi
  | b :: L0, [], _, hl, _, _, _ => by simp at hl
  | b :: L0, c :: L1, h, hl, i, hi, hm => by
    simp only [noRo2, Bool.and_eq_true, Bool.or_eq_true, Bool.not_eq_true'] at h
    cases i with
    | zero =>
      rw [hp_zero] at hm
      rw [hp_zero]
      rcases h.1 with h1 | h1
      · rw [hm] at h1; cases h1
      · exact h1
    | succ i =>
      rw [hp_cons] at hm
      rw [hp_cons]
      exact noRo2_old h.2 (by simpa using hl) i (by simpa using hi) hm
theorem noRo2_new : ∀ {L0 L1 : List HB}, noRo2 L0 L1 = true → L0.length ≤ L1.length → ∀ i, L0.length ≤ i → (hp L1 i).isRo = false
  | [], L1, h, _, i, _ => by
    simp only [noRo2, List.all_eq_true] at h
    unfold hp
    rw [List.getD_eq_getElem?_getD]
    cases hh : L1[i]? with
    | none => rfl
    | some x => simpa using h x (List.mem_of_getElem? hh)
  | b :: L0, [], _, hl, _, _ => by simp at hl
  | b :: L0, c :: L1, h, hl, i, hi => by
    simp only [noRo2, Bool.and_eq_true] at h
    cases i with
    | zero => simp at hi
    | succ i =>
      rw [hp_cons]
      exact noRo2_new h.2 (by simpa using hl) i (by simpa using hi)
theorem mrgL_get : ∀ {L0 L1 : List HB}, L0.length ≤ L1.length → ∀ i, hp (mrgL L0 L1) i = if i < L0.length then (bif (hp L0 i).mine then hp L1 i else hp L0 i) else hp L1 i
  | [], L1, _, i => by simp [mrgL]
  | b :: L0, [], hl, _ => by simp at hl
  | b :: L0, c :: L1, hl, i => by
    cases i with
    | zero => simp [mrgL, hp_zero]
    | succ i =>
      simp only [mrgL, hp_cons]
      rw [mrgL_get (by simpa using hl) i]
      simp
theorem wrs_oldB_ne {ρ : Nat → Nat} : ∀ {L0 L1 : List HB} {l : List Nat} {h : HM} {j : Nat}, (∀ i, i < L0.length → (hp L0 i).mine = true → l.getD i 0 ≠ j) → wrs h (oldB ρ L0 L1 l) j = h j
  | [], _, _, h, j, _ => rfl
  | b :: L0, [], l, h, j, _ => rfl
  | b :: L0, c :: L1, [], h, j, _ => rfl
  | b :: L0, c :: L1, k :: l, h, j, hn => by
    have ih := fun h' => wrs_oldB_ne (ρ := ρ) (L0 := L0) (L1 := L1) (l := l) (h := h') (j := j) (fun i hi hm => by
      have := hn (i + 1) (by simpa using hi) (by rw [hp_cons]; exact hm)
      simpa using this)
    cases hb : b.mine with
    | false => simp only [oldB, hb, cond_false]; exact ih h
    | true =>
      simp only [oldB, hb, cond_true]
      show wrs (upd h k (c.ren ρ)) (oldB ρ L0 L1 l) j = h j
      rw [ih, upd_ne (fun e => hn 0 (by simp) (by rw [hp_zero]; exact hb) (by simpa using e.symm))]
theorem wrs_oldB {ρ : Nat → Nat} : ∀ {L0 L1 : List HB} {l : List Nat} {h : HM}, L0.length ≤ L1.length → l.length = L0.length → (∀ i j, i < j → j < L0.length → (hp L0 i).mine = true → (hp L0 j).mine = true → l.getD i 0 ≠ l.getD j 0) → ∀ i, i < L0.length → (hp L0 i).mine = true → wrs h (oldB ρ L0 L1 l) (l.getD i 0) = (hp L1 i).ren ρ
  | [], _, _, h, _, _, _, i, hi, _ => by simp at hi
  | b :: L0, [], l, h, hl, _, _, _, _, _ => by simp at hl
  | b :: L0, c :: L1, [], h, _, hl, _, _, _, _ => by simp at hl
  | b :: L0, c :: L1, k :: l, h, hle, hln, hn, i, hi, hm => by
    cases i with
    | zero =>
      rw [hp_zero] at hm
      simp only [oldB, hm, cond_true, List.getD_cons_zero]
      show wrs (upd h k (c.ren ρ)) (oldB ρ L0 L1 l) k = _
      rw [wrs_oldB_ne (fun i hi hm' e => hn 0 (i + 1) (by omega) (by simpa using hi) (by rw [hp_zero]; exact hm) (by rw [hp_cons]; exact hm') (by simpa using e.symm)), upd_same, hp_zero]
    | succ i =>
      rw [hp_cons] at hm
      have ih := fun h' => wrs_oldB (ρ := ρ) (L0 := L0) (L1 := L1) (l := l) (h := h') (by simpa using hle) (by simpa using hln) (fun a b hab hb ha hb' => by
        have := hn (a + 1) (b + 1) (by omega) (by simpa using hb) (by rw [hp_cons]; exact ha) (by rw [hp_cons]; exact hb')
        simpa using this) i (by simpa using hi) hm
      rw [List.getD_cons_succ, hp_cons]
      cases hb : b.mine with
      | false => simp only [oldB, hb, cond_false]; exact ih h
      | true =>
        simp only [oldB, hb, cond_true]
        exact ih (upd h k (c.ren ρ))
theorem wrs_app : ∀ (l : List (Nat × HB)) {m : List (Nat × HB)} {h : HM}, wrs h (l ++ m) = wrs (wrs h l) m
  | [], _, _ => rfl
  | p :: l, m, h => wrs_app l
theorem laid_rw {L0 L1 : List HB} {h : HM} {l : List Nat} {m : Nat} {v : SV} (hlen : l.length = L0.length) (hpos : 0 < L0.length) (h00 : l.getD 0 0 = 0) (hz : hp L0 0 = .gone) (hfit : FitL (rhoL l m) h L0 l) (hinj : ∀ i j, i < L0.length → j < L0.length → i ≠ j → (hp L0 i).mine = true → (hp L0 j).mine = true ∨ (hp L0 j).isRo = true → l.getD i 0 ≠ l.getD j 0)
    (hm : ∀ i, m ≤ i → i < m + (L1.length - L0.length) → h i = .dead) (hle : L0.length ≤ L1.length) (hno : noRo2 L0 L1 = true)
    (hst0 : StableH (hp L0) L0) (hstb : ∀ j, (h j).stable h) (hst1 : StableH (hp (mrgL L0 L1)) (mrgL L0 L1)) (hv : Stable (hp (mrgL L0 L1)) v) :
    Laid L0 L1 h (wrs h (oldB (rhoL l m) L0 L1 l ++ newB (rhoL l m) m (L1.drop L0.length))) (rhoL l m) m v := by
  rw [wrs_app]
  obtain ⟨k, hk⟩ : ∃ k, k = L1.length - L0.length := ⟨_, rfl⟩
  have hdl : (L1.drop L0.length).length = k := by rw [List.length_drop, hk]
  have hrl : ∀ i, i < L0.length → rhoL l m i = l.getD i 0 := fun i hi => if_pos (by omega)
  have hrn : ∀ i, L0.length ≤ i → rhoL l m i = m + (i - L0.length) := fun i hi => by
    unfold rhoL; rw [if_neg (by omega), hlen]
  have hget : ∀ j, m ≤ j → (L1.drop L0.length).getD (j - m) .dead = hp L1 (L0.length + (j - m)) := fun j hj => by
    unfold hp
    rw [List.getD_eq_getElem?_getD, List.getD_eq_getElem?_getD, List.getElem?_drop]
  have hmr := mrgL_get hle
  generalize hh1 : wrs h (oldB (rhoL l m) L0 L1 l) = h1
  have hnewj : ∀ j, m ≤ j → j < m + k → wrs h1 (newB (rhoL l m) m (L1.drop L0.length)) j = (hp L1 (L0.length + (j - m))).ren (rhoL l m) := fun j h1 h3 => by
    rw [wrs_newB, if_pos ⟨h1, by omega⟩, hget j h1]
  have holdj : ∀ j, ¬ (m ≤ j ∧ j < m + k) → wrs h1 (newB (rhoL l m) m (L1.drop L0.length)) j = h1 j := fun j hj => by
    rw [wrs_newB, if_neg (by rw [hdl]; exact hj)]
  have bornold : ∀ j, (h j).born = true → ¬ (m ≤ j ∧ j < m + k) := fun j hj hc => by
    rw [hm j hc.1 (by omega)] at hj; cases hj
  have hfit' : ∀ i, i < L0.length → Fit (rhoL l m) (hp L0 i) (h (rhoL l m i)) := fun i hi => by rw [hrl i hi]; exact fitL_get hfit i hi
  have hborn : ∀ i, i < L0.length → (h (l.getD i 0)).born = true := fun i hi => by rw [← hrl i hi]; exact (hfit' i hi).born
  have him : ∀ i, i < L0.length → (hp L0 i).mine = true → h1 (l.getD i 0) = (hp L1 i).ren (rhoL l m) := fun i hi hmi => by
    rw [← hh1]
    exact wrs_oldB hle hlen (fun a b hab hb ha hb' => hinj a b (by omega) hb (by omega) ha (.inl hb')) i hi hmi
  have hne : ∀ j, (∀ i, i < L0.length → (hp L0 i).mine = true → l.getD i 0 ≠ j) → h1 j = h j := fun j hj => by
    rw [← hh1]
    exact wrs_oldB_ne hj
  have born_ren : ∀ {b : HB}, b.born = true → (b.ren (rhoL l m)).born = true := fun {b} hb => by
    cases b <;> first | rfl | (cases hb; done)
  have more1 : ∀ j, (h j).born = true → (h1 j).born = true := fun j hj => by
    by_cases hc : ∃ i, i < L0.length ∧ (hp L0 i).mine = true ∧ l.getD i 0 = j
    · obtain ⟨i, hi, hmi, rfl⟩ := hc
      rw [him i hi hmi]
      exact born_ren (noRo2_old hno hle i hi hmi).1
    · rw [hne j (fun i hi hmi e => hc ⟨i, hi, hmi, e⟩)]; exact hj
  have more : ∀ i, (h i).born = true → (wrs h1 (newB (rhoL l m) m (L1.drop L0.length)) i).born = true := fun i hi => by rw [holdj i (bornold i hi)]; exact more1 i hi
  have moreG : ∀ i, (hp (mrgL L0 L1) i).born = true → (wrs h1 (newB (rhoL l m) m (L1.drop L0.length)) (rhoL l m i)).born = true := fun i hi => by
    rw [hmr i] at hi
    split at hi
    · rename_i hlt
      exact more _ (hfit' i hlt).born
    · rename_i hge
      have hlt : i < L1.length := by
        rcases Nat.lt_or_ge i L1.length with h' | h'
        · exact h'
        · rw [hp_dead h'] at hi; cases hi
      rw [hrn i (by omega), hnewj _ (by omega) (by omega), show L0.length + (m + (i - L0.length) - m) = i by omega]
      exact born_ren hi
  have stG := stableH_spec hst1
  have ren_st : ∀ {b : HB}, b.stable (hp (mrgL L0 L1)) → (b.ren (rhoL l m)).stable (wrs h1 (newB (rhoL l m) m (L1.drop L0.length))) := fun {b} hs => by
    cases b with
    | own t u ex => exact Stable.ren moreG hs
    | ro u => exact Stable.ren moreG hs
    | raw o => trivial
    | gone => trivial
    | dead => trivial
  refine { z := by rw [hrl 0 hpos, h00], z0 := hz, new := fun i hi => hrn i hi, pre := hfit', inj := fun i j hi hj hne hmi hmj => by rw [hrl i hi, hrl j hj]; exact hinj i j hi hj hne hmi hmj, img := fun i hi hmi => ?_, old := fun j hj hno => ?_, fresh := fun j hj => ?_, un := fun i hi hb => ?_, st0 := stableH_spec hst0, st2 := fun j => ?_, stv := hv.ren moreG }
  · rw [hrl i hi, holdj _ (bornold _ (hborn i hi)), him i hi hmi]
    exact ⟨rfl, (noRo2_old hno hle i hi hmi).2⟩
  · rw [holdj j (bornold j hj)]
    exact hne j fun i hi hmi => by rw [← hrl i hi]; exact hno i hi hmi
  · by_cases hc : m ≤ j ∧ j < m + k
    · exact .inr ⟨hc.1, hnewj j hc.1 hc.2, noRo2_new hno hle _ (by omega)⟩
    · left
      rw [holdj j hc, hne j (fun i hi hmi e => by rw [← e, hborn i hi] at hj; cases hj)]
      cases hh : h j <;> rw [hh] at hj <;> first | rfl | (cases hj; done)
  · have hlt : i < L1.length := by
      rcases Nat.lt_or_ge i L1.length with h' | h'
      · exact h'
      · rw [hp_dead h'] at hb; cases hb
    rw [hrn i hi, hm _ (by omega) (by omega)]
    rfl
  · by_cases hc : m ≤ j ∧ j < m + k
    · rw [hnewj j hc.1 hc.2]
      have hs := stG (L0.length + (j - m))
      rw [hmr, if_neg (by omega)] at hs
      exact ren_st hs
    · rw [holdj j hc]
      by_cases hc2 : ∃ i, i < L0.length ∧ (hp L0 i).mine = true ∧ l.getD i 0 = j
      · obtain ⟨i, hi, hmi, rfl⟩ := hc2
        rw [him i hi hmi]
        have hs := stG i
        rw [hmr, if_pos hi, hmi] at hs
        exact ren_st hs
      · rw [hne j (fun i hi hmi e => hc2 ⟨i, hi, hmi, e⟩)]
        exact HB.stable_more (hstb j) more
theorem callRW {P : Program} {f : FuncId} {args : List SV} {L0 L1 : List HB} {v : SV} {w0 w : World} {M : Nat → Prop} {β : Env} {h h' : HM} {m : Nat} (l : List Nat) (H : LitOk P f args L0 v L1) (R : Rep w0 M β h' w) (hlen : l.length = L0.length) (hpos : 0 < L0.length) (h00 : l.getD 0 0 = 0) (hz : hp L0 0 = .gone) (hfit : FitL (rhoL l m) h' L0 l)
    (hinj : ∀ i j, i < L0.length → j < L0.length → i ≠ j → (hp L0 i).mine = true → (hp L0 j).mine = true ∨ (hp L0 j).isRo = true → l.getD i 0 ≠ l.getD j 0)
    (hm : ∀ i, m ≤ i → h i = .dead) (hwr : ∀ p ∈ newB (rhoL l m) m (L1.drop L0.length), h' p.1 = h p.1) (hle : L0.length ≤ L1.length) (hno : noRo2 L0 L1 = true)
    (hst0 : StableH (hp L0) L0) (hsta : StableL (hp L0) args) (hst1 : StableH (hp (mrgL L0 L1)) (mrgL L0 L1)) (hv : Stable (hp (mrgL L0 L1)) v) :
    Calls P f (denL β (renL (rhoL l m) args)).toArray w fun e w' => ∃ β', (∀ i, (h' i).born = true → β i = β' i) ∧ Rep w0 M β' (wrs h' (oldB (rhoL l m) L0 L1 l ++ newB (rhoL l m) m (L1.drop L0.length))) w' ∧ Stable (wrs h' (oldB (rhoL l m) L0 L1 l ++ newB (rhoL l m) m (L1.drop L0.length))) (v.ren (rhoL l m)) ∧ e = .returned ((v.ren (rhoL l m)).den β') :=
  call_lit H R (laid_rw hlen hpos h00 hz hfit hinj (fun i hi hlt => by
    obtain ⟨b, hb⟩ := newB_mem (ρ := rhoL l m) (l := L1.drop L0.length) hi (by rw [List.length_drop]; exact hlt)
    exact (hwr _ hb).trans (hm i hi)) hle hno hst0 R.st hst1 hv) hsta
end Go.Proofs.Ytjliakjbdcplcaa.Vm
end

section
namespace Go.Proofs.Ytjliakjbdcplcaa.Vm
open Go.RowKit
set_option linter.unusedVariables false
set_option linter.unusedSimpArgs false
set_option maxRecDepth 100000
theorem arrCl {β : Env} {n k : Nat} {f g : Nat → SV} (h : ∀ q, q < n → (f q).cl β = (g q).cl β) : (SV.arr n k f).cl β = (SV.arr n k g).cl β := by
  have e : (List.range n).flatMap (fun i => fit k (((f i).den β).cells.toList.map sane)) = (List.range n).flatMap (fun i => fit k (((g i).den β).cells.toList.map sane)) := by
    rw [List.flatMap_def, List.flatMap_def]
    exact congrArg List.flatten (List.map_congr_left fun q hq => congrArg (fit k) (h q (List.mem_range.1 hq)))
  simp only [SV.cl, SV.den, e]
theorem At.empty {w0 : World} {M : Nat → Prop} {E : Env} {n0 N : Nat} {D : List Deferred} {φ : Fr} {L : List HB} {K : Act → World → Prop} (ty k : Nat) (f : Nat → SV) (hf : ∀ (h : HM) (q : Nat), Stable h (f q))
    (h : At w0 M E n0 N D φ (L ++ [.own ty (.arr 0 k f) false]) K) : At w0 M E n0 N D φ L K := fun a w hS => by
  obtain ⟨⟨β, hE, R, F⟩, hbn, hsz, hd⟩ := hS
  have hm : hp L L.length = .dead := hp_dead (Nat.le_refl _)
  have R1 := nothing R (e := ty) (k := k) (g := f) hm (fun q => hf _ q)
  have hag : ∀ i, (hp L i).born = true → β i = setE β L.length (none, 0) i := agree_setE hm
  have hborn : ∀ i, (hp L i).born = true → (upd (hp L) L.length (.own ty (.arr 0 k f) false) i).born = true := fun i hi => by
    unfold Vm.upd; split
    · rfl
    · exact hi
  refine h a w ⟨⟨setE β L.length (none, 0), fun i hi => (hag i (hbn i hi)).symm.trans (hE i hi), by rw [hp_append1]; exact R1, fun u v hu => ?_⟩, fun i hi => by rw [hp_append1]; exact hborn i (hbn i hi), hsz, hd⟩
  rw [hp_append1]
  obtain ⟨k1, k2⟩ := F u v hu
  exact ⟨k1.more hborn, by rw [k2]; exact k1.den hag⟩
theorem WF.empty {P : Program} {w0 : World} {M : Nat → Prop} {E : Env} {n0 N n : Nat} {D : List Deferred} {φ : Fr} {L : List HB} {c : Code} {ro : Option Nat} {Q : Exit → Act → World → Prop} (ty k : Nat) (f : Nat → SV) (hf : ∀ (h : HM) (q : Nat), Stable h (f q))
    (h : WF ro n P c w0 M E n0 N D φ (L ++ [.own ty (.arr 0 k f) false]) Q) : WF ro n P c w0 M E n0 N D φ L Q := At.empty ty k f hf h
end Go.Proofs.Ytjliakjbdcplcaa.Vm
end

section
namespace Go.Proofs.Ytjliakjbdcplcaa.Vm
open Go.RowKit
set_option linter.unusedVariables false
set_option linter.unusedSimpArgs false
set_option maxRecDepth 100000

def stS (s : Sta) (c k : Nat) : SV := .agg [.int .i64 s.at_, .bool s.ended, .arr 8 1 fun q => .int .i64 (s.regs q), .sl c c [] 1 0 s.cells.length none, .int .i64 s.draws, .sl k k [] 3 0 s.sends.length none]
def evS (v : Evi) : SV := .agg [.int .u64 v.seed, .int .i64 v.process, .int .i64 v.ports, .int .i64 v.look, .int .i64 v.now]
def macS (s : Sta) (v : Evi) (x : Ins) (c k : Nat) : SV := .agg [stS s c k, evS v, insS x]
def mB (s : Sta) (v : Evi) (x : Ins) (c k : Nat) : HB := .own 164 (macS s v x c k) true
def cB (s : Sta) : HB := .own 2 (.arr s.cells.length 1 (i64S s.cells)) false
def sB (s : Sta) : HB := .own 64 (.arr s.sends.length 3 (sndsS s.sends)) false
theorem stS_eq (s : Sta) (c k : Nat) : stS s c k = .agg [.int .i64 s.at_, .bool s.ended, .arr 8 1 fun q => .int .i64 (s.regs q), .sl c c [] 1 0 s.cells.length none, .int .i64 s.draws, .sl k k [] 3 0 s.sends.length none] := rfl
theorem evS_eq (v : Evi) : evS v = .agg [.int .u64 v.seed, .int .i64 v.process, .int .i64 v.ports, .int .i64 v.look, .int .i64 v.now] := rfl
theorem macS_eq (s : Sta) (v : Evi) (x : Ins) (c k : Nat) : macS s v x c k = .agg [stS s c k, evS v, insS x] := rfl
theorem mB_eq (s : Sta) (v : Evi) (x : Ins) (c k : Nat) : mB s v x c k = .own 164 (macS s v x c k) true := rfl
theorem cB_eq (s : Sta) : cB s = .own 2 (.arr s.cells.length 1 (i64S s.cells)) false := rfl
theorem sB_eq (s : Sta) : sB s = .own 64 (.arr s.sends.length 3 (sndsS s.sends)) false := rfl
set_option linter.defProp false in
def JM := And.intro @stS_eq (And.intro @evS_eq (And.intro @macS_eq (And.intro @mB_eq (And.intro @cB_eq @sB_eq))))

theorem ls_getD {α : Type} {g : SV → α} {n q : Nat} {f : Nat → SV} {d : α} (h : q < n) : (ls g n f).getD q d = g (f q) := by
  simp [ls, h]
def macP (h : HM) (g : Nat) : Option (Sta × Evi × Ins × Nat × Nat × Prop) := match h g with
  | .own t (.agg [.agg [a, .bool e, .arr 8 1 rg, .sl z c [] 1 0 nc none, d, .sl z2 k [] 3 0 ns none], .agg [e0, e1, e2, e3, e4], iv]) true => match h c, h k with
    | .own t1 (.arr n1 1 cf) false, .own t2 (.arr n2 3 sf) false =>
      bif (Nat.beq t 164 && Nat.beq t1 2 && Nat.beq t2 64) && (Nat.beq z c && Nat.beq z2 k && Nat.beq n1 nc && Nat.beq n2 ns) && (isI .i64 a && isI .i64 d) && (isI .u64 e0 && isI .i64 e1 && isI .i64 e2 && isI .i64 e3 && isI .i64 e4) && isIns iv then
        some (⟨iOf a, e, fun q => iOf (rg q), ls iOf nc cf, iOf d, ls sndOf ns sf⟩, ⟨iOf e0, iOf e1, iOf e2, iOf e3, iOf e4⟩, insOf iv, c, k, (∀ q, q < 8 → isI .i64 (rg q) = true) ∧ (∀ q, q < nc → isI .i64 (cf q) = true) ∧ ∀ q, q < ns → isSnd (sf q) = true) else none
    | _, _ => none
  | _ => none
theorem mac_val {h : HM} {g c k : Nat} {s : Sta} {v : Evi} {x : Ins} {ok : Prop} (hp : macP h g = some (s, v, x, c, k, ok)) (hok : ok) :
    ∃ l cf sf, h g = .own 164 (.agg l) true ∧ (∀ β, (SV.agg l).cl β = (macS s v x c k).cl β) ∧ h c = .own 2 (.arr s.cells.length 1 cf) false ∧ (∀ β q, q < s.cells.length → (cf q).cl β = (i64S s.cells q).cl β) ∧
      h k = .own 64 (.arr s.sends.length 3 sf) false ∧ (∀ β q, q < s.sends.length → (sf q).cl β = (sndsS s.sends q).cl β) ∧ g ≠ c ∧ g ≠ k ∧ c ≠ k := by
  unfold macP at hp
  split at hp
  · rename_i t a e rg z c0 nc d z2 k0 ns e0 e1 e2 e3 e4 iv hg
    split at hp
    · rename_i t1 n1 cf t2 n2 sf hc hk
      obtain ⟨hb, hs⟩ := bif_some hp
      simp only [Option.some.injEq, Prod.mk.injEq] at hs
      obtain ⟨rfl, rfl, rfl, rfl, rfl, rfl⟩ := hs
      simp only [Bool.and_eq_true] at hb
      obtain ⟨⟨⟨⟨⟨⟨b1, b2⟩, b3⟩, ⟨⟨b4, b5⟩, b6⟩, b7⟩, b8, b9⟩, ⟨⟨⟨b10, b11⟩, b12⟩, b13⟩, b14⟩, b15⟩ := hb
      have b1 := Nat.eq_of_beq_eq_true b1
      have b2 := Nat.eq_of_beq_eq_true b2
      have b3 := Nat.eq_of_beq_eq_true b3
      have b4 := Nat.eq_of_beq_eq_true b4
      have b5 := Nat.eq_of_beq_eq_true b5
      have b6 := Nat.eq_of_beq_eq_true b6
      have b7 := Nat.eq_of_beq_eq_true b7
      subst b1 b2 b3 b4 b5 b6 b7
      obtain ⟨hr, hcf, hsf⟩ := hok
      refine ⟨_, cf, sf, hg, fun β => ?_, by rw [hc, ls_length], fun β q hq => ?_, by rw [hk, ls_length], fun β q hq => ?_, ?_, ?_, ?_⟩
      · have h8 : (SV.arr 8 1 rg).cl β = (SV.arr 8 1 fun q => .int .i64 (iOf (rg q))).cl β := arrCl fun q hq => by rw [isI_cl (hr q hq)]; rfl
        simp only [macS, stS, evS, cl_agg, clL_cons, clL_nil, h8, isI_cl b8, isI_cl b9, isI_cl b10, isI_cl b11, isI_cl b12, isI_cl b13, isI_cl b14, isIns_cl b15, isIns_cl (isIns_insS _), insOf_insS, ls_length]
        rfl
      · rw [ls_length] at hq
        rw [isI_cl (hcf q hq)]
        unfold i64S
        rw [ls_getD hq]; rfl
      · rw [ls_length] at hq
        rw [isSnd_cl (hsf q hq)]
        unfold sndsS
        rw [ls_getD hq, isSnd_cl (isSnd_sndS _), sndOf_sndS]
      · rintro rfl; rw [hg] at hc; cases hc
      · rintro rfl; rw [hg] at hk; cases hk
      · rintro rfl; rw [hc] at hk; cases hk
    · cases hp
  · cases hp
def macH (h : HM) (g c k : Nat) (s : Sta) (v : Evi) (x : Ins) : HM := upd (upd (upd h g (mB s v x c k)) c (cB s)) k (sB s)
theorem macH_g {h : HM} {g c k : Nat} {s : Sta} {v : Evi} {x : Ins} (n1 : g ≠ c) (n2 : g ≠ k) : macH h g c k s v x g = mB s v x c k := by
  unfold macH; rw [upd_ne n2, upd_ne n1, upd_same]
theorem macH_c {h : HM} {g c k : Nat} {s : Sta} {v : Evi} {x : Ins} (n3 : c ≠ k) : macH h g c k s v x c = cB s := by
  unfold macH; rw [upd_ne n3, upd_same]
theorem macH_k {h : HM} {g c k : Nat} {s : Sta} {v : Evi} {x : Ins} : macH h g c k s v x k = sB s := by
  unfold macH; rw [upd_same]
theorem macH_o {h : HM} {g c k i : Nat} {s : Sta} {v : Evi} {x : Ins} (n1 : i ≠ g) (n2 : i ≠ c) (n3 : i ≠ k) : macH h g c k s v x i = h i := by
  unfold macH; rw [upd_ne n3, upd_ne n2, upd_ne n1]
theorem macH_born {h : HM} {g c k i : Nat} {s : Sta} {v : Evi} {x : Ins} (hi : (h i).born = true) : (macH h g c k s v x i).born = true := by
  unfold macH Vm.upd
  split
  · rfl
  · split
    · rfl
    · split
      · rfl
      · exact hi
theorem cB_st {h : HM} {s : Sta} : (cB s).stable h := fun q => i64S_stable q
theorem sB_st {h : HM} {s : Sta} : (sB s).stable h := fun q => sndsS_stable q
theorem mB_st {h : HM} {s : Sta} {v : Evi} {x : Ins} {c k : Nat} (hc : (h c).born = true) (hk : (h k).born = true) : (mB s v x c k).stable h := by
  simp [mB, HB.stable, macS, stS, evS, insS, Stable, StableL, hc, hk]
theorem macS_ren (ρ : Nat → Nat) (s : Sta) (v : Evi) (x : Ins) (c k : Nat) : (macS s v x c k).ren ρ = macS s v x (ρ c) (ρ k) := by
  simp [macS, stS, evS, insS, SV.ren, renL]
theorem mB_ren (ρ : Nat → Nat) (s : Sta) (v : Evi) (x : Ins) (c k : Nat) : (mB s v x c k).ren ρ = mB s v x (ρ c) (ρ k) := by
  simp [mB, HB.ren, macS_ren]
theorem cB_ren (ρ : Nat → Nat) (s : Sta) : (cB s).ren ρ = cB s := rfl
theorem sB_ren (ρ : Nat → Nat) (s : Sta) : (sB s).ren ρ = sB s := by
  have : (fun q => (sndsS s.sends q).ren ρ) = sndsS s.sends := by
    funext q; unfold sndsS; simp only [sndS, SV.ren, renL]
  simp [sB, HB.ren, SV.ren, this]
section
variable {w0 w : World} {M : Nat → Prop} {β : Env} {h h' : HM} {g c k : Nat} {s : Sta} {v : Evi} {x : Ins} {ok : Prop}
theorem mac_canon (hp : macP h g = some (s, v, x, c, k, ok)) (hok : ok) (R : Rep w0 M β h' w) (eg : h' g = h g) (ec : h' c = h c) (ek : h' k = h k) :
    Rep w0 M β (macH h' g c k s v x) w ∧ g ≠ c ∧ g ≠ k ∧ c ≠ k ∧ 0 ≠ g ∧ 0 ≠ c ∧ 0 ≠ k := by
  obtain ⟨l, cf, sf, hg, hgl, hc, hcl, hk, hkl, n1, n2, n3⟩ := mac_val hp hok
  have z : ∀ {j : Nat} {b : HB}, h' j = b → b.mine = true → 0 ≠ j := fun {j b} hj hb e => by
    subst e; rw [R.nil0] at hj; subst hj; cases hb
  have z1 := z (eg.trans hg) rfl
  have z2 := z (ec.trans hc) rfl
  have z3 := z (ek.trans hk) rfl
  have hnn : (macH h' g c k s v x) 0 = .gone := by rw [macH_o z1 z2 z3]; exact R.nil0
  refine ⟨R.less (fun i => ?_) hnn (fun i => ?_), n1, n2, n3, z1, z2, z3⟩
  · by_cases e1 : i = g
    · subst e1
      rw [macH_g n1 n2, eg, hg]
      exact .val hgl (fun n k f e => by cases e) (fun n k f e => by cases e)
    · by_cases e2 : i = c
      · subst e2
        rw [macH_c n3, ec, hc]
        exact .val (fun β => arrCl (hcl β)) (fun n k f e => by injection e with e1 e2 e3; subst e1 e2; exact ⟨_, rfl⟩) (fun n k f e => by injection e with e1 e2 e3; subst e1 e2; exact ⟨_, rfl⟩)
      · by_cases e3 : i = k
        · subst e3
          rw [macH_k, ek, hk]
          exact .val (fun β => arrCl (hkl β)) (fun n k f e => by injection e with e1 e2 e3; subst e1 e2; exact ⟨_, rfl⟩) (fun n k f e => by injection e with e1 e2 e3; subst e1 e2; exact ⟨_, rfl⟩)
        · rw [macH_o e1 e2 e3]; exact .same _
  · by_cases e1 : i = g
    · subst e1
      rw [macH_g n1 n2]
      exact mB_st (by rw [macH_c n3]; rfl) (by rw [macH_k]; rfl)
    · by_cases e2 : i = c
      · subst e2
        rw [macH_c n3]; exact cB_st
      · by_cases e3 : i = k
        · subst e3
          rw [macH_k]; exact sB_st
        · rw [macH_o e1 e2 e3]
          exact HB.stable_more (R.st i) fun j hj => macH_born hj
end
abbrev MF := List SV → Sta → Evi → Ins → Option (Prop × (Nat → SV) × Sta × Ins × Bool)
def mS (F : MF) : Spec := fun args h m => match args with
  | .ptr g [] :: ar => match macP h g with
    | some (s, v, x, c, k, ok) => match F ar s v x with
      | some (cond, val, s', x', mv) => some (ok ∧ cond, val c, [g, c, k], bif mv then [(g, mB s' v x' c m), (c, cB s'), (k, .gone), (m, sB s')] else [(g, mB s' v x' c k), (c, cB s'), (k, sB s')])
      | none => none
    | none => none
  | _ => none
theorem inj4 {g c k : Nat} {a b d : HB} (n1 : g ≠ c) (n2 : g ≠ k) (n3 : c ≠ k) : ∀ i j, i < [HB.gone, a, b, d].length → j < [HB.gone, a, b, d].length → i ≠ j → (hp [HB.gone, a, b, d] i).mine = true → (hp [HB.gone, a, b, d] j).mine = true ∨ (hp [HB.gone, a, b, d] j).isRo = true → [0, g, c, k].getD i 0 ≠ [0, g, c, k].getD j 0 := by
  intro i j hi hj hne hmi hmj
  simp only [List.length_cons, List.length_nil] at hi hj
  have hi0 : i ≠ 0 := by rintro rfl; cases hmi
  have hj0 : j ≠ 0 := by
    rintro rfl
    rcases hmj with h | h <;> cases h
  rcases i with _ | _ | _ | _ | i
  · exact absurd rfl hi0
  all_goals rcases j with _ | _ | _ | _ | j
  all_goals first | exact absurd rfl hj0 | exact absurd rfl hne | (simp only [List.getD_cons_succ, List.getD_cons_zero]; first | exact n1 | exact n2 | exact n3 | exact n1.symm | exact n2.symm | exact n3.symm) | omega
theorem mS_ok {f : FuncId} {F : MF} (hf : named Try.prog f = true)
    (H : ∀ ar s v x cond val s' x' mv, F ar s v x = some (cond, val, s', x', mv) → cond → (∀ ρ, renL ρ ar = ar) ∧ (∀ h, StableL h ar) ∧ (∀ ρ : Nat → Nat, ρ 0 = 0 → (val 2).ren ρ = val (ρ 2)) ∧ (∀ h : HM, (h 0).born = true → (h 2).born = true → Stable h (val 2)) ∧
      LitOk Try.prog f (.ptr 1 [] :: ar) [.gone, mB s v x 2 3, cB s, sB s] (val 2) (bif mv then [.gone, mB s' v x' 2 4, cB s', .gone, sB s'] else [.gone, mB s' v x' 2 3, cB s', sB s'])) : CallOk Try.prog f (mS F) := by
  refine ⟨named_spec hf, fun args h m c v rd wr hs hm hc w0 M β h' w R hrd hwr hst => ?_⟩
  unfold mS at hs
  split at hs
  · rename_i g ar
    split at hs
    · rename_i s v x c k ok hmp
      split at hs
      · rename_i cond val s' x' mv hF
        simp only [Option.some.injEq, Prod.mk.injEq] at hs
        obtain ⟨rfl, rfl, rfl, rfl⟩ := hs
        obtain ⟨hok, hcond⟩ := hc
        obtain ⟨q1, q2, q3, q4, hl⟩ := H ar s v x _ _ _ _ _ hF hcond
        obtain ⟨R1, n1, n2, n3, z1, z2, z3⟩ := mac_canon hmp hok R (hrd g (by simp)) (hrd c (by simp)) (hrd k (by simp))
        have hfit : FitL (rhoL [0, g, c, k] m) (macH h' g c k s v x) [.gone, mB s v x 2 3, cB s, sB s] [0, g, c, k] := by
          refine ⟨.gone ?_, ?_, ?_, ?_, trivial⟩
          · rw [R1.nil0]; rfl
          · rw [macH_g n1 n2]
            have e : mB s v x c k = .own 164 ((macS s v x 2 3).ren (rhoL [0, g, c, k] m)) true := by rw [macS_ren]; rfl
            rw [e]; exact .own
          · rw [macH_c n3]
            exact .own (v := .arr s.cells.length 1 (i64S s.cells))
          · rw [macH_k]
            have e : sB s = (sB s).ren (rhoL [0, g, c, k] m) := (sB_ren _ _).symm
            rw [e]; exact .own (v := .arr s.sends.length 3 (sndsS s.sends))
        have hargs : renL (rhoL [0, g, c, k] m) (.ptr 1 [] :: ar) = .ptr g [] :: ar := by
          simp only [renL, SV.ren, q1]; rfl
        have hval : (val 2).ren (rhoL [0, g, c, k] m) = val c := q3 _ rfl
        have hst0 : StableH (hp [.gone, mB s v x 2 3, cB s, sB s]) [.gone, mB s v x 2 3, cB s, sB s] := ⟨trivial, mB_st rfl rfl, cB_st, sB_st, trivial⟩
        cases mv with
        | false =>
          have C := callRW (h := h) (m := m) [0, g, c, k] hl R1 rfl (by simp) rfl rfl hfit (inj4 n1 n2 n3) hm (fun p hp => by cases hp) (by simp) rfl hst0 ⟨rfl, q2 _⟩
            ⟨trivial, mB_st rfl rfl, cB_st, sB_st, trivial⟩ (q4 _ rfl rfl)
          rw [hargs] at C
          have hw : wrs (macH h' g c k s v x) (oldB (rhoL [0, g, c, k] m) [.gone, mB s v x 2 3, cB s, sB s] [.gone, mB s' v x' 2 3, cB s', sB s'] [0, g, c, k] ++ newB (rhoL [0, g, c, k] m) m ([HB.gone, mB s' v x' 2 3, cB s', sB s'].drop 4)) = wrs h' [(g, mB s' v x' c k), (c, cB s'), (k, sB s')] := by
            simp only [oldB, newB, mB_ren, cB_ren, sB_ren, List.drop, List.append_nil]
            funext i
            show upd (upd (upd (macH h' g c k s v x) g (mB s' v x' c k)) c (cB s')) k (sB s') i = upd (upd (upd h' g (mB s' v x' c k)) c (cB s')) k (sB s') i
            unfold macH Vm.upd
            split
            · rfl
            · split
              · rfl
              · split <;> rfl
          refine C.mono fun e w' ⟨β', g1, g2, g3, g4⟩ => ⟨β', fun i hi => g1 i (macH_born hi), ?_, ?_, ?_⟩
          · rw [cond_false, ← hw]; exact g2
          · rw [cond_false, ← hval, ← hw]; exact g3
          · rw [← hval]; exact g4
        | true =>
          have hmd : h m = .dead := hm m (Nat.le_refl _)
          have hm' : h' m = .dead := (hwr (m, sB s') (by simp)).trans hmd
          have mg : m ≠ g := by rintro rfl; have := mac_val hmp hok; obtain ⟨l, cf, sf, e, _⟩ := this; rw [hmd] at e; cases e
          have mc : m ≠ c := by rintro rfl; have := mac_val hmp hok; obtain ⟨l, cf, sf, _, _, e, _⟩ := this; rw [hmd] at e; cases e
          have mk : m ≠ k := by rintro rfl; have := mac_val hmp hok; obtain ⟨l, cf, sf, _, _, _, _, e, _⟩ := this; rw [hmd] at e; cases e
          have C := callRW (h := h) (m := m) [0, g, c, k] hl R1 rfl (by simp) rfl rfl hfit (inj4 n1 n2 n3) hm (fun p hp => by
              simp only [newB, List.drop, cond_true, List.length_cons, List.length_nil, List.mem_cons, List.not_mem_nil, or_false] at hp
              subst hp
              show macH h' g c k s v x m = h m
              rw [macH_o mg mc mk, hm', hmd]) (by simp) rfl hst0 ⟨rfl, q2 _⟩
            ⟨trivial, mB_st rfl rfl, cB_st, trivial, sB_st, trivial⟩ (q4 _ rfl rfl)
          rw [hargs] at C
          have hw : wrs (macH h' g c k s v x) (oldB (rhoL [0, g, c, k] m) [.gone, mB s v x 2 3, cB s, sB s] [.gone, mB s' v x' 2 4, cB s', .gone, sB s'] [0, g, c, k] ++ newB (rhoL [0, g, c, k] m) m ([HB.gone, mB s' v x' 2 4, cB s', .gone, sB s'].drop 4)) = wrs h' [(g, mB s' v x' c m), (c, cB s'), (k, .gone), (m, sB s')] := by
            have e4 : rhoL [0, g, c, k] m 4 = m := by simp [rhoL]
            simp only [oldB, newB, mB_ren, cB_ren, sB_ren, List.drop, e4]
            funext i
            show upd (upd (upd (upd (macH h' g c k s v x) g (mB s' v x' c m)) c (cB s')) k .gone) m (sB s') i = upd (upd (upd (upd h' g (mB s' v x' c m)) c (cB s')) k .gone) m (sB s') i
            unfold macH Vm.upd
            split
            · rfl
            · split
              · rfl
              · split
                · rfl
                · split <;> rfl
          refine C.mono fun e w' ⟨β', g1, g2, g3, g4⟩ => ⟨β', fun i hi => g1 i (macH_born hi), ?_, ?_, ?_⟩
          · rw [cond_true, ← hw]; exact g2
          · rw [cond_true, ← hval, ← hw]; exact g3
          · rw [← hval]; exact g4
      · cases hs
    · cases hs
  · cases hs
abbrev RF := Sta → Evi → Ins → Option (Prop × SV)
def rS (F : RF) : Spec := fun args h m => match args with
  | [.ptr g []] => match macP h g with
    | some (s, v, x, c, k, ok) => match F s v x with
      | some (cond, val) => some (ok ∧ cond, val, [g, c, k], [])
      | none => none
    | none => none
  | _ => none
theorem rS_ok {f : FuncId} {F : RF} (hf : named Try.prog f = true)
    (H : ∀ s v x cond val, F s v x = some (cond, val) → cond → (∀ ρ, val.ren ρ = val) ∧ (∀ h : HM, Stable h val) ∧
      LitOk Try.prog f [.ptr 1 []] [.gone, .ro (macS s v x 2 3), .gone, .gone] val [.gone, .gone, .gone, .gone]) : CallOk Try.prog f (rS F) := by
  refine ⟨named_spec hf, fun args h m c v rd wr hs hm hc w0 M β h' w R hrd hwr hst => ?_⟩
  unfold rS at hs
  split at hs
  · rename_i g
    split at hs
    · rename_i s v x c k ok hmp
      split at hs
      · rename_i cond val hF
        simp only [Option.some.injEq, Prod.mk.injEq] at hs
        obtain ⟨rfl, rfl, rfl, rfl⟩ := hs
        obtain ⟨hok, hcond⟩ := hc
        obtain ⟨q1, q2, hl⟩ := H s v x _ _ hF hcond
        obtain ⟨l, cf, sf, hg, hgl, hcc, _, hk, _⟩ := mac_val hmp hok
        have hfit : FitL (rhoL [0, g, c, k] m) h' [.gone, .ro (macS s v x 2 3), .gone, .gone] [0, g, c, k] := by
          refine ⟨.gone ?_, .ro (u := .agg l) (by rw [hrd g (by simp), hg]; rfl) (fun β => by rw [macS_ren]; exact hgl β) (fun n k f e => by rw [macS_ren] at e; cases e), .gone (by rw [hrd c (by simp), hcc]; rfl), .gone (by rw [hrd k (by simp), hk]; rfl), trivial⟩
          rw [R.nil0]; rfl
        have C := callG (h := h) (m := m) [0, g, c, k] hl R rfl (by simp) rfl rfl rfl hfit hm (fun p hp => by cases hp) (by simp)
          (by simp [StableH, HB.stable, macS, stS, evS, insS, Stable, StableL, hp, HB.born]) ⟨rfl, trivial⟩ trivial (q2 _)
        refine C.mono fun e w' ⟨β', g1, g2, g3, g4⟩ => ⟨β', g1, g2, q2 _, by rw [← q1 (rhoL [0, g, c, k] m)]; exact g4⟩
      · cases hs
    · cases hs
  · cases hs
end Go.Proofs.Ytjliakjbdcplcaa.Vm
end

section
namespace Go.Proofs.Ytjliakjbdcplcaa.Vm
open Go.RowKit
theorem insS_agg (i : Ins) : (insS i).isAgg = true := rfl
theorem insS_plain (i : Ins) : (insS i).plain = true := rfl
theorem nav_ins (i : Ins) : nav (insS i) [] = some (True, insS i) := rfl
theorem nav_ins0 (i : Ins) (pa : List Stp) : nav (insS i) (.f 0 0 :: pa) = nav (.int .u8 i.op) pa := rfl
theorem nav_ins1 (i : Ins) (pa : List Stp) : nav (insS i) (.f 1 1 :: pa) = nav (.int .u8 i.a) pa := rfl
theorem nav_ins2 (i : Ins) (pa : List Stp) : nav (insS i) (.f 2 2 :: pa) = nav (.int .u8 i.b) pa := rfl
theorem nav_ins3 (i : Ins) (pa : List Stp) : nav (insS i) (.f 3 3 :: pa) = nav (.int .u8 i.c) pa := rfl
theorem nav_ins4 (i : Ins) (pa : List Stp) : nav (insS i) (.f 4 4 :: pa) = nav (.int .i64 i.n) pa := rfl
theorem sndS_size (i : Snd) : (sndS i).size = 3 := rfl
theorem sndS_agg (i : Snd) : (sndS i).isAgg = true := rfl
theorem sndS_plain (i : Snd) : (sndS i).plain = true := rfl
theorem nav_snd (i : Snd) : nav (sndS i) [] = some (True, sndS i) := rfl
theorem nav_snd0 (i : Snd) (pa : List Stp) : nav (sndS i) (.f 0 0 :: pa) = nav (.int .i64 i.port) pa := rfl
theorem nav_snd1 (i : Snd) (pa : List Stp) : nav (sndS i) (.f 1 1 :: pa) = nav (.int .i64 i.delay) pa := rfl
theorem nav_snd2 (i : Snd) (pa : List Stp) : nav (sndS i) (.f 2 2 :: pa) = nav (.int .i64 i.value) pa := rfl
set_option linter.defProp false
def JK := And.intro @insS_size (And.intro @insS_agg (And.intro @insS_plain (And.intro @sndS_size (And.intro @sndS_agg @sndS_plain))))
end Go.Proofs.Ytjliakjbdcplcaa.Vm
end
