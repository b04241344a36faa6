import Derived.Test.YtmljmabbopkpiaaG1
import Derived.Test.YtmljmabbopkpiaaG4
import Derived.Test.YtmljmabbopkpiaaG5
import Derived.Test.YtmljmabbopkpiaaProg
import Derived.Deep.QuietTactic
import Derived.BigQuiet
import Derived.StillTailTactics
import Derived.Handy
import Derived.Deep.RegionHeld3
import Derived.Deep.DeepCutAuto
import Derived.IntWalk
import Derived.WalkSpells
import Derived.Deep.RegionLaw
import Derived.Deep.DrawnRows
import Derived.Laws.EntriesVeiled
section
/- word.Apply (layer 13), operation by operation. PRINTED BY gen_apply.py. -/
namespace Go.Proofs.Ytmljmabbopkpiaa
open Go.RowKit
set_option linter.unusedVariables false
set_option linter.unusedSimpArgs false

set_option maxRecDepth 100000 in
set_option maxHeartbeats 4000000 in
theorem apply_1 (a b : Int) (w : World)
  (hw : ∀ w, Calls Try.prog 72 #[.int .u8 1, .int .i64 b] w fun e w' => e = .returned (.int .i64 0) ∧ Below w.heap.size w w') : Calls Try.prog 29 #[.int .u8 1, .int .i64 a, .int .i64 b] w fun e w' => e = .returned (.tuple #[.int .i64 (applyI 1 a b), .int .i64 0]) ∧ Below w.heap.size w w' := by
  have HW := Lib.hid hw
  clear hw
  go_enter Try.func29, Try.ntmps29
  go_wp2_with fail
  refine (HW.out _).mono ?_
  rintro e w' ⟨rfl, hb⟩
  go_wp2_with (first
    | (go_at_call 74; refine (truth_c _ _).mono ?_; rintro e w' ⟨rfl, rfl⟩)
    | (go_at_call 73; refine (mod_c _ _ _ (by assumption)).mono ?_; rintro e w' ⟨rfl, rfl⟩))
  all_goals (go_ret2; refine ⟨?_, hb⟩)
  all_goals first | rfl | (show Ending.returned (.tuple #[.int .i64 _, _]) = .returned (.tuple #[.int .i64 _, _]); congr 4; simp [applyI]; done) | (show Ending.returned (.tuple #[.int .i64 _, _]) = .returned (.tuple #[.int .i64 _, _]); congr 4; simp [applyI]; omega)

set_option maxRecDepth 100000 in
set_option maxHeartbeats 4000000 in
theorem apply_2 (a b : Int) (w : World)
  (hw : ∀ w, Calls Try.prog 72 #[.int .u8 2, .int .i64 b] w fun e w' => e = .returned (.int .i64 0) ∧ Below w.heap.size w w') : Calls Try.prog 29 #[.int .u8 2, .int .i64 a, .int .i64 b] w fun e w' => e = .returned (.tuple #[.int .i64 (applyI 2 a b), .int .i64 0]) ∧ Below w.heap.size w w' := by
  have HW := Lib.hid hw
  clear hw
  go_enter Try.func29, Try.ntmps29
  go_wp2_with fail
  refine (HW.out _).mono ?_
  rintro e w' ⟨rfl, hb⟩
  go_wp2_with (first
    | (go_at_call 74; refine (truth_c _ _).mono ?_; rintro e w' ⟨rfl, rfl⟩)
    | (go_at_call 73; refine (mod_c _ _ _ (by assumption)).mono ?_; rintro e w' ⟨rfl, rfl⟩))
  all_goals (go_ret2; refine ⟨?_, hb⟩)
  all_goals first | rfl | (show Ending.returned (.tuple #[.int .i64 _, _]) = .returned (.tuple #[.int .i64 _, _]); congr 4; simp [applyI]; done) | (show Ending.returned (.tuple #[.int .i64 _, _]) = .returned (.tuple #[.int .i64 _, _]); congr 4; simp [applyI]; omega)

set_option maxRecDepth 100000 in
set_option maxHeartbeats 4000000 in
theorem apply_3 (a b : Int) (w : World)
  (hw : ∀ w, Calls Try.prog 72 #[.int .u8 3, .int .i64 b] w fun e w' => e = .returned (.int .i64 0) ∧ Below w.heap.size w w') : Calls Try.prog 29 #[.int .u8 3, .int .i64 a, .int .i64 b] w fun e w' => e = .returned (.tuple #[.int .i64 (applyI 3 a b), .int .i64 0]) ∧ Below w.heap.size w w' := by
  have HW := Lib.hid hw
  clear hw
  go_enter Try.func29, Try.ntmps29
  go_wp2_with fail
  refine (HW.out _).mono ?_
  rintro e w' ⟨rfl, hb⟩
  go_wp2_with (first
    | (go_at_call 74; refine (truth_c _ _).mono ?_; rintro e w' ⟨rfl, rfl⟩)
    | (go_at_call 73; refine (mod_c _ _ _ (by assumption)).mono ?_; rintro e w' ⟨rfl, rfl⟩))
  all_goals (go_ret2; refine ⟨?_, hb⟩)
  all_goals first | rfl | (show Ending.returned (.tuple #[.int .i64 _, _]) = .returned (.tuple #[.int .i64 _, _]); congr 4; simp [applyI]; done) | (show Ending.returned (.tuple #[.int .i64 _, _]) = .returned (.tuple #[.int .i64 _, _]); congr 4; simp [applyI]; omega)

set_option maxRecDepth 100000 in
set_option maxHeartbeats 4000000 in
theorem apply_4 (a b : Int) (w : World) (hb0 : b ≠ 0)
  (hw : ∀ w, Calls Try.prog 72 #[.int .u8 4, .int .i64 b] w fun e w' => e = .returned (.int .i64 0) ∧ Below w.heap.size w w') : Calls Try.prog 29 #[.int .u8 4, .int .i64 a, .int .i64 b] w fun e w' => e = .returned (.tuple #[.int .i64 (applyI 4 a b), .int .i64 0]) ∧ Below w.heap.size w w' := by
  have HW := Lib.hid hw
  clear hw
  go_enter Try.func29, Try.ntmps29
  go_wp2_with fail
  refine (HW.out _).mono ?_
  rintro e w' ⟨rfl, hb⟩
  go_wp2_with (first
    | (go_at_call 74; refine (truth_c _ _).mono ?_; rintro e w' ⟨rfl, rfl⟩)
    | (go_at_call 73; refine (mod_c _ _ _ (by assumption)).mono ?_; rintro e w' ⟨rfl, rfl⟩))
  all_goals (go_ret2; refine ⟨?_, hb⟩)
  all_goals first | rfl | (show Ending.returned (.tuple #[.int .i64 _, _]) = .returned (.tuple #[.int .i64 _, _]); congr 4; simp [applyI]; done) | (show Ending.returned (.tuple #[.int .i64 _, _]) = .returned (.tuple #[.int .i64 _, _]); congr 4; simp [applyI]; omega)

set_option maxRecDepth 100000 in
set_option maxHeartbeats 4000000 in
theorem apply_5 (a b : Int) (w : World) (hb0 : b ≠ 0)
  (hw : ∀ w, Calls Try.prog 72 #[.int .u8 5, .int .i64 b] w fun e w' => e = .returned (.int .i64 0) ∧ Below w.heap.size w w') : Calls Try.prog 29 #[.int .u8 5, .int .i64 a, .int .i64 b] w fun e w' => e = .returned (.tuple #[.int .i64 (applyI 5 a b), .int .i64 0]) ∧ Below w.heap.size w w' := by
  have HW := Lib.hid hw
  clear hw
  go_enter Try.func29, Try.ntmps29
  go_wp2_with fail
  refine (HW.out _).mono ?_
  rintro e w' ⟨rfl, hb⟩
  go_wp2_with (first
    | (go_at_call 74; refine (truth_c _ _).mono ?_; rintro e w' ⟨rfl, rfl⟩)
    | (go_at_call 73; refine (mod_c _ _ _ (by assumption)).mono ?_; rintro e w' ⟨rfl, rfl⟩))
  all_goals (go_ret2; refine ⟨?_, hb⟩)
  all_goals first | rfl | (show Ending.returned (.tuple #[.int .i64 _, _]) = .returned (.tuple #[.int .i64 _, _]); congr 4; simp [applyI]; done) | (show Ending.returned (.tuple #[.int .i64 _, _]) = .returned (.tuple #[.int .i64 _, _]); congr 4; simp [applyI]; omega)

set_option maxRecDepth 100000 in
set_option maxHeartbeats 4000000 in
theorem apply_6 (a b : Int) (w : World) (hb0 : b ≠ 0)
  (hw : ∀ w, Calls Try.prog 72 #[.int .u8 6, .int .i64 b] w fun e w' => e = .returned (.int .i64 0) ∧ Below w.heap.size w w') : Calls Try.prog 29 #[.int .u8 6, .int .i64 a, .int .i64 b] w fun e w' => e = .returned (.tuple #[.int .i64 (applyI 6 a b), .int .i64 0]) ∧ Below w.heap.size w w' := by
  have HW := Lib.hid hw
  clear hw
  go_enter Try.func29, Try.ntmps29
  go_wp2_with fail
  refine (HW.out _).mono ?_
  rintro e w' ⟨rfl, hb⟩
  go_wp2_with (first
    | (go_at_call 74; refine (truth_c _ _).mono ?_; rintro e w' ⟨rfl, rfl⟩)
    | (go_at_call 73; refine (mod_c _ _ _ (by assumption)).mono ?_; rintro e w' ⟨rfl, rfl⟩))
  all_goals (go_ret2; refine ⟨?_, hb⟩)
  all_goals first | rfl | (show Ending.returned (.tuple #[.int .i64 _, _]) = .returned (.tuple #[.int .i64 _, _]); congr 4; simp [applyI]; done) | (show Ending.returned (.tuple #[.int .i64 _, _]) = .returned (.tuple #[.int .i64 _, _]); congr 4; simp [applyI]; omega)

set_option maxRecDepth 100000 in
set_option maxHeartbeats 4000000 in
theorem apply_7 (a b : Int) (w : World)
  (hw : ∀ w, Calls Try.prog 72 #[.int .u8 7, .int .i64 b] w fun e w' => e = .returned (.int .i64 0) ∧ Below w.heap.size w w') : Calls Try.prog 29 #[.int .u8 7, .int .i64 a, .int .i64 b] w fun e w' => e = .returned (.tuple #[.int .i64 (applyI 7 a b), .int .i64 0]) ∧ Below w.heap.size w w' := by
  have HW := Lib.hid hw
  clear hw
  go_enter Try.func29, Try.ntmps29
  go_wp2_with fail
  refine (HW.out _).mono ?_
  rintro e w' ⟨rfl, hb⟩
  go_wp2_with (first
    | (go_at_call 74; refine (truth_c _ _).mono ?_; rintro e w' ⟨rfl, rfl⟩)
    | (go_at_call 73; refine (mod_c _ _ _ (by assumption)).mono ?_; rintro e w' ⟨rfl, rfl⟩))
  all_goals (go_ret2; refine ⟨?_, hb⟩)
  all_goals first | rfl | (show Ending.returned (.tuple #[.int .i64 _, _]) = .returned (.tuple #[.int .i64 _, _]); congr 4; simp [applyI]; done) | (show Ending.returned (.tuple #[.int .i64 _, _]) = .returned (.tuple #[.int .i64 _, _]); congr 4; simp [applyI]; omega)

set_option maxRecDepth 100000 in
set_option maxHeartbeats 4000000 in
theorem apply_8 (a b : Int) (w : World)
  (hw : ∀ w, Calls Try.prog 72 #[.int .u8 8, .int .i64 b] w fun e w' => e = .returned (.int .i64 0) ∧ Below w.heap.size w w') : Calls Try.prog 29 #[.int .u8 8, .int .i64 a, .int .i64 b] w fun e w' => e = .returned (.tuple #[.int .i64 (applyI 8 a b), .int .i64 0]) ∧ Below w.heap.size w w' := by
  have HW := Lib.hid hw
  clear hw
  go_enter Try.func29, Try.ntmps29
  go_wp2_with fail
  refine (HW.out _).mono ?_
  rintro e w' ⟨rfl, hb⟩
  go_wp2_with (first
    | (go_at_call 74; refine (truth_c _ _).mono ?_; rintro e w' ⟨rfl, rfl⟩)
    | (go_at_call 73; refine (mod_c _ _ _ (by assumption)).mono ?_; rintro e w' ⟨rfl, rfl⟩))
  all_goals (go_ret2; refine ⟨?_, hb⟩)
  all_goals first | rfl | (show Ending.returned (.tuple #[.int .i64 _, _]) = .returned (.tuple #[.int .i64 _, _]); congr 4; simp [applyI]; done) | (show Ending.returned (.tuple #[.int .i64 _, _]) = .returned (.tuple #[.int .i64 _, _]); congr 4; simp [applyI]; omega)

set_option maxRecDepth 100000 in
set_option maxHeartbeats 4000000 in
theorem apply_9 (a b : Int) (w : World)
  (hw : ∀ w, Calls Try.prog 72 #[.int .u8 9, .int .i64 b] w fun e w' => e = .returned (.int .i64 0) ∧ Below w.heap.size w w') : Calls Try.prog 29 #[.int .u8 9, .int .i64 a, .int .i64 b] w fun e w' => e = .returned (.tuple #[.int .i64 (applyI 9 a b), .int .i64 0]) ∧ Below w.heap.size w w' := by
  have HW := Lib.hid hw
  clear hw
  go_enter Try.func29, Try.ntmps29
  go_wp2_with fail
  refine (HW.out _).mono ?_
  rintro e w' ⟨rfl, hb⟩
  go_wp2_with (first
    | (go_at_call 74; refine (truth_c _ _).mono ?_; rintro e w' ⟨rfl, rfl⟩)
    | (go_at_call 73; refine (mod_c _ _ _ (by assumption)).mono ?_; rintro e w' ⟨rfl, rfl⟩))
  all_goals (go_ret2; refine ⟨?_, hb⟩)
  all_goals first | rfl | (show Ending.returned (.tuple #[.int .i64 _, _]) = .returned (.tuple #[.int .i64 _, _]); congr 4; simp [applyI]; done) | (show Ending.returned (.tuple #[.int .i64 _, _]) = .returned (.tuple #[.int .i64 _, _]); congr 4; simp [applyI]; omega)

set_option maxRecDepth 100000 in
set_option maxHeartbeats 4000000 in
theorem apply_10 (a b : Int) (w : World)
  (hw : ∀ w, Calls Try.prog 72 #[.int .u8 10, .int .i64 b] w fun e w' => e = .returned (.int .i64 0) ∧ Below w.heap.size w w') : Calls Try.prog 29 #[.int .u8 10, .int .i64 a, .int .i64 b] w fun e w' => e = .returned (.tuple #[.int .i64 (applyI 10 a b), .int .i64 0]) ∧ Below w.heap.size w w' := by
  have HW := Lib.hid hw
  clear hw
  have hs := shB_bd b
  have hs0 : 0 ≤ bits BinOp.and IntKind.u64 (IntKind.u64.wrap b) 63 := hs.1
  have hs1 : bits BinOp.and IntKind.u64 (IntKind.u64.wrap b) 63 ≤ 64 := Int.le_trans hs.2 (by decide)
  clear hs
  go_enter Try.func29, Try.ntmps29
  go_wp2_with fail
  refine (HW.out _).mono ?_
  rintro e w' ⟨rfl, hb⟩
  go_wp2_with (first
    | (go_at_call 74; refine (truth_c _ _).mono ?_; rintro e w' ⟨rfl, rfl⟩)
    | (go_at_call 73; refine (mod_c _ _ _ (by assumption)).mono ?_; rintro e w' ⟨rfl, rfl⟩))
  all_goals (go_ret2; refine ⟨?_, hb⟩)
  all_goals first | rfl | (show Ending.returned (.tuple #[.int .i64 _, _]) = .returned (.tuple #[.int .i64 _, _]); congr 4; simp [applyI]; done) | (show Ending.returned (.tuple #[.int .i64 _, _]) = .returned (.tuple #[.int .i64 _, _]); congr 4; simp [applyI]; omega)

set_option maxRecDepth 100000 in
set_option maxHeartbeats 4000000 in
theorem apply_11 (a b : Int) (w : World)
  (hw : ∀ w, Calls Try.prog 72 #[.int .u8 11, .int .i64 b] w fun e w' => e = .returned (.int .i64 0) ∧ Below w.heap.size w w') : Calls Try.prog 29 #[.int .u8 11, .int .i64 a, .int .i64 b] w fun e w' => e = .returned (.tuple #[.int .i64 (applyI 11 a b), .int .i64 0]) ∧ Below w.heap.size w w' := by
  have HW := Lib.hid hw
  clear hw
  have hs := shB_bd b
  have hs0 : 0 ≤ bits BinOp.and IntKind.u64 (IntKind.u64.wrap b) 63 := hs.1
  have hs1 : bits BinOp.and IntKind.u64 (IntKind.u64.wrap b) 63 ≤ 64 := Int.le_trans hs.2 (by decide)
  clear hs
  go_enter Try.func29, Try.ntmps29
  go_wp2_with fail
  refine (HW.out _).mono ?_
  rintro e w' ⟨rfl, hb⟩
  go_wp2_with (first
    | (go_at_call 74; refine (truth_c _ _).mono ?_; rintro e w' ⟨rfl, rfl⟩)
    | (go_at_call 73; refine (mod_c _ _ _ (by assumption)).mono ?_; rintro e w' ⟨rfl, rfl⟩))
  all_goals (go_ret2; refine ⟨?_, hb⟩)
  all_goals first | rfl | (show Ending.returned (.tuple #[.int .i64 _, _]) = .returned (.tuple #[.int .i64 _, _]); congr 4; simp [applyI]; done) | (show Ending.returned (.tuple #[.int .i64 _, _]) = .returned (.tuple #[.int .i64 _, _]); congr 4; simp [applyI]; omega)

set_option maxRecDepth 100000 in
set_option maxHeartbeats 4000000 in
theorem apply_12 (a b : Int) (w : World)
  (hw : ∀ w, Calls Try.prog 72 #[.int .u8 12, .int .i64 b] w fun e w' => e = .returned (.int .i64 0) ∧ Below w.heap.size w w') : Calls Try.prog 29 #[.int .u8 12, .int .i64 a, .int .i64 b] w fun e w' => e = .returned (.tuple #[.int .i64 (applyI 12 a b), .int .i64 0]) ∧ Below w.heap.size w w' := by
  have HW := Lib.hid hw
  clear hw
  have hs := shB_bd b
  have hs0 : 0 ≤ bits BinOp.and IntKind.u64 (IntKind.u64.wrap b) 63 := hs.1
  have hs1 : bits BinOp.and IntKind.u64 (IntKind.u64.wrap b) 63 ≤ 64 := Int.le_trans hs.2 (by decide)
  clear hs
  go_enter Try.func29, Try.ntmps29
  go_wp2_with fail
  refine (HW.out _).mono ?_
  rintro e w' ⟨rfl, hb⟩
  go_wp2_with (first
    | (go_at_call 74; refine (truth_c _ _).mono ?_; rintro e w' ⟨rfl, rfl⟩)
    | (go_at_call 73; refine (mod_c _ _ _ (by assumption)).mono ?_; rintro e w' ⟨rfl, rfl⟩))
  all_goals (go_ret2; refine ⟨?_, hb⟩)
  all_goals first | rfl | (show Ending.returned (.tuple #[.int .i64 _, _]) = .returned (.tuple #[.int .i64 _, _]); congr 4; simp [applyI]; done) | (show Ending.returned (.tuple #[.int .i64 _, _]) = .returned (.tuple #[.int .i64 _, _]); congr 4; simp [applyI]; omega)

set_option maxRecDepth 100000 in
set_option maxHeartbeats 4000000 in
theorem apply_13 (a b : Int) (w : World)
  (hw : ∀ w, Calls Try.prog 72 #[.int .u8 13, .int .i64 b] w fun e w' => e = .returned (.int .i64 0) ∧ Below w.heap.size w w') : Calls Try.prog 29 #[.int .u8 13, .int .i64 a, .int .i64 b] w fun e w' => e = .returned (.tuple #[.int .i64 (applyI 13 a b), .int .i64 0]) ∧ Below w.heap.size w w' := by
  have HW := Lib.hid hw
  clear hw
  go_enter Try.func29, Try.ntmps29
  go_wp2_with fail
  refine (HW.out _).mono ?_
  rintro e w' ⟨rfl, hb⟩
  go_wp2_with (first
    | (go_at_call 74; refine (truth_c _ _).mono ?_; rintro e w' ⟨rfl, rfl⟩)
    | (go_at_call 73; refine (mod_c _ _ _ (by assumption)).mono ?_; rintro e w' ⟨rfl, rfl⟩))
  all_goals (go_ret2; refine ⟨?_, hb⟩)
  all_goals first | rfl | (show Ending.returned (.tuple #[.int .i64 _, _]) = .returned (.tuple #[.int .i64 _, _]); congr 4; simp [applyI]; done) | (show Ending.returned (.tuple #[.int .i64 _, _]) = .returned (.tuple #[.int .i64 _, _]); congr 4; simp [applyI]; omega)

set_option maxRecDepth 100000 in
set_option maxHeartbeats 4000000 in
theorem apply_14 (a b : Int) (w : World)
  (hw : ∀ w, Calls Try.prog 72 #[.int .u8 14, .int .i64 b] w fun e w' => e = .returned (.int .i64 0) ∧ Below w.heap.size w w') : Calls Try.prog 29 #[.int .u8 14, .int .i64 a, .int .i64 b] w fun e w' => e = .returned (.tuple #[.int .i64 (applyI 14 a b), .int .i64 0]) ∧ Below w.heap.size w w' := by
  have HW := Lib.hid hw
  clear hw
  go_enter Try.func29, Try.ntmps29
  go_wp2_with fail
  refine (HW.out _).mono ?_
  rintro e w' ⟨rfl, hb⟩
  go_wp2_with (first
    | (go_at_call 74; refine (truth_c _ _).mono ?_; rintro e w' ⟨rfl, rfl⟩)
    | (go_at_call 73; refine (mod_c _ _ _ (by assumption)).mono ?_; rintro e w' ⟨rfl, rfl⟩))
  all_goals (go_ret2; refine ⟨?_, hb⟩)
  all_goals first | rfl | (show Ending.returned (.tuple #[.int .i64 _, _]) = .returned (.tuple #[.int .i64 _, _]); congr 4; simp [applyI]; done) | (show Ending.returned (.tuple #[.int .i64 _, _]) = .returned (.tuple #[.int .i64 _, _]); congr 4; simp [applyI]; omega)

set_option maxRecDepth 100000 in
set_option maxHeartbeats 4000000 in
theorem apply_15 (a b : Int) (w : World)
  (hw : ∀ w, Calls Try.prog 72 #[.int .u8 15, .int .i64 b] w fun e w' => e = .returned (.int .i64 0) ∧ Below w.heap.size w w') : Calls Try.prog 29 #[.int .u8 15, .int .i64 a, .int .i64 b] w fun e w' => e = .returned (.tuple #[.int .i64 (applyI 15 a b), .int .i64 0]) ∧ Below w.heap.size w w' := by
  have HW := Lib.hid hw
  clear hw
  go_enter Try.func29, Try.ntmps29
  go_wp2_with fail
  refine (HW.out _).mono ?_
  rintro e w' ⟨rfl, hb⟩
  go_wp2_with (first
    | (go_at_call 74; refine (truth_c _ _).mono ?_; rintro e w' ⟨rfl, rfl⟩)
    | (go_at_call 73; refine (mod_c _ _ _ (by assumption)).mono ?_; rintro e w' ⟨rfl, rfl⟩))
  all_goals (go_ret2; refine ⟨?_, hb⟩)
  all_goals first | rfl | (show Ending.returned (.tuple #[.int .i64 _, _]) = .returned (.tuple #[.int .i64 _, _]); congr 4; simp [applyI]; done) | (show Ending.returned (.tuple #[.int .i64 _, _]) = .returned (.tuple #[.int .i64 _, _]); congr 4; simp [applyI]; omega)

set_option maxRecDepth 100000 in
set_option maxHeartbeats 4000000 in
theorem apply_16 (a b : Int) (w : World)
  (hw : ∀ w, Calls Try.prog 72 #[.int .u8 16, .int .i64 b] w fun e w' => e = .returned (.int .i64 0) ∧ Below w.heap.size w w') : Calls Try.prog 29 #[.int .u8 16, .int .i64 a, .int .i64 b] w fun e w' => e = .returned (.tuple #[.int .i64 (applyI 16 a b), .int .i64 0]) ∧ Below w.heap.size w w' := by
  have HW := Lib.hid hw
  clear hw
  go_enter Try.func29, Try.ntmps29
  go_wp2_with fail
  refine (HW.out _).mono ?_
  rintro e w' ⟨rfl, hb⟩
  go_wp2_with (first
    | (go_at_call 74; refine (truth_c _ _).mono ?_; rintro e w' ⟨rfl, rfl⟩)
    | (go_at_call 73; refine (mod_c _ _ _ (by assumption)).mono ?_; rintro e w' ⟨rfl, rfl⟩))
  all_goals (go_ret2; refine ⟨?_, hb⟩)
  all_goals first | rfl | (show Ending.returned (.tuple #[.int .i64 _, _]) = .returned (.tuple #[.int .i64 _, _]); congr 4; simp [applyI]; done) | (show Ending.returned (.tuple #[.int .i64 _, _]) = .returned (.tuple #[.int .i64 _, _]); congr 4; simp [applyI]; omega)

set_option maxRecDepth 100000 in
set_option maxHeartbeats 4000000 in
theorem apply_17 (a b : Int) (w : World)
  (hw : ∀ w, Calls Try.prog 72 #[.int .u8 17, .int .i64 b] w fun e w' => e = .returned (.int .i64 0) ∧ Below w.heap.size w w') : Calls Try.prog 29 #[.int .u8 17, .int .i64 a, .int .i64 b] w fun e w' => e = .returned (.tuple #[.int .i64 (applyI 17 a b), .int .i64 0]) ∧ Below w.heap.size w w' := by
  have HW := Lib.hid hw
  clear hw
  go_enter Try.func29, Try.ntmps29
  go_wp2_with fail
  refine (HW.out _).mono ?_
  rintro e w' ⟨rfl, hb⟩
  go_wp2_with (first
    | (go_at_call 74; refine (truth_c _ _).mono ?_; rintro e w' ⟨rfl, rfl⟩)
    | (go_at_call 73; refine (mod_c _ _ _ (by assumption)).mono ?_; rintro e w' ⟨rfl, rfl⟩))
  all_goals (go_ret2; refine ⟨?_, hb⟩)
  all_goals first | rfl | (show Ending.returned (.tuple #[.int .i64 _, _]) = .returned (.tuple #[.int .i64 _, _]); congr 4; simp [applyI]; done) | (show Ending.returned (.tuple #[.int .i64 _, _]) = .returned (.tuple #[.int .i64 _, _]); congr 4; simp [applyI]; omega)

/-- what Apply returns first -/
def applyV (op a b : Int) : Int := if wrongE op b = 0 then applyI op a b else 0

theorem apply_c (op a b : Int) (w : World) : Calls Try.prog 29 #[.int .u8 op, .int .i64 a, .int .i64 b] w fun e w' => e = .returned (.tuple #[.int .i64 (applyV op a b), .int .i64 (wrongE op b)]) ∧ Below w.heap.size w w' := by
  by_cases h : wrongE op b = 0
  · have hw : ∀ w, Calls Try.prog 72 #[.int .u8 op, .int .i64 b] w fun e w' => e = .returned (.int .i64 0) ∧ Below w.heap.size w w' := by rw [← h]; exact wrong_c op b
    have hz : 4 ≤ op → op ≤ 6 → b ≠ 0 := by
      intro x y z
      rw [wrongE, if_neg (by omega), if_pos ⟨z, x, y⟩] at h
      exact absurd h (by decide)
    have hop : 1 ≤ op ∧ op ≤ 17 := by
      refine ⟨?_, ?_⟩
      · by_cases q : op < 1
        · rw [wrongE, if_pos (.inl q)] at h; exact absurd h (by decide)
        · omega
      · by_cases q : 17 < op
        · rw [wrongE, if_pos (.inr q)] at h; exact absurd h (by decide)
        · omega
    rw [applyV, if_pos h, h]
    have h : op = 1 ∨ op = 2 ∨ op = 3 ∨ op = 4 ∨ op = 5 ∨ op = 6 ∨ op = 7 ∨ op = 8 ∨ op = 9 ∨ op = 10 ∨ op = 11 ∨ op = 12 ∨ op = 13 ∨ op = 14 ∨ op = 15 ∨ op = 16 ∨ op = 17 := by omega
    rcases h with h | h | h | h | h | h | h | h | h | h | h | h | h | h | h | h | h <;> subst h
    · exact apply_1 a b w hw
    · exact apply_2 a b w hw
    · exact apply_3 a b w hw
    · exact apply_4 a b w (hz (by decide) (by decide)) hw
    · exact apply_5 a b w (hz (by decide) (by decide)) hw
    · exact apply_6 a b w (hz (by decide) (by decide)) hw
    · exact apply_7 a b w hw
    · exact apply_8 a b w hw
    · exact apply_9 a b w hw
    · exact apply_10 a b w hw
    · exact apply_11 a b w hw
    · exact apply_12 a b w hw
    · exact apply_13 a b w hw
    · exact apply_14 a b w hw
    · exact apply_15 a b w hw
    · exact apply_16 a b w hw
    · exact apply_17 a b w hw
  · rw [applyV, if_neg h]
    exact apply_bad op a b w (by rw [bne_iff_ne]; exact h)
end Go.Proofs.Ytmljmabbopkpiaa
end

section
/- mix and rng (layers 5, 6): contracts of fold, Mix, Join, at, Key, Value, upper, Below, Draw. -/
namespace Go.Proofs.Ytmljmabbopkpiaa
open Go.RowKit
set_option linter.unusedVariables false
set_option linter.unusedSimpArgs false

def foldI (x n : Int) : Int := bits .xor .u64 x (x / 2 ^ n.toNat)
theorem fold_c (x n : Int) (w : World) (h0 : 0 ≤ n) (h1 : n ≤ 64) : Calls Try.prog 150 #[.int .u64 x, .int .i64 n] w fun e w' => e = .returned (.int .u64 (foldI x n)) ∧ w = w' := by
  go_enter Try.func150, Try.ntmps150
  go_wp2
  go_ret
  exact ⟨rfl, rfl⟩

def mixI (x : Int) : Int := foldI (IntKind.u64.wrap (foldI (IntKind.u64.wrap (foldI x 30 * 13787848793156543929)) 27 * 10723151780598845931)) 31
theorem mix_c (x : Int) (w : World) : Calls Try.prog 128 #[.int .u64 x] w fun e w' => e = .returned (.int .u64 (mixI x)) ∧ w = w' := by
  go_enter Try.func128, Try.ntmps128
  go_wp2_with (go_at_call 150; refine (fold_c _ _ _ (by omega) (by omega)).mono ?_; rintro e w' ⟨rfl, rfl⟩)
  go_ret
  exact ⟨rfl, rfl⟩

def atI (key index : Int) : Int := mixI (IntKind.u64.wrap (key + IntKind.u64.wrap (IntKind.u64.wrap (IntKind.u64.wrap index + 1) * 11400714819323198485)))
theorem at_c (key index : Int) (w : World) : Calls Try.prog 105 #[.int .u64 key, .int .i64 index] w fun e w' => e = .returned (.int .u64 (atI key index)) ∧ w = w' := by
  go_enter Try.func105, Try.ntmps105
  go_wp2_with (go_at_call 128; refine (mix_c _ _).mono ?_; rintro e w' ⟨rfl, rfl⟩)
  go_ret
  exact ⟨rfl, rfl⟩

def lo32 (z : Int) : Int := bits .and .u64 z 4294967295
def upP (v n : Int) : Int := IntKind.u64.wrap (lo32 v * lo32 n)
def upQ (v n : Int) : Int := IntKind.u64.wrap (IntKind.u64.wrap (v / 4294967296 * lo32 n) + upP v n / 4294967296)
def upR (v n : Int) : Int := IntKind.u64.wrap (IntKind.u64.wrap (lo32 v * (n / 4294967296)) + lo32 (upQ v n))
def upperI (v n : Int) : Int := IntKind.u64.wrap (IntKind.u64.wrap (IntKind.u64.wrap (v / 4294967296 * (n / 4294967296)) + upQ v n / 4294967296) + upR v n / 4294967296)
theorem upper_c (v n : Int) (w : World) : Calls Try.prog 106 #[.int .u64 v, .int .u64 n] w fun e w' => e = .returned (.int .u64 (upperI v n)) ∧ w = w' := by
  go_enter Try.func106, Try.ntmps106
  go_wp2
  go_ret
  exact ⟨rfl, rfl⟩

theorem wrapU64 (z : Int) : IntKind.u64.wrap z = z % 18446744073709551616 := by simp [IntKind.wrap, IntKind.bits, IntKind.signed]
theorem lo32_eq (z : Int) (h0 : 0 ≤ z) (h1 : z < 18446744073709551616) : lo32 z = z % 4294967296 := and_low32 z h0 h1
theorem mul_bd (a b : Int) (a0 : 0 ≤ a) (a1 : a ≤ 4294967295) (b0 : 0 ≤ b) (b1 : b ≤ 4294967295) : 0 ≤ a * b ∧ a * b ≤ 18446744065119617025 :=
  ⟨Int.mul_nonneg a0 b0, Int.le_trans (Int.mul_le_mul a1 b1 b0 (by decide)) (by decide)⟩
theorem upper_eq (v n : Int) (v0 : 0 ≤ v) (v1 : v < 18446744073709551616) (n0 : 0 ≤ n) (n1 : n < 18446744073709551616) : upperI v n = v * n / 18446744073709551616 := by
  have ev := Int.emod_add_mul_ediv v 4294967296
  have en := Int.emod_add_mul_ediv n 4294967296
  have hlv := lo32_eq v v0 v1
  have hln := lo32_eq n n0 n1
  have a0 : 0 ≤ v / 4294967296 := by omega
  have a1 : v / 4294967296 ≤ 4294967295 := by omega
  have b0 : 0 ≤ v % 4294967296 := by omega
  have b1 : v % 4294967296 ≤ 4294967295 := by omega
  have c0 : 0 ≤ n / 4294967296 := by omega
  have c1 : n / 4294967296 ≤ 4294967295 := by omega
  have d0 : 0 ≤ n % 4294967296 := by omega
  have d1 : n % 4294967296 ≤ 4294967295 := by omega
  generalize ha : v / 4294967296 = a at *
  generalize hb : v % 4294967296 = b at *
  generalize hc : n / 4294967296 = c at *
  generalize hd : n % 4294967296 = d at *
  have hX := mul_bd a c a0 a1 c0 c1
  have hY := mul_bd a d a0 a1 d0 d1
  have hZ := mul_bd b c b0 b1 c0 c1
  have hW := mul_bd b d b0 b1 d0 d1
  have hvn : v * n = a * c * 18446744073709551616 + (a * d + b * c) * 4294967296 + b * d := by
    rw [← ev, ← en, Int.add_mul, Int.mul_add, Int.mul_add]
    rw [show b * (4294967296 * c) = b * c * 4294967296 by rw [Int.mul_comm 4294967296 c, Int.mul_assoc], show 4294967296 * a * d = a * d * 4294967296 by rw [Int.mul_comm 4294967296 a, Int.mul_assoc, Int.mul_comm 4294967296 d, Int.mul_assoc],
      show 4294967296 * a * (4294967296 * c) = a * c * 18446744073709551616 by rw [Int.mul_comm 4294967296 a, Int.mul_comm 4294967296 c, Int.mul_assoc, ← Int.mul_assoc 4294967296 c, Int.mul_comm 4294967296 c, Int.mul_assoc c, Int.mul_assoc]; rfl]
    omega
  have hp : upP v n = b * d := by
    rw [upP, hlv, hln, wrapU64]; omega
  have hq : upQ v n = a * d + b * d / 4294967296 := by
    rw [upQ, hp, hln, ha, wrapU64, wrapU64]; omega
  have hlq : lo32 (upQ v n) = (a * d + b * d / 4294967296) % 4294967296 := by
    rw [hq]; exact lo32_eq _ (by omega) (by omega)
  have hr : upR v n = b * c + (a * d + b * d / 4294967296) % 4294967296 := by
    rw [upR, hlq, hlv, hc, wrapU64, wrapU64]; omega
  rw [upperI, hq, hr, ha, hc, hvn, wrapU64, wrapU64, wrapU64]
  generalize a * c = X at *
  generalize a * d = Y at *
  generalize b * c = Z at *
  generalize b * d = U at *
  omega

def belowI (v n : Int) : Int := wrap64 (upperI v (IntKind.u64.wrap n))
theorem below_bad (v n : Int) (w : World) (h : n < 1) : Calls Try.prog 64 #[.int .u64 v, .int .i64 n] w fun e w' => e = .returned (.tuple #[.int .i64 0, .int .i64 60]) ∧ w = w' := by
  go_enter Try.func64, Try.ntmps64
  go_wp2
  go_ret2
  exact ⟨rfl, rfl⟩
theorem below_ok (v n : Int) (w : World) (h : 1 ≤ n) : Calls Try.prog 64 #[.int .u64 v, .int .i64 n] w fun e w' => e = .returned (.tuple #[.int .i64 (belowI v n), .int .i64 0]) ∧ w = w' := by
  go_enter Try.func64, Try.ntmps64
  go_wp2_with (go_at_call 106; refine (upper_c _ _ _).mono ?_; rintro e w' ⟨rfl, rfl⟩)
  go_ret2
  exact ⟨rfl, rfl⟩

def join2 (x y : Int) : Int := mixI (IntKind.u64.wrap (IntKind.u64.wrap (11400714819323198485 + y) + IntKind.u64.wrap (mixI (IntKind.u64.wrap (IntKind.u64.wrap (11400714819323198485 + x))) * 11400714819323198485)))
set_option maxRecDepth 100000 in
set_option maxHeartbeats 1000000 in
theorem join2_c (b : Nat) (x y : Int) (w : World) (h0 : w.cell? ⟨b, 0, none⟩ = some (.int .u64 x)) (h1 : w.cell? ⟨b, 1, none⟩ = some (.int .u64 y)) :
    Calls Try.prog 127 #[.slice (some ⟨b, 0, none⟩) 2 2] w fun e w' => e = .returned (.int .u64 (join2 x y)) ∧ w = w' := by
  go_enter Try.func127, Try.ntmps127
  go_wp2
  refine wp_loop_rounds 3 ?_
  rw [rounds_succ]
  go_wp2_with (go_at_call 128; refine (mix_c _ _).mono ?_; rintro e w' ⟨rfl, rfl⟩)
  rw [rounds_succ]
  go_wp2_with (go_at_call 128; refine (mix_c _ _).mono ?_; rintro e w' ⟨rfl, rfl⟩)
  rw [rounds_succ]
  go_wp2_with (go_at_call 128; refine (mix_c _ _).mono ?_; rintro e w' ⟨rfl, rfl⟩)
  go_ret
  exact ⟨rfl, rfl⟩

def keyI (seed process : Int) : Int := join2 seed process
theorem key_ok (seed process : Int) (w : World) (h0 : 0 ≤ process) (h1 : process ≤ 65536) : Calls Try.prog 104 #[.int .u64 seed, .int .i64 process] w fun e w' => e = .returned (.tuple #[.int .u64 (keyI seed process), .int .i64 0]) ∧ Below w.heap.size w w' := by
  go_enter Try.func104, Try.ntmps104
  go_wp2_with fail
  refine (join2_c w.heap.size seed process _ ?_ ?_).mono ?_
  · exact cell_of_row _ _ _ _ _ _ (heap_alloc_new w _)
  · exact cell_of_row _ _ _ _ _ _ (heap_alloc_new w _)
  rintro e w' ⟨rfl, rfl⟩
  go_wp2
  go_ret2
  exact ⟨rfl, (Below.refl _ _).alloc (Nat.le_refl _) _⟩
theorem key_bad (seed process : Int) (w : World) (h : process < 0 ∨ 65536 < process) : Calls Try.prog 104 #[.int .u64 seed, .int .i64 process] w fun e w' => e = .returned (.tuple #[.int .u64 0, .int .i64 2]) ∧ w = w' := by
  rcases h with h | h
  · go_enter Try.func104, Try.ntmps104
    go_wp2
    go_ret2
    exact ⟨rfl, rfl⟩
  · have h' : 0 ≤ process := by omega
    go_enter Try.func104, Try.ntmps104
    go_wp2
    go_ret2
    exact ⟨rfl, rfl⟩

def valueI (seed process index : Int) : Int := atI (keyI seed process) index
set_option maxHeartbeats 1000000 in
theorem value_ok (seed process index : Int) (w : World) (h0 : 0 ≤ process) (h1 : process ≤ 65536) (h2 : 0 ≤ index) (h3 : index ≤ 281474976710656) :
    Calls Try.prog 63 #[.int .u64 seed, .int .i64 process, .int .i64 index] w fun e w' => e = .returned (.tuple #[.int .u64 (valueI seed process index), .int .i64 0]) ∧ Below w.heap.size w w' := by
  go_enter Try.func63, Try.ntmps63
  go_wp2_with fail
  refine (key_ok _ _ _ h0 h1).mono ?_
  rintro e w' ⟨rfl, hb⟩
  go_wp2_with (go_at_call 105; refine (at_c _ _ _).mono ?_; rintro e w' ⟨rfl, rfl⟩)
  go_ret2
  exact ⟨rfl, hb⟩

/-- a draw of layer 6 below n, n at least 1 -/
def drawI (seed process index n : Int) : Int := belowI (valueI seed process index) n
set_option maxHeartbeats 1000000 in
theorem draw_ok (seed process index n : Int) (w : World) (h0 : 0 ≤ process) (h1 : process ≤ 65536) (h2 : 0 ≤ index) (h3 : index ≤ 281474976710656) (hn : 1 ≤ n) :
    Calls Try.prog 27 #[.int .u64 seed, .int .i64 process, .int .i64 index, .int .i64 n] w fun e w' => e = .returned (.tuple #[.int .i64 (drawI seed process index n), .int .i64 0]) ∧ Below w.heap.size w w' := by
  go_enter Try.func27, Try.ntmps27
  go_wp2_with fail
  refine (value_ok _ _ _ _ h0 h1 h2 h3).mono ?_
  rintro e w' ⟨rfl, hb⟩
  go_wp2_with (go_at_call 64; refine (below_ok _ _ _ hn).mono ?_; rintro e w' ⟨rfl, rfl⟩)
  go_ret2
  exact ⟨rfl, hb⟩

theorem u64_bd (z : Int) : 0 ≤ IntKind.u64.wrap z ∧ IntKind.u64.wrap z < 18446744073709551616 := by rw [wrapU64]; omega
theorem foldI_bd (x n : Int) (h : 0 ≤ x) (h1 : x < 18446744073709551616) (hn : 0 ≤ n) : 0 ≤ foldI x n ∧ foldI x n < 18446744073709551616 := by
  unfold foldI
  have : bits .xor .u64 x (x / 2 ^ n.toNat) = IntKind.u64.wrap (bits .xor .u64 x (x / 2 ^ n.toNat)) := by
    simp only [bits, wrapU64]
    omega
  rw [this]; exact u64_bd _
theorem mixI_bd (x : Int) : 0 ≤ mixI x ∧ mixI x < 18446744073709551616 := foldI_bd _ _ (u64_bd _).1 (u64_bd _).2 (by decide)
theorem valueI_bd (s p i : Int) : 0 ≤ valueI s p i ∧ valueI s p i < 18446744073709551616 := mixI_bd _
theorem drawI_bd (s p i n : Int) (hn : 1 ≤ n) (hn1 : n ≤ 9223372036854775807) : 0 ≤ drawI s p i n ∧ drawI s p i n < n := by
  unfold drawI belowI
  have hv := valueI_bd s p i
  have hw : IntKind.u64.wrap n = n := by rw [wrapU64]; omega
  rw [hw, upper_eq _ _ hv.1 hv.2 (by omega) (by omega)]
  have h0 : 0 ≤ valueI s p i * n / 18446744073709551616 := Int.ediv_nonneg (Int.mul_nonneg hv.1 (by omega)) (by decide)
  have h1 : valueI s p i * n / 18446744073709551616 < n := by
    apply Int.ediv_lt_of_lt_mul (by decide)
    rw [Int.mul_comm n]
    exact Int.mul_lt_mul_of_pos_right hv.2 (by omega)
  have hz : wrap64 (valueI s p i * n / 18446744073709551616) = valueI s p i * n / 18446744073709551616 := by
    unfold wrap64; omega
  rw [hz]; exact ⟨h0, h1⟩
end Go.Proofs.Ytmljmabbopkpiaa
end

section
/- the machine of instr: cells, draws, what is sent, words. -/
namespace Go.Proofs.Ytmljmabbopkpiaa
open Go.RowKit
set_option linter.unusedVariables false
set_option linter.unusedSimpArgs false

theorem qadd {P : Program} {f : FuncId} {args : Array Value} {w : World} {a n : Nat} {v : Value}
    (h : Calls P f args (w.drewN (a + n)) fun e w' => e = .returned v ∧ ∃ m, w' = (w.drewN (a + n)).drewN m) :
    Calls P f args (w.drewN (a + n)) fun e w'' => e = .returned v ∧ ∃ m, w'' = w.drewN (a + m) :=
  h.mono fun _ _ ⟨he, m, hm⟩ => ⟨he, n + m, by rw [hm, World.drewN_drewN, Nat.add_assoc]⟩
theorem own_slice {w : World} {base : Nat} {e : TypeId} {size : Nat} {v : Value} {n : Nat} {xs : List Value} (h : w.ownsRow base e size v n xs) : ∃ A c, v = .slice A n c := by
  rcases h.2 with ⟨rfl, rfl⟩ | ⟨g, cap, cur, rfl, _⟩
  · exact ⟨_, _, rfl⟩
  · exact ⟨_, _, rfl⟩

set_option maxRecDepth 100000 in
set_option maxHeartbeats 1000000 in
theorem cell_neg (w : World) (base g : Nat) (s : St) (v : Envi) (i : Ins) (C S : Value) (h : Mac w base g s v i C S) (b0 : 0 ≤ i.b) (b8 : i.b < 8) (hn : s.regs i.b.toNat < 0) :
    Calls Try.prog 168 #[.pointer (some ⟨g, 0, none⟩)] w fun e w' => e = .returned (.tuple #[.pointer none, .int .i64 185]) ∧ ∃ n, w' = w.drewN n := by
  have HB := Lib.hid fun w h => rb_c w base g s v i C S h b0 b8
  obtain ⟨x, hx⟩ : ∃ x, x = s.regs i.b.toNat := ⟨_, rfl⟩
  rw [← hx] at HB hn
  have hd : decide (x < 0) = true := by simpa using hn
  have H := Lib.hid h
  clear h hx
  go_enter Try.func168, Try.ntmps168
  go_wp2_with go_quiet ((go_at_call 167; first | exact Calls.quiet_of (HB.out _ H.out) | exact Calls.quiet_of (HB.out _ (H.out.drewN _))))
  go_ret2
  exact ⟨rfl, _, rfl⟩

set_option maxRecDepth 100000 in
set_option maxHeartbeats 1000000 in
theorem cell_far (w : World) (base g : Nat) (s : St) (v : Envi) (i : Ins) (C S : Value) (h : Mac w base g s v i C S) (b0 : 0 ≤ i.b) (b8 : i.b < 8) (hn : 0 ≤ s.regs i.b.toNat) (hl : (s.cells.length : Int) ≤ s.regs i.b.toNat) :
    Calls Try.prog 168 #[.pointer (some ⟨g, 0, none⟩)] w fun e w' => e = .returned (.tuple #[.pointer none, .int .i64 185]) ∧ ∃ n, w' = w.drewN n := by
  have HB := Lib.hid fun w h => rb_c w base g s v i C S h b0 b8
  obtain ⟨x, hx⟩ : ∃ x, x = s.regs i.b.toNat := ⟨_, rfl⟩
  rw [← hx] at HB hn hl
  have hd : decide (x < 0) = false := by simpa using hn
  have hc : w.cell? ⟨g, 10, none⟩ = some C := h.blk.cell 10
  obtain ⟨A, c, rfl⟩ := own_slice h.oc
  have H := Lib.hid h
  clear h hx
  go_enter Try.func168, Try.ntmps168
  go_wp2_with go_quiet ((go_at_call 167; first | exact Calls.quiet_of (HB.out _ H.out) | exact Calls.quiet_of (HB.out _ (H.out.drewN _))))
  go_ret2
  exact ⟨rfl, _, rfl⟩

set_option maxRecDepth 100000 in
set_option maxHeartbeats 1000000 in
theorem cell_ok (w : World) (base g : Nat) (s : St) (v : Envi) (i : Ins) (gc c : Nat) (S : Value) (h : Mac w base g s v i (.slice (some ⟨gc, 0, none⟩) s.cells.length c) S) (b0 : 0 ≤ i.b) (b8 : i.b < 8) (k : Nat) (hk : s.regs i.b.toNat = k) (hl : k < s.cells.length) :
    Calls Try.prog 168 #[.pointer (some ⟨g, 0, none⟩)] w fun e w' => e = .returned (.tuple #[.pointer (some ⟨gc, k, none⟩), .int .i64 0]) ∧ ∃ n, w' = w.drewN n := by
  have HB := Lib.hid fun w h => rb_c w base g s v i (.slice (some ⟨gc, 0, none⟩) s.cells.length c) S h b0 b8
  rw [hk] at HB
  have hd : decide ((k : Int) < 0) = false := by simp
  have hd2 : decide ((s.cells.length : Int) ≤ (k : Int)) = false := by simp; omega
  have h1 : (0 : Int) ≤ (k : Int) := by omega
  have h2 : (k : Int) < (s.cells.length : Int) := by omega
  have hc : w.cell? ⟨g, 10, none⟩ = some (.slice (some ⟨gc, 0, none⟩) s.cells.length c) := h.blk.cell 10
  have H := Lib.hid h
  clear h
  go_enter Try.func168, Try.ntmps168
  go_wp2_with go_quiet ((go_at_call 167; first | exact Calls.quiet_of (HB.out _ H.out) | exact Calls.quiet_of (HB.out _ (H.out.drewN _))))
  go_quiet ((go_at_call 167; exact qadd (HB.out _ (H.out.drewN _))))
  go_wp2
  go_ret2
  exact ⟨rfl, _, World.drewN_drewN _ _ _⟩

theorem cell_bad (w : World) (base g : Nat) (s : St) (v : Envi) (i : Ins) (C S : Value) (h : Mac w base g s v i C S) (b0 : 0 ≤ i.b) (b8 : i.b < 8) (hn : s.regs i.b.toNat < 0 ∨ (s.cells.length : Int) ≤ s.regs i.b.toNat) :
    Calls Try.prog 168 #[.pointer (some ⟨g, 0, none⟩)] w fun e w' => e = .returned (.tuple #[.pointer none, .int .i64 185]) ∧ ∃ n, w' = w.drewN n := by
  by_cases h0 : s.regs i.b.toNat < 0
  · exact cell_neg w base g s v i C S h b0 b8 h0
  · exact cell_far w base g s v i C S h b0 b8 (by omega) (by omega)

set_option maxRecDepth 100000 in
theorem load_bad (w : World) (base g : Nat) (s : St) (v : Envi) (i : Ins) (C S : Value) (h : Mac w base g s v i C S) (b0 : 0 ≤ i.b) (b8 : i.b < 8) (hn : s.regs i.b.toNat < 0 ∨ (s.cells.length : Int) ≤ s.regs i.b.toNat) :
    Calls Try.prog 136 #[.pointer (some ⟨g, 0, none⟩)] w fun e w' => e = .returned (.int .i64 185) ∧ Mac w' base g s v i C S ∧ Below base w w' := by
  have H := Lib.hid h
  have HN := Lib.hid hn
  clear h hn
  go_enter Try.func136, Try.ntmps136
  go_wp2_with fail
  refine (cell_bad w base g s v i C S H.out b0 b8 HN.out).mono ?_
  rintro e w2 ⟨rfl, n, rfl⟩
  go_wp2
  go_ret
  exact ⟨rfl, H.out.drewN n, below_drewNm (Below.refl _ w) n⟩

set_option maxRecDepth 100000 in
theorem load_ok (w : World) (base g : Nat) (s : St) (v : Envi) (i : Ins) (C S : Value) (h : Mac w base g s v i C S) (h0 : 0 ≤ i.a) (h8 : i.a < 8) (b0 : 0 ≤ i.b) (b8 : i.b < 8) (a0 : 0 ≤ s.at_) (a1 : s.at_ ≤ 256) (k : Nat) (hk : s.regs i.b.toNat = k) (hl : k < s.cells.length) :
    Calls Try.prog 136 #[.pointer (some ⟨g, 0, none⟩)] w fun e w' => e = .returned (.int .i64 0) ∧ Mac w' base g (s.put i.a.toNat (s.cells[k]'hl)) v i C S ∧ Below base w w' := by
  obtain ⟨gc, cap, rfl, _⟩ := h.oc.form (by omega)
  have hcell : w.cell? ⟨gc, k, none⟩ = some (.int .i64 (s.cells[k]'hl)) := by
    rw [h.oc.cellAt k (by omega)]; simp [int64s, hl]
  obtain ⟨x, hx⟩ : ∃ x, x = s.cells[k]'hl := ⟨_, rfl⟩
  rw [← hx] at hcell ⊢
  have H := Lib.hid h
  clear h hx
  go_enter Try.func136, Try.ntmps136
  go_wp2_with fail
  refine (cell_ok w base g s v i gc cap S H.out b0 b8 k hk hl).mono ?_
  rintro e w2 ⟨rfl, n, rfl⟩
  go_wp2_with fail
  refine (put_c _ base g s v i _ S x (H.out.drewN n) h0 h8 a0 a1).mono ?_
  rintro e w2 ⟨rfl, hm, hb⟩
  go_wp2
  go_ret
  exact ⟨rfl, hm, (below_drewNm (Below.refl _ w) n).trans hb⟩

theorem Mac.stored {w : World} {base g gc cap : Nat} {s : St} {v : Envi} {i : Ins} {S : Value} (h : Mac w base g s v i (.slice (some ⟨gc, 0, none⟩) s.cells.length cap) S) (k : Nat) (x : Int) (hl : k < s.cells.length) :
    Mac (w.setCell ⟨gc, k, none⟩ (.int .i64 x)) base g { s with cells := s.cells.set k x } v i (.slice (some ⟨gc, 0, none⟩) s.cells.length cap) S ∧ base ≤ gc := by
  have hb : base ≤ gc := by
    obtain ⟨g', cap', hv, hb, _⟩ := h.oc.form (by omega)
    cases hv
    exact hb
  have hne : g ≠ gc := fun e => own_blk_ne h.oc h.blk (by decide) (by simp [Value.ownBlock, e])
  refine ⟨⟨h.hg, h.blk.far hne _, ?_, ?_⟩, hb⟩
  · have := (h.oc.stored k (.int .i64 x)).1
    simpa [int64s] using this
  · refine ownsRow_keep h.os fun j hj _ => Below.heap_setCell _ _ _ _ (fun e => ?_)
    rcases h.os.2 with ⟨r, _⟩ | ⟨g2, cap2, cur, r, _, hh, _⟩
    · rw [r] at hj; simp [Value.ownBlock] at hj
    · rw [r] at hj
      have e2 : g2 = j := by simpa [Value.ownBlock] using hj
      exact own_blk_ne (t := 64) h.oc hh (by decide) (by rw [e2, e]; rfl)

set_option maxRecDepth 100000 in
theorem store_bad (w : World) (base g : Nat) (s : St) (v : Envi) (i : Ins) (C S : Value) (h : Mac w base g s v i C S) (b0 : 0 ≤ i.b) (b8 : i.b < 8) (hn : s.regs i.b.toNat < 0 ∨ (s.cells.length : Int) ≤ s.regs i.b.toNat) :
    Calls Try.prog 137 #[.pointer (some ⟨g, 0, none⟩)] w fun e w' => e = .returned (.int .i64 185) ∧ Mac w' base g s v i C S ∧ Below base w w' := by
  have H := Lib.hid h
  have HN := Lib.hid hn
  clear h hn
  go_enter Try.func137, Try.ntmps137
  go_wp2_with fail
  refine (cell_bad w base g s v i C S H.out b0 b8 HN.out).mono ?_
  rintro e w2 ⟨rfl, n, rfl⟩
  go_wp2
  go_ret
  exact ⟨rfl, H.out.drewN n, below_drewNm (Below.refl _ w) n⟩

set_option maxRecDepth 100000 in
theorem store_ok (w : World) (base g : Nat) (s : St) (v : Envi) (i : Ins) (C S : Value) (h : Mac w base g s v i C S) (h0 : 0 ≤ i.a) (h8 : i.a < 8) (b0 : 0 ≤ i.b) (b8 : i.b < 8) (a0 : 0 ≤ s.at_) (a1 : s.at_ ≤ 256) (k : Nat) (hk : s.regs i.b.toNat = k) (hl : k < s.cells.length) :
    Calls Try.prog 137 #[.pointer (some ⟨g, 0, none⟩)] w fun e w' => e = .returned (.int .i64 0) ∧ Mac w' base g { s with cells := s.cells.set k (s.regs i.a.toNat), at_ := s.at_ + 1 } v i C S ∧ Below base w w' := by
  obtain ⟨gc, cap, rfl, _⟩ := h.oc.form (by omega)
  have hfr : w.frozen? ⟨gc, k, none⟩ = false := h.oc.frozenAt k
  have hbg := (h.stored k (s.regs i.a.toNat) hl).2
  have hcell : w.cell? ⟨gc, k, none⟩ = some (.int .i64 (s.cells[k]'hl)) := by
    rw [h.oc.cellAt k (by omega)]; simp [int64s, hl]
  have hat : w.cell? ⟨g, 0, none⟩ = some (.int .i64 s.at_) := h.blk.cell 0
  have hfr2 : w.frozen? ⟨g, 0, none⟩ = false := h.blk.frozen 0
  have hne : ¬ g = gc := fun e => own_blk_ne h.oc h.blk (by decide) (by simp [Value.ownBlock, e])
  have hne2 : ¬ gc = g := fun e => hne e.symm
  have hfin := fun n => ((h.drewN n).stored k (s.regs i.a.toNat) hl).1.set_ 0 (.int .i64 (s.at_ + 1)) { s with cells := s.cells.set k (s.regs i.a.toNat), at_ := s.at_ + 1 } i rfl rfl rfl
  have hg := h.hg
  have HF := Lib.hid hfin
  have H := Lib.hid h
  clear h hfin
  go_enter Try.func137, Try.ntmps137
  go_wp2_with fail
  refine (cell_ok w base g s v i gc cap S H.out b0 b8 k hk hl).mono ?_
  rintro e w2 ⟨rfl, n, rfl⟩
  go_wp2_with fail
  refine (ra_c _ base g s v i _ S (H.out.drewN n) h0 h8).mono ?_
  rintro e w2 ⟨rfl, m, rfl⟩
  go_wp2
  go_ret
  exact ⟨rfl, HF.out _, (((below_drewNm (Below.refl _ w) _).setCell hbg _).setCell hg _)⟩
end Go.Proofs.Ytmljmabbopkpiaa
end

section
/- the machine of instr: draws. -/
namespace Go.Proofs.Ytmljmabbopkpiaa
open Go.RowKit
set_option linter.unusedVariables false
set_option linter.unusedSimpArgs false
set_option maxRecDepth 100000 in
theorem draw_bound (w : World) (base g : Nat) (s : St) (v : Envi) (i : Ins) (C S : Value) (h : Mac w base g s v i C S) (b0 : 0 ≤ i.b) (b8 : i.b < 8) (hn : s.regs i.b.toNat < 1) :
    Calls Try.prog 138 #[.pointer (some ⟨g, 0, none⟩)] w fun e w' => e = .returned (.int .i64 186) ∧ Mac w' base g s v i C S ∧ Below base w w' := by
  have H := Lib.hid h
  clear h
  go_enter Try.func138, Try.ntmps138
  go_wp2_with fail
  refine (rb_b w base g s v i C S H.out b0 b8).mono ?_
  rintro e w2 ⟨rfl, hb⟩
  go_wp2
  go_ret
  exact ⟨rfl, H.out.below hb, hb.mono H.out.lt⟩

set_option maxRecDepth 100000 in
theorem draw_max (w : World) (base g : Nat) (s : St) (v : Envi) (i : Ins) (C S : Value) (h : Mac w base g s v i C S) (b0 : 0 ≤ i.b) (b8 : i.b < 8) (hn : 1 ≤ s.regs i.b.toNat) (hd : s.draws = 1099511627776) :
    Calls Try.prog 138 #[.pointer (some ⟨g, 0, none⟩)] w fun e w' => e = .returned (.int .i64 187) ∧ Mac w' base g s v i C S ∧ Below base w w' := by
  have H := Lib.hid h
  have hr : w.cell? ⟨g, 11, none⟩ = some (.int .i64 1099511627776) := by rw [h.blk.cell, ← hd]; rfl
  have hl := h.blk.lt
  clear h
  go_enter Try.func138, Try.ntmps138
  go_wp2_with fail
  refine (rb_c w base g s v i C S H.out b0 b8).mono ?_
  rintro e w2 ⟨rfl, n, rfl⟩
  go_wp2
  go_ret
  exact ⟨rfl, H.out.drewN n, below_drewNm (Below.refl _ w) n⟩

set_option maxRecDepth 100000 in
set_option maxHeartbeats 1000000 in
theorem draw_c (w : World) (base g : Nat) (s : St) (v : Envi) (i : Ins) (C S : Value) (h : Mac w base g s v i C S) (h0 : 0 ≤ i.a) (h8 : i.a < 8) (b0 : 0 ≤ i.b) (b8 : i.b < 8) (a0 : 0 ≤ s.at_) (a1 : s.at_ ≤ 256)
    (p0 : 0 ≤ v.process) (p1 : v.process ≤ 65536) (d0 : 0 ≤ s.draws) (d1 : s.draws < 1099511627776) (hn : 1 ≤ s.regs i.b.toNat) :
    Calls Try.prog 138 #[.pointer (some ⟨g, 0, none⟩)] w fun e w' => e = .returned (.int .i64 0) ∧
      Mac w' base g { s.put i.a.toNat (drawI v.seed v.process s.draws (s.regs i.b.toNat)) with draws := s.draws + 1 } v i C S ∧ Below base w w' := by
  have H := Lib.hid h
  have hlt := h.blk.lt
  have hbl := h.lt
  have RC := Lib.hid fun w h => rb_b w base g s v i C S h b0 b8
  obtain ⟨x, hx⟩ : ∃ x, x = s.regs i.b.toNat := ⟨_, rfl⟩
  have DC := Lib.hid fun (W : World) => draw_ok v.seed v.process s.draws x W p0 p1 d0 (by omega) (by rw [hx]; exact hn)
  rw [← hx] at hn RC ⊢
  obtain ⟨D, hD⟩ : ∃ D, D = drawI v.seed v.process s.draws x := ⟨_, rfl⟩
  rw [← hD] at DC ⊢
  clear h hx hD
  go_enter Try.func138, Try.ntmps138
  go_wp2_with fail
  refine (RC.out w H.out).mono ?_
  rintro e w1 ⟨rfl, hb1⟩
  have h1 := H.out.below hb1
  have hlt1 := h1.blk.lt
  have hr11 : w1.cell? ⟨g, 11, none⟩ = some (.int .i64 s.draws) := h1.blk.cell 11
  have hr13 : w1.cell? ⟨g, 13, none⟩ = some (.int .u64 v.seed) := h1.blk.cell 13
  have hr14 : w1.cell? ⟨g, 14, none⟩ = some (.int .i64 v.process) := h1.blk.cell 14
  have HB := Lib.hid hb1
  have H1 := Lib.hid h1
  have RB := Lib.hid fun (W : World) (hW : Below w1.heap.size w1 W ∧ ∀ b o, b < w1.heap.size → W.cell? ⟨b, o, none⟩ = w1.cell? ⟨b, o, none⟩) => RC.out W (h1.below hW.1)
  clear h1 hb1
  go_upto_region 5 with fail
  go_cut [3, 5, 8, 9, 15] (fun p _ _ _ _ W => p = .int .i64 D ∧ Below w1.heap.size w1 W)
  case first =>
    go_region_held3 (fun W => Below w1.heap.size w1 W ∧ ∀ b o, b < w1.heap.size → W.cell? ⟨b, o, none⟩ = w1.cell? ⟨b, o, none⟩)
      (repeat' (first | exact preD | assumption | exact preR | refine preB ?_ hb2 | refine preE ?_ | refine preA ?_ _ | refine preS ?_ ?_ _ | omega | (simp; done) | (simp; omega)))
      ((first
       | (go_at_call 167; refine (RB.out _ ?_).mono ?_; (focus (repeat' (first | exact preD | assumption | exact preR | refine preB ?_ hb2 | refine preE ?_ | refine preA ?_ _ | refine preS ?_ ?_ _ | omega | (simp; done) | (simp; omega)))); rintro e w2 ⟨rfl, hb2⟩; obtain ⟨hc2, hf2⟩ := bcell hb2; have hz2 := hb2.size; try simp at hz2)
       | (go_at_call 27; refine (DC.out _).mono ?_; rintro e w2 ⟨rfl, hb2⟩; obtain ⟨hc2, hf2⟩ := bcell hb2; have hz2 := hb2.size; try simp at hz2)))
    all_goals (go_wp2_with fail; go_meet)
    all_goals (refine ⟨rfl, ?_⟩; first | exact And.left (by assumption) | skip)
  case rest => 
    obtain ⟨rfl, hB⟩ := hcut
    have h2 := H1.out.below hB
    have hr : wc.cell? ⟨g, 11, none⟩ = some (.int .i64 s.draws) := h2.blk.cell 11
    have hf : wc.frozen? ⟨g, 11, none⟩ = false := h2.blk.frozen 11
    have hg := h2.hg
    have hx := h2.set_ 11 (.int .i64 (s.draws + 1)) { s with draws := s.draws + 1 } i rfl rfl rfl
    have P := Lib.hid (put_c _ base g _ v i C S D hx h0 h8 a0 a1)
    have B := Lib.hid (((HB.out.mono hbl).trans (hB.mono H1.out.lt)).setCell (p := ⟨g, 11, none⟩) hg (.int .i64 (s.draws + 1)))
    clear h2 hx hB hr11 hr13 hr14
    go_wp2_with fail
    refine P.out.mono ?_
    rintro e w2 ⟨rfl, hm, hb⟩
    go_wp2
    go_ret
    exact ⟨rfl, hm, B.out.trans hb⟩
end Go.Proofs.Ytmljmabbopkpiaa
end

section
/- A region that draws its order, that loads and calls, its callees leaving what lies below the world's end as it was: one walk, in the order of the text. -/
namespace Go.Proofs.Ytmljmabbopkpiaa
open Go.RowKit
set_option linter.unusedVariables false
set_option linter.unusedSimpArgs false

structure Past (w : World) where
  W : World
  h : Below w.heap.size w W
instance (w : World) : Nonempty (Past w) := ⟨⟨w, Below.refl _ _⟩⟩
theorem past_region {P : Program} {id : Nat} {Q : Exit → Act → World → Prop} {a : Act} {w : World} {l : List Oper} (hm : P.follows .mixedOrders = true) (hB : Region.lexB .any l.toArray = true)
    (h : wpQuiet P l.toArray (fun w' => ∃ x : Past w, w' = x.W) (fun a' => ∀ w', (∃ x : Past w, w' = x.W) → Q .normal a' w') l a) : (Code.region id l.toArray true).wp P Q a w :=
  wp_region_quiet (C := fun w' => ∃ x : Past w, w' = x.W) hm hB ⟨⟨w.drew, (Below.refl _ w).drew⟩, rfl⟩ (by simpa using h)
theorem past_of {P : Program} {f : FuncId} {args : Array Value} {w : World} {x : Past w} {v : Value}
    (h : Calls P f args x.W fun e w' => e = .returned v ∧ Below x.W.heap.size x.W w') : Calls P f args x.W fun e w'' => e = .returned v ∧ ∃ y : Past w, w'' = y.W :=
  h.mono fun _ w' ⟨he, hb⟩ => ⟨he, ⟨w', x.h.trans (hb.mono x.h.size)⟩, rfl⟩
theorem past_quiet {P : Program} {f : FuncId} {args : Array Value} {w : World} {x : Past w} {v : Value}
    (h : Calls P f args x.W fun e w' => e = .returned v ∧ ∃ n, w' = x.W.drewN n) : Calls P f args x.W fun e w'' => e = .returned v ∧ ∃ y : Past w, w'' = y.W :=
  past_of (h.mono fun e w' ⟨he, n, hw⟩ => ⟨he, hw ▸ ⟨rfl, rfl, rfl, Nat.le_refl _, fun _ _ => rfl⟩⟩)
theorem past_same {P : Program} {f : FuncId} {args : Array Value} {w : World} {x : Past w} {v : Value}
    (h : Calls P f args x.W fun e w' => e = .returned v ∧ x.W = w') : Calls P f args x.W fun e w'' => e = .returned v ∧ ∃ y : Past w, w'' = y.W :=
  past_of (h.mono fun e w' ⟨he, hw⟩ => ⟨he, hw ▸ Below.refl _ _⟩)
theorem past_cell {w : World} {g : Nat} (hg : g < w.heap.size) (x : Past w) (o : Nat) : x.W.cell? ⟨g, o, none⟩ = w.cell? ⟨g, o, none⟩ := x.h.cell (p := ⟨g, o, none⟩) hg
end Go.Proofs.Ytmljmabbopkpiaa
end

section
/- the machine of instr: words, what is sent. -/
namespace Go.Proofs.Ytmljmabbopkpiaa
open Go.RowKit
open BigFrame
set_option linter.unusedVariables false
set_option linter.unusedSimpArgs false
set_option maxRecDepth 100000 in
set_option maxHeartbeats 1000000 in
theorem word_c (w : World) (base g : Nat) (s : St) (v : Envi) (i : Ins) (C S : Value) (h : Mac w base g s v i C S) (o0 : 32 ≤ i.op) (o1 : i.op < 256) (h0 : 0 ≤ i.a) (h8 : i.a < 8) (b0 : 0 ≤ i.b) (b8 : i.b < 8) (c0 : 0 ≤ i.c) (c8 : i.c < 8) (a0 : 0 ≤ s.at_) (a1 : s.at_ ≤ 256) :
    Calls Try.prog 143 #[.pointer (some ⟨g, 0, none⟩)] w fun e w' => e = .returned (.int .i64 (wrongE (i.op - 32) (s.regs i.c.toNat))) ∧
      Mac w' base g (if wrongE (i.op - 32) (s.regs i.c.toNat) = 0 then s.put i.a.toNat (applyV (i.op - 32) (s.regs i.b.toNat) (s.regs i.c.toNat)) else s) v i C S ∧ Below base w w' := by
  have H := Lib.hid h
  have hlt := h.blk.lt
  have hbl := h.lt
  have r18 : w.cell? ⟨g, 18, none⟩ = some (.int .u8 i.op) := h.blk.cell 18
  have hpc := fun x => past_cell (w := w) hlt x
  have RB := Lib.hid fun (x : Past w) => rb_b x.W base g s v i C S (h.below x.h) b0 b8
  have RC := Lib.hid fun (x : Past w) => rc_b x.W base g s v i C S (h.below x.h) c0 c8
  have hop := IntWalk.u8_in (i.op - 32) (by omega)
  obtain ⟨x, hx⟩ : ∃ x, x = s.regs i.b.toNat := ⟨_, rfl⟩
  obtain ⟨y, hy⟩ : ∃ y, y = s.regs i.c.toNat := ⟨_, rfl⟩
  have AC := Lib.hid (apply_c (i.op - 32) x y)
  rw [← hx] at RB ⊢
  rw [← hy] at RC ⊢
  obtain ⟨V, hV⟩ : ∃ V, V = applyV (i.op - 32) x y := ⟨_, rfl⟩
  obtain ⟨E, hE⟩ : ∃ E, E = wrongE (i.op - 32) y := ⟨_, rfl⟩
  rw [← hV, ← hE] at AC ⊢
  clear h hx hy hV hE
  obtain ⟨s', hs⟩ : ∃ s', s' = if E = 0 then s.put i.a.toNat V else s := ⟨_, rfl⟩
  rw [← hs]
  have HS := Lib.hid hs
  clear hs
  go_enter Try.func143, Try.ntmps143
  go_wp2_with fail
  (refine past_region (by kernel_rfl) (by kernel_rfl) ?_; (repeat (go_big_quiet_step ((first
    | (go_at_call 167; exact past_of (RB.out _))
    | (go_at_call 171; exact past_of (RC.out _))
    | (go_at_call 29; exact past_of (AC.out _)))))); refine wpQuiet_nil ?_; rintro wp_ ⟨⟨wp_, hp_⟩, rfl⟩)
  have h2 := H.out.below hp_
  have hb2 := hp_.mono hbl
  have P := Lib.hid (put_c _ base g _ v i C S V h2 h0 h8 a0 a1)
  have H2 := Lib.hid h2
  have B := Lib.hid hb2
  clear h2 hb2
  by_cases hE : E = 0
  · subst hE
    rw [if_pos rfl] at HS
    go_wp2_with fail
    refine P.out.mono ?_
    rintro e w2 ⟨rfl, hm, hb⟩
    go_wp2
    go_ret
    exact ⟨rfl, HS.out ▸ hm, B.out.trans hb⟩
  · rw [if_neg hE] at HS
    have hE2 : (E != 0) = true := by rw [bne_iff_ne]; exact hE
    clear hE
    go_wp2
    go_ret
    exact ⟨rfl, HS.out ▸ H2.out, B.out⟩

set_option maxRecDepth 100000 in
theorem send_port (w : World) (base g : Nat) (s : St) (v : Envi) (i : Ins) (C S : Value) (h : Mac w base g s v i C S) (hp : v.ports ≤ i.n) :
    Calls Try.prog 139 #[.pointer (some ⟨g, 0, none⟩)] w fun e w' => e = .returned (.int .i64 188) ∧ Mac w' base g s v i C S ∧ Below base w w' := by
  have H := Lib.hid h
  have r22 : w.cell? ⟨g, 22, none⟩ = some (.int .i64 i.n) := h.blk.cell 22
  have r15 : w.cell? ⟨g, 15, none⟩ = some (.int .i64 v.ports) := h.blk.cell 15
  clear h
  go_enter Try.func139, Try.ntmps139
  go_wp2_with go_quiet (fail)
  go_ret
  exact ⟨rfl, H.out.drewN _, below_drewNm (Below.refl _ w) _⟩

set_option maxRecDepth 100000 in
theorem send_delay (w : World) (base g : Nat) (s : St) (v : Envi) (i : Ins) (C S : Value) (h : Mac w base g s v i C S) (h0 : 0 ≤ i.a) (h8 : i.a < 8) (hp : i.n < v.ports) (hd : s.regs i.a.toNat < v.look) :
    Calls Try.prog 139 #[.pointer (some ⟨g, 0, none⟩)] w fun e w' => e = .returned (.int .i64 189) ∧ Mac w' base g s v i C S ∧ Below base w w' := by
  have H := Lib.hid h
  have r22 : w.cell? ⟨g, 22, none⟩ = some (.int .i64 i.n) := h.blk.cell 22
  have r15 : w.cell? ⟨g, 15, none⟩ = some (.int .i64 v.ports) := h.blk.cell 15
  have r16 : w.cell? ⟨g, 16, none⟩ = some (.int .i64 v.look) := h.blk.cell 16
  clear h
  go_enter Try.func139, Try.ntmps139
  go_wp2_with go_quiet (fail)
  go_quiet ((go_at_call 169; exact qadd (ra_c _ base g s v i C S (H.out.drewN _) h0 h8)))
  go_wp2
  go_ret
  exact ⟨rfl, by (try simp only [World.drewN_drewN]); exact H.out.drewN _, by (try simp only [World.drewN_drewN]); exact below_drewNm (Below.refl _ w) _⟩

set_option maxRecDepth 100000 in
theorem send_time (w : World) (base g : Nat) (s : St) (v : Envi) (i : Ins) (C S : Value) (h : Mac w base g s v i C S) (h0 : 0 ≤ i.a) (h8 : i.a < 8) (hp : i.n < v.ports) (hd : v.look ≤ s.regs i.a.toNat)
    (t0 : 0 ≤ v.now) (t1 : v.now ≤ 281474976710656) (ht : 281474976710656 - v.now < s.regs i.a.toNat) :
    Calls Try.prog 139 #[.pointer (some ⟨g, 0, none⟩)] w fun e w' => e = .returned (.int .i64 1800) ∧ Mac w' base g s v i C S ∧ Below base w w' := by
  have H := Lib.hid h
  have r22 : w.cell? ⟨g, 22, none⟩ = some (.int .i64 i.n) := h.blk.cell 22
  have r15 : w.cell? ⟨g, 15, none⟩ = some (.int .i64 v.ports) := h.blk.cell 15
  have r16 : w.cell? ⟨g, 16, none⟩ = some (.int .i64 v.look) := h.blk.cell 16
  have r17 : w.cell? ⟨g, 17, none⟩ = some (.int .i64 v.now) := h.blk.cell 17
  clear h
  go_enter Try.func139, Try.ntmps139
  go_wp2_with go_quiet (fail)
  go_quiet ((go_at_call 169; exact qadd (ra_c _ base g s v i C S (H.out.drewN _) h0 h8)))
  go_wp2
  go_quiet ((go_at_call 169; exact qadd (ra_c _ base g s v i C S (H.out.drewN _) h0 h8)))
  go_wp2
  go_ret
  exact ⟨rfl, by (try simp only [World.drewN_drewN]); exact H.out.drewN _, by (try simp only [World.drewN_drewN]); exact below_drewNm (Below.refl _ w) _⟩

set_option maxRecDepth 100000 in
theorem send_full (w : World) (base g : Nat) (s : St) (v : Envi) (i : Ins) (C S : Value) (h : Mac w base g s v i C S) (h0 : 0 ≤ i.a) (h8 : i.a < 8) (hp : i.n < v.ports) (hd : v.look ≤ s.regs i.a.toNat)
    (t0 : 0 ≤ v.now) (t1 : v.now ≤ 281474976710656) (ht : s.regs i.a.toNat ≤ 281474976710656 - v.now) (hf : 256 ≤ s.sends.length) :
    Calls Try.prog 139 #[.pointer (some ⟨g, 0, none⟩)] w fun e w' => e = .returned (.int .i64 1801) ∧ Mac w' base g s v i C S ∧ Below base w w' := by
  have H := Lib.hid h
  have r22 : w.cell? ⟨g, 22, none⟩ = some (.int .i64 i.n) := h.blk.cell 22
  have r15 : w.cell? ⟨g, 15, none⟩ = some (.int .i64 v.ports) := h.blk.cell 15
  have r16 : w.cell? ⟨g, 16, none⟩ = some (.int .i64 v.look) := h.blk.cell 16
  have r17 : w.cell? ⟨g, 17, none⟩ = some (.int .i64 v.now) := h.blk.cell 17
  have r12 : w.cell? ⟨g, 12, none⟩ = some S := h.blk.cell 12
  obtain ⟨A, c, rfl⟩ := own_slice h.os
  clear h
  go_enter Try.func139, Try.ntmps139
  go_wp2_with go_quiet (fail)
  go_quiet ((go_at_call 169; exact qadd (ra_c _ base g s v i C _ (H.out.drewN _) h0 h8)))
  go_wp2
  go_quiet ((go_at_call 169; exact qadd (ra_c _ base g s v i C _ (H.out.drewN _) h0 h8)))
  go_wp2
  go_ret
  exact ⟨rfl, by (try simp only [World.drewN_drewN]); exact H.out.drewN _, by (try simp only [World.drewN_drewN]); exact below_drewNm (Below.refl _ w) _⟩
end Go.Proofs.Ytmljmabbopkpiaa
end

section
/- slices.Clone at three element types. -/
namespace Go.Proofs.Ytmljmabbopkpiaa
open Go.RowKit
set_option linter.unusedVariables false
set_option linter.unusedSimpArgs false

theorem info64 : (Try.prog.info? 2).map (fun i => (i.zero, i.size, i.bytes)) = some (some (.int .i64 0), 1, 8) := by kernel_rfl
theorem infoIns : (Try.prog.info? 28).map (fun i => (i.zero, i.size, i.bytes)) = some (some (.agg #[.int .u8 0, .int .u8 0, .int .u8 0, .int .u8 0, .int .i64 0]), 5, 16) := by kernel_rfl
theorem infoSend : (Try.prog.info? 64).map (fun i => (i.zero, i.size, i.bytes)) = some (some (.agg #[.int .i64 0, .int .i64 0, .int .i64 0]), 3, 24) := by kernel_rfl


set_option maxRecDepth 100000 in
set_option maxHeartbeats 1000000 in
theorem clone64_some (ad : Addr) (n c : Nat) (xs : List Value) (w : World) (h : Reads w w.heap.size 1 (some ad) n xs) (h1 : ∀ u ∈ xs, u.oneCell' = true) (hn : n * 8 ≤ 140737488355328) (hm : n ≤ maxLen) :
    Calls Try.prog 62 #[.slice (some ad) n c] w fun e w' => ∃ v, e = .returned v ∧ w'.ownsRow w.heap.size 2 1 v (0 + n) ([] ++ xs) ∧ Below w.heap.size w w' := by
  obtain ⟨i0, hi, hz0, hz1, hz2⟩ := info_parts info64
  have hr := (h.alloc (Nat.le_refl _) (.cells #[] 2))
  have H1 := Lib.hid h1
  have HN := Lib.hid hn
  have HM := Lib.hid hm
  have HR := Lib.hid hr
  clear h h1 hn hm hr
  have kn := fun (w : World) (a : Option Addr) (n c : Nat) => eql_nil (P := Try.prog) w 47 2 a n c Try.underlying47
  go_enter Try.func62, Try.ntmps62
  go_wp2_with (at_builtin
               refine wpList_append_any _ rfl (.tmp 5) (.tmp 6) _ rfl w.heap.size 2 i0 _ 1 8 Try.underlying47 hi hz0 hz1 hz2 rfl (by omega) (.slice (some ⟨w.heap.size, 0, none⟩) 0 0) 0 [] rfl
                 (World.ownsRow_made w #[] 0 (Nat.le_refl _) (Nat.zero_le _) rfl) w.heap.size (some ad) n c xs rfl HR.out H1.out (by have := HM.out; omega) (by have := HN.out; omega) (by simp) ?_
               intro v1 w1 hown1 hg1 hat1)
  go_ret
  refine ⟨v1, rfl, hown1, ((Below.refl _ w).alloc (Nat.le_refl _) _).grown hg1 (by simp) (fun k hk => ?_)⟩
  rcases hat1 with e | e <;> simp [Value.ownBlock] at hk <;> omega
theorem clone64_nil (n c : Nat) (w : World) :
    Calls Try.prog 62 #[.slice none n c] w fun e w' => e = .returned (.slice none 0 0) ∧ w = w' := by
  have kn := fun (w : World) (a : Option Addr) (n c : Nat) => eql_nil (P := Try.prog) w 47 2 a n c Try.underlying47
  go_enter Try.func62, Try.ntmps62
  go_wp2
  go_ret
  exact ⟨rfl, rfl⟩
/-- slices.Clone: a row of the call's own with the same cells. -/
theorem clone64_c (A : Option Addr) (n c : Nat) (xs : List Value) (w : World) (h : Reads w w.heap.size 1 A n xs) (h1 : ∀ u ∈ xs, u.oneCell' = true) (hn : n * 8 ≤ 140737488355328) :
    Calls Try.prog 62 #[.slice A n c] w fun e w' => ∃ v, e = .returned v ∧ w'.ownsRow w.heap.size 2 1 v n xs ∧ Below w.heap.size w w' := by
  cases A with
  | none =>
    have hn0 : n = 0 := by
      rcases Nat.eq_zero_or_pos n with h0 | h0
      · exact h0
      · obtain ⟨ad, e, _⟩ := h.2 h0
        cases e
    subst hn0
    have hx : xs = [] := List.eq_nil_of_length_eq_zero (by simpa using h.1)
    subst hx
    refine (clone64_nil 0 c w).mono ?_
    rintro e w' ⟨rfl, rfl⟩
    exact ⟨_, rfl, World.ownsRow_nil _ _ _ _, Below.refl _ _⟩
  | some ad =>
    have hm : n ≤ maxLen := by unfold maxLen; omega
    refine (clone64_some ad n c xs w h h1 hn hm).mono ?_
    rintro e w' ⟨v, rfl, ho, hb⟩
    exact ⟨v, rfl, by simpa using ho, hb⟩

set_option maxRecDepth 100000 in
set_option maxHeartbeats 1000000 in
theorem cloneIns_some (ad : Addr) (n c : Nat) (xs : List Value) (w : World) (h : Reads w w.heap.size 5 (some ad) n xs) (h1 : ∀ u ∈ xs, u.oneCell' = true) (hn : n * 16 ≤ 140737488355328) (hm : n ≤ maxLen) :
    Calls Try.prog 32 #[.slice (some ad) n c] w fun e w' => ∃ v, e = .returned v ∧ w'.ownsRow w.heap.size 28 5 v (0 + n) ([] ++ xs) ∧ Below w.heap.size w w' := by
  obtain ⟨i0, hi, hz0, hz1, hz2⟩ := info_parts infoIns
  have hr := (h.alloc (Nat.le_refl _) (.cells #[] 28))
  have H1 := Lib.hid h1
  have HN := Lib.hid hn
  have HM := Lib.hid hm
  have HR := Lib.hid hr
  clear h h1 hn hm hr
  have kn := fun (w : World) (a : Option Addr) (n c : Nat) => eql_nil (P := Try.prog) w 25 28 a n c Try.underlying25
  go_enter Try.func32, Try.ntmps32
  go_wp2_with (at_builtin
               refine wpList_append_any _ rfl (.tmp 5) (.tmp 6) _ rfl w.heap.size 28 i0 _ 5 16 Try.underlying25 hi hz0 hz1 hz2 rfl (by omega) (.slice (some ⟨w.heap.size, 0, none⟩) 0 0) 0 [] rfl
                 (World.ownsRow_made w #[] 0 (Nat.le_refl _) (Nat.zero_le _) rfl) w.heap.size (some ad) n c xs rfl HR.out H1.out (by have := HM.out; omega) (by have := HN.out; omega) (by simp) ?_
               intro v1 w1 hown1 hg1 hat1)
  go_ret
  refine ⟨v1, rfl, hown1, ((Below.refl _ w).alloc (Nat.le_refl _) _).grown hg1 (by simp) (fun k hk => ?_)⟩
  rcases hat1 with e | e <;> simp [Value.ownBlock] at hk <;> omega
theorem cloneIns_nil (n c : Nat) (w : World) :
    Calls Try.prog 32 #[.slice none n c] w fun e w' => e = .returned (.slice none 0 0) ∧ w = w' := by
  have kn := fun (w : World) (a : Option Addr) (n c : Nat) => eql_nil (P := Try.prog) w 25 28 a n c Try.underlying25
  go_enter Try.func32, Try.ntmps32
  go_wp2
  go_ret
  exact ⟨rfl, rfl⟩
/-- slices.Clone: a row of the call's own with the same cells. -/
theorem cloneIns_c (A : Option Addr) (n c : Nat) (xs : List Value) (w : World) (h : Reads w w.heap.size 5 A n xs) (h1 : ∀ u ∈ xs, u.oneCell' = true) (hn : n * 16 ≤ 140737488355328) :
    Calls Try.prog 32 #[.slice A n c] w fun e w' => ∃ v, e = .returned v ∧ w'.ownsRow w.heap.size 28 5 v n xs ∧ Below w.heap.size w w' := by
  cases A with
  | none =>
    have hn0 : n = 0 := by
      rcases Nat.eq_zero_or_pos n with h0 | h0
      · exact h0
      · obtain ⟨ad, e, _⟩ := h.2 h0
        cases e
    subst hn0
    have hx : xs = [] := List.eq_nil_of_length_eq_zero (by simpa using h.1)
    subst hx
    refine (cloneIns_nil 0 c w).mono ?_
    rintro e w' ⟨rfl, rfl⟩
    exact ⟨_, rfl, World.ownsRow_nil _ _ _ _, Below.refl _ _⟩
  | some ad =>
    have hm : n ≤ maxLen := by unfold maxLen; omega
    refine (cloneIns_some ad n c xs w h h1 hn hm).mono ?_
    rintro e w' ⟨v, rfl, ho, hb⟩
    exact ⟨v, rfl, by simpa using ho, hb⟩

set_option maxRecDepth 100000 in
set_option maxHeartbeats 1000000 in
theorem cloneSend_some (ad : Addr) (n c : Nat) (xs : List Value) (w : World) (h : Reads w w.heap.size 3 (some ad) n xs) (h1 : ∀ u ∈ xs, u.oneCell' = true) (hn : n * 24 ≤ 140737488355328) (hm : n ≤ maxLen) :
    Calls Try.prog 88 #[.slice (some ad) n c] w fun e w' => ∃ v, e = .returned v ∧ w'.ownsRow w.heap.size 64 3 v (0 + n) ([] ++ xs) ∧ Below w.heap.size w w' := by
  obtain ⟨i0, hi, hz0, hz1, hz2⟩ := info_parts infoSend
  have hr := (h.alloc (Nat.le_refl _) (.cells #[] 64))
  have H1 := Lib.hid h1
  have HN := Lib.hid hn
  have HM := Lib.hid hm
  have HR := Lib.hid hr
  clear h h1 hn hm hr
  have kn := fun (w : World) (a : Option Addr) (n c : Nat) => eql_nil (P := Try.prog) w 51 64 a n c Try.underlying51
  go_enter Try.func88, Try.ntmps88
  go_wp2_with (at_builtin
               refine wpList_append_any _ rfl (.tmp 5) (.tmp 6) _ rfl w.heap.size 64 i0 _ 3 24 Try.underlying51 hi hz0 hz1 hz2 rfl (by omega) (.slice (some ⟨w.heap.size, 0, none⟩) 0 0) 0 [] rfl
                 (World.ownsRow_made w #[] 0 (Nat.le_refl _) (Nat.zero_le _) rfl) w.heap.size (some ad) n c xs rfl HR.out H1.out (by have := HM.out; omega) (by have := HN.out; omega) (by simp) ?_
               intro v1 w1 hown1 hg1 hat1)
  go_ret
  refine ⟨v1, rfl, hown1, ((Below.refl _ w).alloc (Nat.le_refl _) _).grown hg1 (by simp) (fun k hk => ?_)⟩
  rcases hat1 with e | e <;> simp [Value.ownBlock] at hk <;> omega
theorem cloneSend_nil (n c : Nat) (w : World) :
    Calls Try.prog 88 #[.slice none n c] w fun e w' => e = .returned (.slice none 0 0) ∧ w = w' := by
  have kn := fun (w : World) (a : Option Addr) (n c : Nat) => eql_nil (P := Try.prog) w 51 64 a n c Try.underlying51
  go_enter Try.func88, Try.ntmps88
  go_wp2
  go_ret
  exact ⟨rfl, rfl⟩
/-- slices.Clone: a row of the call's own with the same cells. -/
theorem cloneSend_c (A : Option Addr) (n c : Nat) (xs : List Value) (w : World) (h : Reads w w.heap.size 3 A n xs) (h1 : ∀ u ∈ xs, u.oneCell' = true) (hn : n * 24 ≤ 140737488355328) :
    Calls Try.prog 88 #[.slice A n c] w fun e w' => ∃ v, e = .returned v ∧ w'.ownsRow w.heap.size 64 3 v n xs ∧ Below w.heap.size w w' := by
  cases A with
  | none =>
    have hn0 : n = 0 := by
      rcases Nat.eq_zero_or_pos n with h0 | h0
      · exact h0
      · obtain ⟨ad, e, _⟩ := h.2 h0
        cases e
    subst hn0
    have hx : xs = [] := List.eq_nil_of_length_eq_zero (by simpa using h.1)
    subst hx
    refine (cloneSend_nil 0 c w).mono ?_
    rintro e w' ⟨rfl, rfl⟩
    exact ⟨_, rfl, World.ownsRow_nil _ _ _ _, Below.refl _ _⟩
  | some ad =>
    have hm : n ≤ maxLen := by unfold maxLen; omega
    refine (cloneSend_some ad n c xs w h h1 hn hm).mono ?_
    rintro e w' ⟨v, rfl, ho, hb⟩
    exact ⟨v, rfl, by simpa using ho, hb⟩

end Go.Proofs.Ytmljmabbopkpiaa
end

section
/- the machine of instr: an event is sent (400 s). -/
namespace Go.Proofs.Ytmljmabbopkpiaa
open Go.RowKit
open BigFrame
set_option linter.unusedVariables false
set_option linter.unusedSimpArgs false
attribute [local go_sem ↓] Go.wp_at_zero Go.wp_at_succ
set_option maxRecDepth 100000 in
set_option maxHeartbeats 1000000 in
theorem ra_m (w : World) (g : Nat) (s : St) (v : Envi) (i : Ins) (C S : Value) (h : MB w g s v i C S) (h0 : 0 ≤ i.a) (h8 : i.a < 8) :
    Calls Try.prog 169 #[.pointer (some ⟨g, 0, none⟩)] w fun e w' => e = .returned (.int .i64 (s.regs i.a.toNat)) ∧ ∃ n, w' = w.drewN n := by
  have hb : w.cell? ⟨g, 19, none⟩ = some (.int .u8 i.a) := Blk.cell h 19
  have hr : w.cell? ⟨g, 2 + i.a.toNat, none⟩ = some (.int .i64 (s.regs i.a.toNat)) := by rw [Blk.cell h]; exact mcells_reg s v i C S _ (by omega)
  clear h
  go_enter Try.func169, Try.ntmps169
  go_wp2_with go_quiet (fail)
  go_ret
  exact ⟨rfl, _, rfl⟩
set_option maxRecDepth 100000 in
set_option maxHeartbeats 1000000 in
theorem rb_m (w : World) (g : Nat) (s : St) (v : Envi) (i : Ins) (C S : Value) (h : MB w g s v i C S) (h0 : 0 ≤ i.b) (h8 : i.b < 8) :
    Calls Try.prog 167 #[.pointer (some ⟨g, 0, none⟩)] w fun e w' => e = .returned (.int .i64 (s.regs i.b.toNat)) ∧ ∃ n, w' = w.drewN n := by
  have hb : w.cell? ⟨g, 20, none⟩ = some (.int .u8 i.b) := Blk.cell h 20
  have hr : w.cell? ⟨g, 2 + i.b.toNat, none⟩ = some (.int .i64 (s.regs i.b.toNat)) := by rw [Blk.cell h]; exact mcells_reg s v i C S _ (by omega)
  clear h
  go_enter Try.func167, Try.ntmps167
  go_wp2_with go_quiet (fail)
  go_ret
  exact ⟨rfl, _, rfl⟩
theorem mb_drewN {w : World} {g : Nat} {s : St} {v : Envi} {i : Ins} {C S : Value} (h : MB w g s v i C S) (n : Nat) : MB (w.drewN n) g s v i C S := h
theorem mb_drew {w : World} {g : Nat} {s : St} {v : Envi} {i : Ins} {C S : Value} (h : MB w g s v i C S) : MB w.drew g s v i C S := h
theorem mb_alloc {w : World} {g : Nat} {s : St} {v : Envi} {i : Ins} {C S : Value} (h : MB w g s v i C S) (o : Obj) : MB (w.alloc o) g s v i C S := Blk.alloc h o
theorem reads_new3 (X : World) (t : TypeId) (a b c : Value) (gg : Nat) (h : gg = X.heap.size) : Reads (X.alloc (.cells #[a, b, c] t)) (gg + 1) 3 (some ⟨gg, 0, none⟩) 1 [a, b, c] := by
  subst h
  refine ⟨rfl, fun _ => ⟨_, rfl, Nat.lt_succ_self _, fun j u hu => ?_⟩⟩
  rw [Addr.add_lit, cell_of_row _ _ _ _ _ _ (heap_alloc_new X _), Nat.zero_add]
  simpa using hu
section
variable {w w' : World} {base g : Nat} {s : St} {v : Envi} {i : Ins} {C S : Value} {x : Value}
theorem sM (x : Value) (h : Mac w base g s v i C S ∧ w.cell? ⟨g, 12, none⟩ = some S ∧ w.cell? ⟨g, 22, none⟩ = some x) : Mac w base g s v i C S := h.1
theorem after_app {row : Option Nat} (hg : w.grownBy w' row) (h : Mac w base g s v i C S ∧ w.cell? ⟨g, 12, none⟩ = some S ∧ w.cell? ⟨g, 22, none⟩ = some x) (hn : some g ≠ row) : w'.cell? ⟨g, 12, none⟩ = some S ∧ w'.frozen? ⟨g, 12, none⟩ = false :=
  ⟨(hg.cell_far ⟨g, 12, none⟩ h.1.blk.lt hn).trans h.2.1, (hg.frozen_far ⟨g, 12, none⟩ h.1.blk.lt hn).trans (h.1.blk.frozen 12)⟩
theorem sE (h : Mac w base g s v i C S ∧ w.cell? ⟨g, 12, none⟩ = some S ∧ w.cell? ⟨g, 22, none⟩ = some x) : Mac w.drew base g s v i C S ∧ w.drew.cell? ⟨g, 12, none⟩ = some S ∧ w.drew.cell? ⟨g, 22, none⟩ = some x := ⟨h.1.drew, h.2⟩
theorem sN (h : Mac w base g s v i C S ∧ w.cell? ⟨g, 12, none⟩ = some S ∧ w.cell? ⟨g, 22, none⟩ = some x) (n : Nat) : Mac (w.drewN n) base g s v i C S ∧ (w.drewN n).cell? ⟨g, 12, none⟩ = some S ∧ (w.drewN n).cell? ⟨g, 22, none⟩ = some x := ⟨h.1.drewN n, h.2⟩
theorem sA (h : Mac w base g s v i C S ∧ w.cell? ⟨g, 12, none⟩ = some S ∧ w.cell? ⟨g, 22, none⟩ = some x) (o : Obj) : Mac (w.alloc o) base g s v i C S ∧ (w.alloc o).cell? ⟨g, 12, none⟩ = some S ∧ (w.alloc o).cell? ⟨g, 22, none⟩ = some x :=
  ⟨h.1.alloc o, by rw [World.cell?_alloc_lt w o _ h.1.blk.lt]; exact h.2.1, by rw [World.cell?_alloc_lt w o _ h.1.blk.lt]; exact h.2.2⟩
end
theorem own_base {w : World} {base : Nat} {e : TypeId} {size : Nat} {v : Value} {n : Nat} {xs : List Value} (h : w.ownsRow base e size v n xs) : ∀ k, v.ownBlock = some k → base ≤ k := by
  intro k hk
  rcases h.2 with ⟨rfl, _⟩ | ⟨g, cap, cur, rfl, hb, _⟩
  · simp [Value.ownBlock] at hk
  · simp [Value.ownBlock] at hk; omega
theorem own_own_ne {w : World} {b1 b2 : Nat} {e1 e2 : TypeId} {z1 z2 : Nat} {v1 v2 : Value} {n1 n2 : Nat} {xs1 xs2 : List Value} (h1 : w.ownsRow b1 e1 z1 v1 n1 xs1) (h2 : w.ownsRow b2 e2 z2 v2 n2 xs2) (hne : e1 ≠ e2) : ∀ k, v1.ownBlock = some k → v2.ownBlock ≠ some k := by
  intro k hk
  rcases h1.2 with ⟨rfl, _⟩ | ⟨g, cap, cur, rfl, _, hh, _⟩
  · simp [Value.ownBlock] at hk
  · have e : g = k := by simpa [Value.ownBlock] using hk
    rw [← e]
    exact own_blk_ne (t := e1) h2 hh (Ne.symm hne)
theorem sent {X w4 : World} {base g : Nat} {s : St} {v : Envi} {i : Ins} {C S S4 : Value} {y : Snd} (hX : Mac X base g s v i C S) (hg : X.grownBy w4 S.ownBlock)
    (ho : w4.ownsRow base 64 3 S4 (s.sends.length + 1) (sndsV s.sends ++ y.cells)) :
    Mac (w4.setCell ⟨g, 12, none⟩ S4) base g { s with sends := s.sends ++ [y] } v i C S4 ∧ Below base X (w4.setCell ⟨g, 12, none⟩ S4) := by
  have hb4 : MB w4 g s v i C S := Blk.grown hX.blk hg (fun e => own_blk_ne hX.os hX.blk (by decide) e.symm)
  have hoc4 : w4.ownsRow base 2 1 C s.cells.length (int64s s.cells) := ownsRow_keep hX.oc fun k hk hlt => hg.block k hlt (fun e => own_own_ne hX.oc hX.os (by decide) k hk e.symm)
  refine ⟨⟨hX.hg, ?_, ?_, ?_⟩, ?_⟩
  · exact Blk.set_ hb4 12 S4
  · exact ownsRow_keep hoc4 fun j hj _ => Below.heap_setCell _ _ _ _ (fun e => own_blk_ne hoc4 hb4 (by decide) (by rw [hj, e]))
  · have := ownsRow_keep (w' := w4.setCell ⟨g, 12, none⟩ S4) ho fun j hj _ => Below.heap_setCell _ _ _ _ (fun e => own_blk_ne ho hb4 (by decide) (by rw [hj, e]))
    simpa [sndsV] using this
  · exact ((Below.refl base X).grown hg hX.lt (own_base hX.os)).setCell hX.hg S4
set_option maxRecDepth 100000 in
set_option maxHeartbeats 2000000 in
theorem send_ok (w : World) (base g : Nat) (s : St) (v : Envi) (i : Ins) (C S : Value) (h : Mac w base g s v i C S) (h0 : 0 ≤ i.a) (h8 : i.a < 8) (b0 : 0 ≤ i.b) (b8 : i.b < 8) (a0 : 0 ≤ s.at_) (a1 : s.at_ ≤ 256) (hp : i.n < v.ports) (hd : v.look ≤ s.regs i.a.toNat)
    (t0 : 0 ≤ v.now) (t1 : v.now ≤ 281474976710656) (ht : s.regs i.a.toNat ≤ 281474976710656 - v.now) (hf : s.sends.length < 256) :
    Calls Try.prog 139 #[.pointer (some ⟨g, 0, none⟩)] w fun e w' => e = .returned (.int .i64 0) ∧
      (∃ S', Mac w' base g { s with at_ := s.at_ + 1, sends := s.sends ++ [⟨i.n, s.regs i.a.toNat, s.regs i.b.toNat⟩] } v i C S') ∧ Below base w w' := by
  have H := Lib.hid h
  have r22 : w.cell? ⟨g, 22, none⟩ = some (.int .i64 i.n) := h.blk.cell 22
  have r15 : w.cell? ⟨g, 15, none⟩ = some (.int .i64 v.ports) := h.blk.cell 15
  have r16 : w.cell? ⟨g, 16, none⟩ = some (.int .i64 v.look) := h.blk.cell 16
  have r17 : w.cell? ⟨g, 17, none⟩ = some (.int .i64 v.now) := h.blk.cell 17
  have r12 : w.cell? ⟨g, 12, none⟩ = some S := h.blk.cell 12
  obtain ⟨A, c, rfl⟩ := own_slice h.os
  clear h
  go_enter Try.func139, Try.ntmps139
  go_wp2_with go_quiet (fail)
  go_quiet ((go_at_call 169; exact qadd (ra_c _ base g s v i C _ (H.out.drewN _) h0 h8)))
  go_wp2
  go_quiet ((go_at_call 169; exact qadd (ra_c _ base g s v i C _ (H.out.drewN _) h0 h8)))
  go_wp2
  rename_i n1 h1 n2 h2 n3 h3 k1 k2
  obtain ⟨w1, hw1⟩ : ∃ w1, w1 = w.drewN (n1 + n2 + nq) := ⟨_, rfl⟩
  rw [← hw1]
  have hB1 : Below base w w1 := hw1 ▸ below_drewNm (Below.refl _ w) _
  have hs1 : Mac w1 base g s v i C (.slice A s.sends.length c) ∧ w1.cell? ⟨g, 12, none⟩ = some (.slice A s.sends.length c) ∧ w1.cell? ⟨g, 22, none⟩ = some (.int .i64 i.n) := hw1 ▸ ⟨H.out.drewN _, r12, r22⟩
  obtain ⟨iS, hi, hz0, hz1, hz2⟩ := info_parts infoSend
  have hbw := hs1.1.lt
  have hones : ∀ u ∈ [Value.int .i64 i.n, .int .i64 (s.regs i.a.toNat), .int .i64 (s.regs i.b.toNat)], u.oneCell' = true := by
    intro u hu; simp at hu; rcases hu with rfl | rfl | rfl <;> rfl
  have hml : s.sends.length + 1 ≤ maxLen := by unfold maxLen; omega
  clear r12 r22 r15 r16 r17 hw1 h1 h2 h3
  have c12 := hs1.2.1
  have c22 := hs1.2.2
  have hlt1 := hs1.1.blk.lt
  have hng : some g ≠ Value.ownBlock (.slice A s.sends.length c) := fun e => own_blk_ne hs1.1.os hs1.1.blk (by decide) e.symm
  obtain ⟨O, hO⟩ : ∃ O : Obj, O = (.cells #[.int .i64 i.n, .int .i64 (s.regs i.a.toNat), .int .i64 (s.regs i.b.toNat)] 64) := ⟨_, rfl⟩
  have hown4 : ∀ n, ((w1.drewN n).alloc (.cells #[.int .i64 i.n, .int .i64 (s.regs i.a.toNat), .int .i64 (s.regs i.b.toNat)] 64)).ownsRow base 64 3 (.slice A s.sends.length c) s.sends.length (sndsV s.sends) := fun n => ((hs1.1.drewN n).alloc _).os
  have hrd4 : ∀ n, Reads ((w1.drewN n).alloc (.cells #[.int .i64 i.n, .int .i64 (s.regs i.a.toNat), .int .i64 (s.regs i.b.toNat)] 64)) (w1.heap.size + 1) 3 (some ⟨w1.heap.size, 0, none⟩) 1 [.int .i64 i.n, .int .i64 (s.regs i.a.toNat), .int .i64 (s.regs i.b.toNat)] := fun n => reads_new3 _ _ _ _ _ _ (by simp)
  have hbs4 : ∀ n, base ≤ ((w1.drewN n).alloc (.cells #[.int .i64 i.n, .int .i64 (s.regs i.a.toNat), .int .i64 (s.regs i.b.toNat)] 64)).heap.size := fun n => by simp; omega
  have hby4 : (s.sends.length + 1) * 24 ≤ 140737488355328 := by omega
  have hts4 := fun n => sA (sN hs1 n) (.cells #[.int .i64 i.n, .int .i64 (s.regs i.a.toNat), .int .i64 (s.regs i.b.toNat)] 64)
  have U4 := Lib.hid Try.underlying51
  have Q4 := Lib.hid (And.intro hown4 (And.intro hrd4 (And.intro hbs4 hts4)))
  have hx1 := fun n => (hts4 n).2.1
  have hx2 := fun n => (hts4 n).2.2
  have hne1 : ¬ g = w1.heap.size := by omega
  have hne2 : ¬ w1.heap.size = g := by omega
  clear hown4 hrd4 hbs4 hts4 hO
  have hXb : ∀ n, Below base w ((w1.drewN n).alloc (.cells #[.int .i64 i.n, .int .i64 (s.regs i.a.toNat), .int .i64 (s.regs i.b.toNat)] 64)) := fun n => (below_drewNm hB1 n).alloc hbw _
  have HXB := Lib.hid hXb
  clear hXb
  go_upto_region 9 with fail
  go_cut [59] (fun p W => ∃ S', Mac W base g { s with sends := s.sends ++ [⟨i.n, s.regs i.a.toNat, s.regs i.b.toNat⟩] } v i C S' ∧ Below base w W)
  case first =>
    go_region_law (first
        | (go_simp; go_at_call 169; refine (ra_c _ base g s v i C (.slice A s.sends.length c) (sM (.int .i64 i.n) ?_) h0 h8).mono ?_; (focus (repeat' (first | assumption | refine sE ?_ | refine sN ?_ _ | refine sA ?_ _))); rintro e w3 ⟨rfl, n4, rfl⟩)
        | (go_simp; go_at_call 167; refine (rb_c _ base g s v i C (.slice A s.sends.length c) (sM (.int .i64 i.n) ?_) b0 b8).mono ?_; (focus (repeat' (first | assumption | refine sE ?_ | refine sN ?_ _ | refine sA ?_ _))); rintro e w3 ⟨rfl, n5, rfl⟩)
        | (refine step_append_any _ (by rfl) (.tmp 47) (.tmp 58) 51 (by rfl) base 64 iS _ 3 24 U4.out hi hz0 hz1 hz2 rfl (by omega) (.slice A s.sends.length c) s.sends.length (sndsV s.sends) (by rfl)
            (Q4.out.1 _) (w1.heap.size + 1) (some ⟨w1.heap.size, 0, none⟩) 1 1 [.int .i64 i.n, .int .i64 (s.regs i.a.toNat), .int .i64 (s.regs i.b.toNat)] (by rfl) (Q4.out.2.1 _) hones hml hby4 (Q4.out.2.2.1 _) ?_
           intro v1 w4 hown1 hg1 hat1
           obtain ⟨hc4, hf4⟩ := after_app hg1 (Q4.out.2.2.2 _) hng
           obtain ⟨A4, k4, rfl⟩ := own_slice hown1))
    all_goals (go_wp2_with fail; go_meet)
    all_goals (have hst := sent (y := ⟨i.n, s.regs i.a.toNat, s.regs i.b.toNat⟩) (Q4.out.2.2.2 _).1 hg1 hown1; exact ⟨_, hst.1, (HXB.out _).trans hst.2⟩)
  case rest =>
    obtain ⟨S', hm, hb⟩ := hcut
    have ha : wc.cell? ⟨g, 0, none⟩ = some (.int .i64 s.at_) := hm.blk.cell 0
    have hf : wc.frozen? ⟨g, 0, none⟩ = false := hm.blk.frozen 0
    have hm2 := hm.set_ 0 (.int .i64 (s.at_ + 1)) { s with at_ := s.at_ + 1, sends := s.sends ++ [⟨i.n, s.regs i.a.toNat, s.regs i.b.toNat⟩] } i rfl rfl rfl
    have H2 := Lib.hid (And.intro hm2 (hb.setCell (p := ⟨g, 0, none⟩) hm.hg (.int .i64 (s.at_ + 1))))
    clear hm hb hm2 Q4 HXB
    go_wp2
    go_ret
    exact ⟨rfl, ⟨S', H2.out.1⟩, H2.out.2⟩
end Go.Proofs.Ytmljmabbopkpiaa
end

section
/- instr.machine.do, step . -/
namespace Go.Proofs.Ytmljmabbopkpiaa
open Go.RowKit
open BigFrame
set_option linter.unusedVariables false
set_option linter.unusedSimpArgs false

/-- what one instruction does: the state, and the error -/
def sendE (s : St) (v : Envi) (i : Ins) : Int :=
  if v.ports ≤ i.n then 188 else if s.regs i.a.toNat < v.look then 189 else if 281474976710656 - v.now < s.regs i.a.toNat then 1800 else if 256 ≤ s.sends.length then 1801 else 0
def doE (s : St) (v : Envi) (i : Ins) : Int :=
  if i.op = 2 then 184
  else if i.op = 5 ∨ i.op = 6 then (if s.regs i.b.toNat < 0 ∨ (s.cells.length : Int) ≤ s.regs i.b.toNat then 185 else 0)
  else if i.op = 7 then (if s.regs i.b.toNat < 1 then 186 else if s.draws = 1099511627776 then 187 else 0)
  else if i.op = 8 then sendE s v i
  else if i.op < 32 then 0
  else wrongE (i.op - 32) (s.regs i.c.toNat)
def doS (s : St) (v : Envi) (i : Ins) : St :=
  if doE s v i ≠ 0 then s
  else if i.op = 1 then { s with ended := true }
  else if i.op = 3 then s.put i.a.toNat i.n
  else if i.op = 4 then s.put i.a.toNat (s.regs i.b.toNat)
  else if i.op = 5 then s.put i.a.toNat (s.cells.getD (s.regs i.b.toNat).toNat 0)
  else if i.op = 6 then { s with cells := s.cells.set (s.regs i.b.toNat).toNat (s.regs i.a.toNat), at_ := s.at_ + 1 }
  else if i.op = 7 then { s.put i.a.toNat (drawI v.seed v.process s.draws (s.regs i.b.toNat)) with draws := s.draws + 1 }
  else if i.op = 8 then { s with at_ := s.at_ + 1, sends := s.sends ++ [⟨i.n, s.regs i.a.toNat, s.regs i.b.toNat⟩] }
  else if i.op = 9 then { s with at_ := i.n }
  else if i.op = 10 then { s with at_ := if s.regs i.a.toNat = 0 then i.n else s.at_ + 1 }
  else if i.op = 11 then { s with at_ := if s.regs i.a.toNat < 0 then i.n else s.at_ + 1 }
  else s.put i.a.toNat (applyV (i.op - 32) (s.regs i.b.toNat) (s.regs i.c.toNat))

theorem kind_0 (w : World) : (Instr.index 236 (Value.agg #[Value.int IntKind.u8 1, Value.func (Fn.func 132) #[] #[], Value.int IntKind.u8 2, Value.func (Fn.func 133) #[] #[], Value.int IntKind.u8 3, Value.func (Fn.func 134) #[] #[], Value.int IntKind.u8 4, Value.func (Fn.func 135) #[] #[], Value.int IntKind.u8 5, Value.func (Fn.func 136) #[] #[], Value.int IntKind.u8 6, Value.func (Fn.func 137) #[] #[], Value.int IntKind.u8 7, Value.func (Fn.func 138) #[] #[], Value.int IntKind.u8 8, Value.func (Fn.func 139) #[] #[], Value.int IntKind.u8 9, Value.func (Fn.func 140) #[] #[], Value.int IntKind.u8 10, Value.func (Fn.func 141) #[] #[], Value.int IntKind.u8 11, Value.func (Fn.func 142) #[] #[]]) (.int .i64 0)).run Try.prog w = .ok (.agg #[Value.int IntKind.u8 1, Value.func (Fn.func 132) #[] #[]]) w := by kernel_rfl
theorem kind_1 (w : World) : (Instr.index 236 (Value.agg #[Value.int IntKind.u8 1, Value.func (Fn.func 132) #[] #[], Value.int IntKind.u8 2, Value.func (Fn.func 133) #[] #[], Value.int IntKind.u8 3, Value.func (Fn.func 134) #[] #[], Value.int IntKind.u8 4, Value.func (Fn.func 135) #[] #[], Value.int IntKind.u8 5, Value.func (Fn.func 136) #[] #[], Value.int IntKind.u8 6, Value.func (Fn.func 137) #[] #[], Value.int IntKind.u8 7, Value.func (Fn.func 138) #[] #[], Value.int IntKind.u8 8, Value.func (Fn.func 139) #[] #[], Value.int IntKind.u8 9, Value.func (Fn.func 140) #[] #[], Value.int IntKind.u8 10, Value.func (Fn.func 141) #[] #[], Value.int IntKind.u8 11, Value.func (Fn.func 142) #[] #[]]) (.int .i64 1)).run Try.prog w = .ok (.agg #[Value.int IntKind.u8 2, Value.func (Fn.func 133) #[] #[]]) w := by kernel_rfl
theorem kind_2 (w : World) : (Instr.index 236 (Value.agg #[Value.int IntKind.u8 1, Value.func (Fn.func 132) #[] #[], Value.int IntKind.u8 2, Value.func (Fn.func 133) #[] #[], Value.int IntKind.u8 3, Value.func (Fn.func 134) #[] #[], Value.int IntKind.u8 4, Value.func (Fn.func 135) #[] #[], Value.int IntKind.u8 5, Value.func (Fn.func 136) #[] #[], Value.int IntKind.u8 6, Value.func (Fn.func 137) #[] #[], Value.int IntKind.u8 7, Value.func (Fn.func 138) #[] #[], Value.int IntKind.u8 8, Value.func (Fn.func 139) #[] #[], Value.int IntKind.u8 9, Value.func (Fn.func 140) #[] #[], Value.int IntKind.u8 10, Value.func (Fn.func 141) #[] #[], Value.int IntKind.u8 11, Value.func (Fn.func 142) #[] #[]]) (.int .i64 2)).run Try.prog w = .ok (.agg #[Value.int IntKind.u8 3, Value.func (Fn.func 134) #[] #[]]) w := by kernel_rfl
theorem kind_3 (w : World) : (Instr.index 236 (Value.agg #[Value.int IntKind.u8 1, Value.func (Fn.func 132) #[] #[], Value.int IntKind.u8 2, Value.func (Fn.func 133) #[] #[], Value.int IntKind.u8 3, Value.func (Fn.func 134) #[] #[], Value.int IntKind.u8 4, Value.func (Fn.func 135) #[] #[], Value.int IntKind.u8 5, Value.func (Fn.func 136) #[] #[], Value.int IntKind.u8 6, Value.func (Fn.func 137) #[] #[], Value.int IntKind.u8 7, Value.func (Fn.func 138) #[] #[], Value.int IntKind.u8 8, Value.func (Fn.func 139) #[] #[], Value.int IntKind.u8 9, Value.func (Fn.func 140) #[] #[], Value.int IntKind.u8 10, Value.func (Fn.func 141) #[] #[], Value.int IntKind.u8 11, Value.func (Fn.func 142) #[] #[]]) (.int .i64 3)).run Try.prog w = .ok (.agg #[Value.int IntKind.u8 4, Value.func (Fn.func 135) #[] #[]]) w := by kernel_rfl
theorem kind_4 (w : World) : (Instr.index 236 (Value.agg #[Value.int IntKind.u8 1, Value.func (Fn.func 132) #[] #[], Value.int IntKind.u8 2, Value.func (Fn.func 133) #[] #[], Value.int IntKind.u8 3, Value.func (Fn.func 134) #[] #[], Value.int IntKind.u8 4, Value.func (Fn.func 135) #[] #[], Value.int IntKind.u8 5, Value.func (Fn.func 136) #[] #[], Value.int IntKind.u8 6, Value.func (Fn.func 137) #[] #[], Value.int IntKind.u8 7, Value.func (Fn.func 138) #[] #[], Value.int IntKind.u8 8, Value.func (Fn.func 139) #[] #[], Value.int IntKind.u8 9, Value.func (Fn.func 140) #[] #[], Value.int IntKind.u8 10, Value.func (Fn.func 141) #[] #[], Value.int IntKind.u8 11, Value.func (Fn.func 142) #[] #[]]) (.int .i64 4)).run Try.prog w = .ok (.agg #[Value.int IntKind.u8 5, Value.func (Fn.func 136) #[] #[]]) w := by kernel_rfl
theorem kind_5 (w : World) : (Instr.index 236 (Value.agg #[Value.int IntKind.u8 1, Value.func (Fn.func 132) #[] #[], Value.int IntKind.u8 2, Value.func (Fn.func 133) #[] #[], Value.int IntKind.u8 3, Value.func (Fn.func 134) #[] #[], Value.int IntKind.u8 4, Value.func (Fn.func 135) #[] #[], Value.int IntKind.u8 5, Value.func (Fn.func 136) #[] #[], Value.int IntKind.u8 6, Value.func (Fn.func 137) #[] #[], Value.int IntKind.u8 7, Value.func (Fn.func 138) #[] #[], Value.int IntKind.u8 8, Value.func (Fn.func 139) #[] #[], Value.int IntKind.u8 9, Value.func (Fn.func 140) #[] #[], Value.int IntKind.u8 10, Value.func (Fn.func 141) #[] #[], Value.int IntKind.u8 11, Value.func (Fn.func 142) #[] #[]]) (.int .i64 5)).run Try.prog w = .ok (.agg #[Value.int IntKind.u8 6, Value.func (Fn.func 137) #[] #[]]) w := by kernel_rfl
theorem kind_6 (w : World) : (Instr.index 236 (Value.agg #[Value.int IntKind.u8 1, Value.func (Fn.func 132) #[] #[], Value.int IntKind.u8 2, Value.func (Fn.func 133) #[] #[], Value.int IntKind.u8 3, Value.func (Fn.func 134) #[] #[], Value.int IntKind.u8 4, Value.func (Fn.func 135) #[] #[], Value.int IntKind.u8 5, Value.func (Fn.func 136) #[] #[], Value.int IntKind.u8 6, Value.func (Fn.func 137) #[] #[], Value.int IntKind.u8 7, Value.func (Fn.func 138) #[] #[], Value.int IntKind.u8 8, Value.func (Fn.func 139) #[] #[], Value.int IntKind.u8 9, Value.func (Fn.func 140) #[] #[], Value.int IntKind.u8 10, Value.func (Fn.func 141) #[] #[], Value.int IntKind.u8 11, Value.func (Fn.func 142) #[] #[]]) (.int .i64 6)).run Try.prog w = .ok (.agg #[Value.int IntKind.u8 7, Value.func (Fn.func 138) #[] #[]]) w := by kernel_rfl
theorem kind_7 (w : World) : (Instr.index 236 (Value.agg #[Value.int IntKind.u8 1, Value.func (Fn.func 132) #[] #[], Value.int IntKind.u8 2, Value.func (Fn.func 133) #[] #[], Value.int IntKind.u8 3, Value.func (Fn.func 134) #[] #[], Value.int IntKind.u8 4, Value.func (Fn.func 135) #[] #[], Value.int IntKind.u8 5, Value.func (Fn.func 136) #[] #[], Value.int IntKind.u8 6, Value.func (Fn.func 137) #[] #[], Value.int IntKind.u8 7, Value.func (Fn.func 138) #[] #[], Value.int IntKind.u8 8, Value.func (Fn.func 139) #[] #[], Value.int IntKind.u8 9, Value.func (Fn.func 140) #[] #[], Value.int IntKind.u8 10, Value.func (Fn.func 141) #[] #[], Value.int IntKind.u8 11, Value.func (Fn.func 142) #[] #[]]) (.int .i64 7)).run Try.prog w = .ok (.agg #[Value.int IntKind.u8 8, Value.func (Fn.func 139) #[] #[]]) w := by kernel_rfl
theorem kind_8 (w : World) : (Instr.index 236 (Value.agg #[Value.int IntKind.u8 1, Value.func (Fn.func 132) #[] #[], Value.int IntKind.u8 2, Value.func (Fn.func 133) #[] #[], Value.int IntKind.u8 3, Value.func (Fn.func 134) #[] #[], Value.int IntKind.u8 4, Value.func (Fn.func 135) #[] #[], Value.int IntKind.u8 5, Value.func (Fn.func 136) #[] #[], Value.int IntKind.u8 6, Value.func (Fn.func 137) #[] #[], Value.int IntKind.u8 7, Value.func (Fn.func 138) #[] #[], Value.int IntKind.u8 8, Value.func (Fn.func 139) #[] #[], Value.int IntKind.u8 9, Value.func (Fn.func 140) #[] #[], Value.int IntKind.u8 10, Value.func (Fn.func 141) #[] #[], Value.int IntKind.u8 11, Value.func (Fn.func 142) #[] #[]]) (.int .i64 8)).run Try.prog w = .ok (.agg #[Value.int IntKind.u8 9, Value.func (Fn.func 140) #[] #[]]) w := by kernel_rfl
theorem kind_9 (w : World) : (Instr.index 236 (Value.agg #[Value.int IntKind.u8 1, Value.func (Fn.func 132) #[] #[], Value.int IntKind.u8 2, Value.func (Fn.func 133) #[] #[], Value.int IntKind.u8 3, Value.func (Fn.func 134) #[] #[], Value.int IntKind.u8 4, Value.func (Fn.func 135) #[] #[], Value.int IntKind.u8 5, Value.func (Fn.func 136) #[] #[], Value.int IntKind.u8 6, Value.func (Fn.func 137) #[] #[], Value.int IntKind.u8 7, Value.func (Fn.func 138) #[] #[], Value.int IntKind.u8 8, Value.func (Fn.func 139) #[] #[], Value.int IntKind.u8 9, Value.func (Fn.func 140) #[] #[], Value.int IntKind.u8 10, Value.func (Fn.func 141) #[] #[], Value.int IntKind.u8 11, Value.func (Fn.func 142) #[] #[]]) (.int .i64 9)).run Try.prog w = .ok (.agg #[Value.int IntKind.u8 10, Value.func (Fn.func 141) #[] #[]]) w := by kernel_rfl
theorem kind_10 (w : World) : (Instr.index 236 (Value.agg #[Value.int IntKind.u8 1, Value.func (Fn.func 132) #[] #[], Value.int IntKind.u8 2, Value.func (Fn.func 133) #[] #[], Value.int IntKind.u8 3, Value.func (Fn.func 134) #[] #[], Value.int IntKind.u8 4, Value.func (Fn.func 135) #[] #[], Value.int IntKind.u8 5, Value.func (Fn.func 136) #[] #[], Value.int IntKind.u8 6, Value.func (Fn.func 137) #[] #[], Value.int IntKind.u8 7, Value.func (Fn.func 138) #[] #[], Value.int IntKind.u8 8, Value.func (Fn.func 139) #[] #[], Value.int IntKind.u8 9, Value.func (Fn.func 140) #[] #[], Value.int IntKind.u8 10, Value.func (Fn.func 141) #[] #[], Value.int IntKind.u8 11, Value.func (Fn.func 142) #[] #[]]) (.int .i64 10)).run Try.prog w = .ok (.agg #[Value.int IntKind.u8 11, Value.func (Fn.func 142) #[] #[]]) w := by kernel_rfl

set_option maxRecDepth 100000 in
set_option maxHeartbeats 4000000 in
theorem do_walk (w : World) (g : Nat) (op E : Int) (R : World → Prop) (hlt : g < w.heap.size) (r18 : w.cell? ⟨g, 18, none⟩ = some (.int .u8 op))
    (h0 : op = 1 → ∀ W, Below w.heap.size w W → Calls Try.prog 132 #[.pointer (some ⟨g, 0, none⟩)] W fun e w' => e = .returned (.int .i64 E) ∧ R w')
    (h1 : op = 2 → ∀ W, Below w.heap.size w W → Calls Try.prog 133 #[.pointer (some ⟨g, 0, none⟩)] W fun e w' => e = .returned (.int .i64 E) ∧ R w')
    (h2 : op = 3 → ∀ W, Below w.heap.size w W → Calls Try.prog 134 #[.pointer (some ⟨g, 0, none⟩)] W fun e w' => e = .returned (.int .i64 E) ∧ R w')
    (h3 : op = 4 → ∀ W, Below w.heap.size w W → Calls Try.prog 135 #[.pointer (some ⟨g, 0, none⟩)] W fun e w' => e = .returned (.int .i64 E) ∧ R w')
    (h4 : op = 5 → ∀ W, Below w.heap.size w W → Calls Try.prog 136 #[.pointer (some ⟨g, 0, none⟩)] W fun e w' => e = .returned (.int .i64 E) ∧ R w')
    (h5 : op = 6 → ∀ W, Below w.heap.size w W → Calls Try.prog 137 #[.pointer (some ⟨g, 0, none⟩)] W fun e w' => e = .returned (.int .i64 E) ∧ R w')
    (h6 : op = 7 → ∀ W, Below w.heap.size w W → Calls Try.prog 138 #[.pointer (some ⟨g, 0, none⟩)] W fun e w' => e = .returned (.int .i64 E) ∧ R w')
    (h7 : op = 8 → ∀ W, Below w.heap.size w W → Calls Try.prog 139 #[.pointer (some ⟨g, 0, none⟩)] W fun e w' => e = .returned (.int .i64 E) ∧ R w')
    (h8 : op = 9 → ∀ W, Below w.heap.size w W → Calls Try.prog 140 #[.pointer (some ⟨g, 0, none⟩)] W fun e w' => e = .returned (.int .i64 E) ∧ R w')
    (h9 : op = 10 → ∀ W, Below w.heap.size w W → Calls Try.prog 141 #[.pointer (some ⟨g, 0, none⟩)] W fun e w' => e = .returned (.int .i64 E) ∧ R w')
    (h10 : op = 11 → ∀ W, Below w.heap.size w W → Calls Try.prog 142 #[.pointer (some ⟨g, 0, none⟩)] W fun e w' => e = .returned (.int .i64 E) ∧ R w')
    (hw : (∀ k : Nat, k < 11 → op ≠ k + 1) → ∀ W, Below w.heap.size w W → Calls Try.prog 143 #[.pointer (some ⟨g, 0, none⟩)] W fun e w' => e = .returned (.int .i64 E) ∧ R w') :
    Calls Try.prog 111 #[.pointer (some ⟨g, 0, none⟩)] w fun e w' => e = .returned (.int .i64 E) ∧ R w' := by
  have H0 := Lib.hid h0
  have H1 := Lib.hid h1
  have H2 := Lib.hid h2
  have H3 := Lib.hid h3
  have H4 := Lib.hid h4
  have H5 := Lib.hid h5
  have H6 := Lib.hid h6
  have H7 := Lib.hid h7
  have H8 := Lib.hid h8
  have H9 := Lib.hid h9
  have H10 := Lib.hid h10
  have HW := Lib.hid hw
  clear h0 h1 h2 h3 h4 h5 h6 h7 h8 h9 h10 hw
  have x0 := kind_0
  have x1 := kind_1
  have x2 := kind_2
  have x3 := kind_3
  have x4 := kind_4
  have x5 := kind_5
  have x6 := kind_6
  have x7 := kind_7
  have x8 := kind_8
  have x9 := kind_9
  have x10 := kind_10
  go_enter Try.func111, Try.ntmps111
  go_wp2_with fail
  go_loopw [4, 17] (fun _ k wr => ∃ j : Nat, k = .int .i64 j ∧ j ≤ 11 ∧ (∀ m : Nat, m < j → op ≠ m + 1) ∧ Below w.heap.size w wr) (fun _ k _ => 11 - (intOf k).toNat)
  case atStart => exact ⟨0, rfl, by omega, fun m hm => by omega, Below.refl _ _⟩
  case round =>
    obtain ⟨j, rfl, hj, hno, hb⟩ := hrel
    have HN := Lib.hid hno
    have HB := Lib.hid hb
    have hz := hb.size
    have r18' : wr.cell? ⟨g, 18, none⟩ = some (.int .u8 op) := (hb.cell (p := ⟨g, 18, none⟩) hlt).trans r18
    have r18a : ∀ o, (wr.alloc o).cell? ⟨g, 18, none⟩ = some (.int .u8 op) := fun o => (World.cell?_alloc_lt wr o _ (by show g < _; omega)).trans r18'
    have hne1 : ¬ g = wr.heap.size := by omega
    have hne2 : ¬ wr.heap.size = g := by omega
    clear hno hb
    have hcase : j = 0 ∨ j = 1 ∨ j = 2 ∨ j = 3 ∨ j = 4 ∨ j = 5 ∨ j = 6 ∨ j = 7 ∨ j = 8 ∨ j = 9 ∨ j = 10 ∨ j = 11 := by omega
    rcases hcase with rfl | rfl | rfl | rfl | rfl | rfl | rfl | rfl | rfl | rfl | rfl | rfl
    · by_cases ho : op = 1
      · have hd : ((1 : Int) == op) = true := by rw [ho]; rfl
        have HC := Lib.hid (H0.out ho)
        clear ho
        go_wp2_with go_quiet (fail)
        refine (HC.out _ (below_drewNm (HB.out.alloc hz _) _)).mono ?_
        rintro e w2 ⟨rfl, hR⟩
        go_wp2
        go_ret
        exact ⟨rfl, hR⟩
      · have hd : ((1 : Int) == op) = false := by rw [beq_eq_false_iff_ne]; exact fun e => ho e.symm
        have HO := Lib.hid ho
        clear ho
        go_wp2_with go_quiet (fail)
        go_roundw
        case rel =>
          refine ⟨1, rfl, by omega, fun m hm => ?_, below_drewNm (HB.out.alloc hz _) _⟩
          by_cases hm2 : m = 0
          · subst hm2; exact HO.out
          · exact HN.out m (by omega)
        case measure => simp [intOf]
    · by_cases ho : op = 2
      · have hd : ((2 : Int) == op) = true := by rw [ho]; rfl
        have HC := Lib.hid (H1.out ho)
        clear ho
        go_wp2_with go_quiet (fail)
        refine (HC.out _ (below_drewNm (HB.out.alloc hz _) _)).mono ?_
        rintro e w2 ⟨rfl, hR⟩
        go_wp2
        go_ret
        exact ⟨rfl, hR⟩
      · have hd : ((2 : Int) == op) = false := by rw [beq_eq_false_iff_ne]; exact fun e => ho e.symm
        have HO := Lib.hid ho
        clear ho
        go_wp2_with go_quiet (fail)
        go_roundw
        case rel =>
          refine ⟨2, rfl, by omega, fun m hm => ?_, below_drewNm (HB.out.alloc hz _) _⟩
          by_cases hm2 : m = 1
          · subst hm2; exact HO.out
          · exact HN.out m (by omega)
        case measure => simp [intOf]
    · by_cases ho : op = 3
      · have hd : ((3 : Int) == op) = true := by rw [ho]; rfl
        have HC := Lib.hid (H2.out ho)
        clear ho
        go_wp2_with go_quiet (fail)
        refine (HC.out _ (below_drewNm (HB.out.alloc hz _) _)).mono ?_
        rintro e w2 ⟨rfl, hR⟩
        go_wp2
        go_ret
        exact ⟨rfl, hR⟩
      · have hd : ((3 : Int) == op) = false := by rw [beq_eq_false_iff_ne]; exact fun e => ho e.symm
        have HO := Lib.hid ho
        clear ho
        go_wp2_with go_quiet (fail)
        go_roundw
        case rel =>
          refine ⟨3, rfl, by omega, fun m hm => ?_, below_drewNm (HB.out.alloc hz _) _⟩
          by_cases hm2 : m = 2
          · subst hm2; exact HO.out
          · exact HN.out m (by omega)
        case measure => simp [intOf]
    · by_cases ho : op = 4
      · have hd : ((4 : Int) == op) = true := by rw [ho]; rfl
        have HC := Lib.hid (H3.out ho)
        clear ho
        go_wp2_with go_quiet (fail)
        refine (HC.out _ (below_drewNm (HB.out.alloc hz _) _)).mono ?_
        rintro e w2 ⟨rfl, hR⟩
        go_wp2
        go_ret
        exact ⟨rfl, hR⟩
      · have hd : ((4 : Int) == op) = false := by rw [beq_eq_false_iff_ne]; exact fun e => ho e.symm
        have HO := Lib.hid ho
        clear ho
        go_wp2_with go_quiet (fail)
        go_roundw
        case rel =>
          refine ⟨4, rfl, by omega, fun m hm => ?_, below_drewNm (HB.out.alloc hz _) _⟩
          by_cases hm2 : m = 3
          · subst hm2; exact HO.out
          · exact HN.out m (by omega)
        case measure => simp [intOf]
    · by_cases ho : op = 5
      · have hd : ((5 : Int) == op) = true := by rw [ho]; rfl
        have HC := Lib.hid (H4.out ho)
        clear ho
        go_wp2_with go_quiet (fail)
        refine (HC.out _ (below_drewNm (HB.out.alloc hz _) _)).mono ?_
        rintro e w2 ⟨rfl, hR⟩
        go_wp2
        go_ret
        exact ⟨rfl, hR⟩
      · have hd : ((5 : Int) == op) = false := by rw [beq_eq_false_iff_ne]; exact fun e => ho e.symm
        have HO := Lib.hid ho
        clear ho
        go_wp2_with go_quiet (fail)
        go_roundw
        case rel =>
          refine ⟨5, rfl, by omega, fun m hm => ?_, below_drewNm (HB.out.alloc hz _) _⟩
          by_cases hm2 : m = 4
          · subst hm2; exact HO.out
          · exact HN.out m (by omega)
        case measure => simp [intOf]
    · by_cases ho : op = 6
      · have hd : ((6 : Int) == op) = true := by rw [ho]; rfl
        have HC := Lib.hid (H5.out ho)
        clear ho
        go_wp2_with go_quiet (fail)
        refine (HC.out _ (below_drewNm (HB.out.alloc hz _) _)).mono ?_
        rintro e w2 ⟨rfl, hR⟩
        go_wp2
        go_ret
        exact ⟨rfl, hR⟩
      · have hd : ((6 : Int) == op) = false := by rw [beq_eq_false_iff_ne]; exact fun e => ho e.symm
        have HO := Lib.hid ho
        clear ho
        go_wp2_with go_quiet (fail)
        go_roundw
        case rel =>
          refine ⟨6, rfl, by omega, fun m hm => ?_, below_drewNm (HB.out.alloc hz _) _⟩
          by_cases hm2 : m = 5
          · subst hm2; exact HO.out
          · exact HN.out m (by omega)
        case measure => simp [intOf]
    · by_cases ho : op = 7
      · have hd : ((7 : Int) == op) = true := by rw [ho]; rfl
        have HC := Lib.hid (H6.out ho)
        clear ho
        go_wp2_with go_quiet (fail)
        refine (HC.out _ (below_drewNm (HB.out.alloc hz _) _)).mono ?_
        rintro e w2 ⟨rfl, hR⟩
        go_wp2
        go_ret
        exact ⟨rfl, hR⟩
      · have hd : ((7 : Int) == op) = false := by rw [beq_eq_false_iff_ne]; exact fun e => ho e.symm
        have HO := Lib.hid ho
        clear ho
        go_wp2_with go_quiet (fail)
        go_roundw
        case rel =>
          refine ⟨7, rfl, by omega, fun m hm => ?_, below_drewNm (HB.out.alloc hz _) _⟩
          by_cases hm2 : m = 6
          · subst hm2; exact HO.out
          · exact HN.out m (by omega)
        case measure => simp [intOf]
    · by_cases ho : op = 8
      · have hd : ((8 : Int) == op) = true := by rw [ho]; rfl
        have HC := Lib.hid (H7.out ho)
        clear ho
        go_wp2_with go_quiet (fail)
        refine (HC.out _ (below_drewNm (HB.out.alloc hz _) _)).mono ?_
        rintro e w2 ⟨rfl, hR⟩
        go_wp2
        go_ret
        exact ⟨rfl, hR⟩
      · have hd : ((8 : Int) == op) = false := by rw [beq_eq_false_iff_ne]; exact fun e => ho e.symm
        have HO := Lib.hid ho
        clear ho
        go_wp2_with go_quiet (fail)
        go_roundw
        case rel =>
          refine ⟨8, rfl, by omega, fun m hm => ?_, below_drewNm (HB.out.alloc hz _) _⟩
          by_cases hm2 : m = 7
          · subst hm2; exact HO.out
          · exact HN.out m (by omega)
        case measure => simp [intOf]
    · by_cases ho : op = 9
      · have hd : ((9 : Int) == op) = true := by rw [ho]; rfl
        have HC := Lib.hid (H8.out ho)
        clear ho
        go_wp2_with go_quiet (fail)
        refine (HC.out _ (below_drewNm (HB.out.alloc hz _) _)).mono ?_
        rintro e w2 ⟨rfl, hR⟩
        go_wp2
        go_ret
        exact ⟨rfl, hR⟩
      · have hd : ((9 : Int) == op) = false := by rw [beq_eq_false_iff_ne]; exact fun e => ho e.symm
        have HO := Lib.hid ho
        clear ho
        go_wp2_with go_quiet (fail)
        go_roundw
        case rel =>
          refine ⟨9, rfl, by omega, fun m hm => ?_, below_drewNm (HB.out.alloc hz _) _⟩
          by_cases hm2 : m = 8
          · subst hm2; exact HO.out
          · exact HN.out m (by omega)
        case measure => simp [intOf]
    · by_cases ho : op = 10
      · have hd : ((10 : Int) == op) = true := by rw [ho]; rfl
        have HC := Lib.hid (H9.out ho)
        clear ho
        go_wp2_with go_quiet (fail)
        refine (HC.out _ (below_drewNm (HB.out.alloc hz _) _)).mono ?_
        rintro e w2 ⟨rfl, hR⟩
        go_wp2
        go_ret
        exact ⟨rfl, hR⟩
      · have hd : ((10 : Int) == op) = false := by rw [beq_eq_false_iff_ne]; exact fun e => ho e.symm
        have HO := Lib.hid ho
        clear ho
        go_wp2_with go_quiet (fail)
        go_roundw
        case rel =>
          refine ⟨10, rfl, by omega, fun m hm => ?_, below_drewNm (HB.out.alloc hz _) _⟩
          by_cases hm2 : m = 9
          · subst hm2; exact HO.out
          · exact HN.out m (by omega)
        case measure => simp [intOf]
    · by_cases ho : op = 11
      · have hd : ((11 : Int) == op) = true := by rw [ho]; rfl
        have HC := Lib.hid (H10.out ho)
        clear ho
        go_wp2_with go_quiet (fail)
        refine (HC.out _ (below_drewNm (HB.out.alloc hz _) _)).mono ?_
        rintro e w2 ⟨rfl, hR⟩
        go_wp2
        go_ret
        exact ⟨rfl, hR⟩
      · have hd : ((11 : Int) == op) = false := by rw [beq_eq_false_iff_ne]; exact fun e => ho e.symm
        have HO := Lib.hid ho
        clear ho
        go_wp2_with go_quiet (fail)
        go_roundw
        case rel =>
          refine ⟨11, rfl, by omega, fun m hm => ?_, below_drewNm (HB.out.alloc hz _) _⟩
          by_cases hm2 : m = 10
          · subst hm2; exact HO.out
          · exact HN.out m (by omega)
        case measure => simp [intOf]
    · go_wp2_with fail
      refine (HW.out HN.out _ HB.out).mono ?_
      rintro e w2 ⟨rfl, hR⟩
      go_wp2
      go_ret
      exact ⟨rfl, hR⟩
end Go.Proofs.Ytmljmabbopkpiaa
end

section
/- machine.do: what one right instruction does. -/
namespace Go.Proofs.Ytmljmabbopkpiaa
open Go.RowKit
set_option linter.unusedVariables false
set_option linter.unusedSimpArgs false

/-- an environment and a state's numbers that are right -/
structure Envi.okay (v : Envi) : Prop where
  p0 : 0 ≤ v.process
  p1 : v.process ≤ 65536
  t0 : 0 ≤ v.now
  t1 : v.now ≤ 281474976710656
structure St.okay (s : St) : Prop where
  a0 : 0 ≤ s.at_
  a1 : s.at_ ≤ 256
  d0 : 0 ≤ s.draws
  d1 : s.draws ≤ 1099511627776

theorem do_c (w : World) (base g : Nat) (s : St) (v : Envi) (i : Ins) (C S : Value) (h : Mac w base g s v i C S) (hi : i.ok) (hone : oneE i = 0) (hv : v.okay) (hs : s.okay) :
    Calls Try.prog 111 #[.pointer (some ⟨g, 0, none⟩)] w fun e w' => e = .returned (.int .i64 (doE s v i)) ∧ (∃ S', Mac w' base g (doS s v i) v i C S') ∧ Below base w w' := by
  obtain ⟨o0, o1, a0, a1, b0, b1, c0, c1, n0, n1⟩ := hi
  have hf : fitsC (formC i.op) i.a i.b i.c i.n := by
    unfold oneE at hone
    split at hone
    · cases hone
    · by_cases hfit : fitsC (formC i.op) i.a i.b i.c i.n
      · exact hfit
      · rw [oneK_neg hfit] at hone; cases hone
  have r18 : w.cell? ⟨g, 18, none⟩ = some (.int .u8 i.op) := h.blk.cell 18
  refine do_walk w g i.op (doE s v i) _ h.blk.lt r18 ?_ ?_ ?_ ?_ ?_ ?_ ?_ ?_ ?_ ?_ ?_ ?_
  · intro ho W hW
    have hE : doE s v i = 0 := by simp [doE, ho]
    have hS : doS s v i = { s with ended := true } := by simp [doS, hE, ho]
    rw [hE, hS]
    refine (halt_c W base g s v i C S (h.below hW)).mono ?_
    rintro e w' ⟨he, hm, hb⟩
    exact ⟨he, ⟨S, hm⟩, (hW.mono h.lt).trans hb⟩
  · intro ho W hW
    have hE : doE s v i = 184 := by simp [doE, ho]
    have hS : doS s v i = s := by simp [doS, hE]
    rw [hE, hS]
    refine (fail_c W g).mono ?_
    rintro e w' ⟨he, rfl⟩
    exact ⟨he, ⟨S, h.below hW⟩, hW.mono h.lt⟩
  · intro ho W hW
    have hE : doE s v i = 0 := by simp [doE, ho]
    have hS : doS s v i = s.put i.a.toNat i.n := by simp [doS, hE, ho]
    rw [ho] at hf
    obtain ⟨f1, f2, f3⟩ : i.a < 8 ∧ i.b = 0 ∧ i.c = 0 := hf
    rw [hE, hS]
    refine (set_c W base g s v i C S (h.below hW) a0 f1 hs.a0 hs.a1).mono ?_
    rintro e w' ⟨he, hm, hb⟩
    exact ⟨he, ⟨S, hm⟩, (hW.mono h.lt).trans hb⟩
  · intro ho W hW
    have hE : doE s v i = 0 := by simp [doE, ho]
    have hS : doS s v i = s.put i.a.toNat (s.regs i.b.toNat) := by simp [doS, hE, ho]
    rw [ho] at hf
    obtain ⟨f1, f2, f3, f4⟩ : i.a < 8 ∧ i.b < 8 ∧ i.c = 0 ∧ i.n = 0 := hf
    rw [hE, hS]
    refine (move_c W base g s v i C S (h.below hW) a0 f1 b0 f2 hs.a0 hs.a1).mono ?_
    rintro e w' ⟨he, hm, hb⟩
    exact ⟨he, ⟨S, hm⟩, (hW.mono h.lt).trans hb⟩
  · intro ho W hW
    rw [ho] at hf
    obtain ⟨f1, f2, f3, f4⟩ : i.a < 8 ∧ i.b < 8 ∧ i.c = 0 ∧ i.n = 0 := hf
    by_cases hb : s.regs i.b.toNat < 0 ∨ (s.cells.length : Int) ≤ s.regs i.b.toNat
    · have hE : doE s v i = 185 := by simp [doE, ho, hb]
      have hS : doS s v i = s := by simp [doS, hE]
      rw [hE, hS]
      refine (load_bad W base g s v i C S (h.below hW) b0 f2 hb).mono ?_
      rintro e w' ⟨he, hm, hb⟩
      exact ⟨he, ⟨S, hm⟩, (hW.mono h.lt).trans hb⟩
    · have hE : doE s v i = 0 := by simp [doE, ho, hb]
      have hl : (s.regs i.b.toNat).toNat < s.cells.length := by omega
      have hS : doS s v i = s.put i.a.toNat (s.cells[(s.regs i.b.toNat).toNat]'hl) := by simp [doS, hE, ho, List.getD, hl]
      rw [hE, hS]
      refine (load_ok W base g s v i C S (h.below hW) a0 f1 b0 f2 hs.a0 hs.a1 (s.regs i.b.toNat).toNat (by omega) hl).mono ?_
      rintro e w' ⟨he, hm, hb⟩
      exact ⟨he, ⟨S, hm⟩, (hW.mono h.lt).trans hb⟩
  · intro ho W hW
    rw [ho] at hf
    obtain ⟨f1, f2, f3, f4⟩ : i.a < 8 ∧ i.b < 8 ∧ i.c = 0 ∧ i.n = 0 := hf
    by_cases hb : s.regs i.b.toNat < 0 ∨ (s.cells.length : Int) ≤ s.regs i.b.toNat
    · have hE : doE s v i = 185 := by simp [doE, ho, hb]
      have hS : doS s v i = s := by simp [doS, hE]
      rw [hE, hS]
      refine (store_bad W base g s v i C S (h.below hW) b0 f2 hb).mono ?_
      rintro e w' ⟨he, hm, hb⟩
      exact ⟨he, ⟨S, hm⟩, (hW.mono h.lt).trans hb⟩
    · have hE : doE s v i = 0 := by simp [doE, ho, hb]
      have hl : (s.regs i.b.toNat).toNat < s.cells.length := by omega
      have hS : doS s v i = { s with cells := s.cells.set (s.regs i.b.toNat).toNat (s.regs i.a.toNat), at_ := s.at_ + 1 } := by simp [doS, hE, ho]
      rw [hE, hS]
      refine (store_ok W base g s v i C S (h.below hW) a0 f1 b0 f2 hs.a0 hs.a1 (s.regs i.b.toNat).toNat (by omega) hl).mono ?_
      rintro e w' ⟨he, hm, hb⟩
      exact ⟨he, ⟨S, hm⟩, (hW.mono h.lt).trans hb⟩
  · intro ho W hW
    rw [ho] at hf
    obtain ⟨f1, f2, f3, f4⟩ : i.a < 8 ∧ i.b < 8 ∧ i.c = 0 ∧ i.n = 0 := hf
    by_cases hb : s.regs i.b.toNat < 1
    · have hE : doE s v i = 186 := by simp [doE, ho, hb]
      have hS : doS s v i = s := by simp [doS, hE]
      rw [hE, hS]
      refine (draw_bound W base g s v i C S (h.below hW) b0 f2 hb).mono ?_
      rintro e w' ⟨he, hm, hb⟩
      exact ⟨he, ⟨S, hm⟩, (hW.mono h.lt).trans hb⟩
    · by_cases hd : s.draws = 1099511627776
      · have hE : doE s v i = 187 := by simp [doE, ho, hb, hd]
        have hS : doS s v i = s := by simp [doS, hE]
        rw [hE, hS]
        refine (draw_max W base g s v i C S (h.below hW) b0 f2 (by omega) hd).mono ?_
        rintro e w' ⟨he, hm, hb⟩
        exact ⟨he, ⟨S, hm⟩, (hW.mono h.lt).trans hb⟩
      · have hE : doE s v i = 0 := by simp [doE, ho, hb, hd]
        have hS : doS s v i = { s.put i.a.toNat (drawI v.seed v.process s.draws (s.regs i.b.toNat)) with draws := s.draws + 1 } := by simp [doS, hE, ho]
        rw [hE, hS]
        have := hs.d1
        refine (draw_c W base g s v i C S (h.below hW) a0 f1 b0 f2 hs.a0 hs.a1 hv.p0 hv.p1 hs.d0 (by omega) (by omega)).mono ?_
        rintro e w' ⟨he, hm, hb⟩
        exact ⟨he, ⟨S, hm⟩, (hW.mono h.lt).trans hb⟩
  · intro ho W hW
    rw [ho] at hf
    obtain ⟨f1, f2, f3, f4, f5⟩ : i.a < 8 ∧ i.b < 8 ∧ i.c = 0 ∧ 0 ≤ i.n ∧ i.n < 16 := hf
    have hE : doE s v i = sendE s v i := by simp [doE, ho]
    have hS : doS s v i = if sendE s v i = 0 then { s with at_ := s.at_ + 1, sends := s.sends ++ [⟨i.n, s.regs i.a.toNat, s.regs i.b.toNat⟩] } else s := by
      by_cases h0 : sendE s v i = 0
      · simp [doS, hE, h0, ho]
      · simp [doS, hE, h0]
    rw [hE, hS]
    by_cases e1 : v.ports ≤ i.n
    · have hx : sendE s v i = 188 := by simp [sendE, e1]
      rw [hx, if_neg (by decide)]
      refine (send_port W base g s v i C S (h.below hW) e1).mono ?_
      rintro e w' ⟨he, hm, hb⟩
      exact ⟨he, ⟨S, hm⟩, (hW.mono h.lt).trans hb⟩
    · by_cases e2 : s.regs i.a.toNat < v.look
      · have hx : sendE s v i = 189 := by simp [sendE, e1, e2]
        rw [hx, if_neg (by decide)]
        refine (send_delay W base g s v i C S (h.below hW) a0 f1 (by omega) e2).mono ?_
        rintro e w' ⟨he, hm, hb⟩
        exact ⟨he, ⟨S, hm⟩, (hW.mono h.lt).trans hb⟩
      · by_cases e3 : 281474976710656 - v.now < s.regs i.a.toNat
        · have hx : sendE s v i = 1800 := by simp [sendE, e1, e2, e3]
          rw [hx, if_neg (by decide)]
          refine (send_time W base g s v i C S (h.below hW) a0 f1 (by omega) (by omega) hv.t0 hv.t1 e3).mono ?_
          rintro e w' ⟨he, hm, hb⟩
          exact ⟨he, ⟨S, hm⟩, (hW.mono h.lt).trans hb⟩
        · by_cases e4 : 256 ≤ s.sends.length
          · have hx : sendE s v i = 1801 := by simp [sendE, e1, e2, e3, e4]
            rw [hx, if_neg (by decide)]
            refine (send_full W base g s v i C S (h.below hW) a0 f1 (by omega) (by omega) hv.t0 hv.t1 (by omega) e4).mono ?_
            rintro e w' ⟨he, hm, hb⟩
            exact ⟨he, ⟨S, hm⟩, (hW.mono h.lt).trans hb⟩
          · have hx : sendE s v i = 0 := by simp [sendE, e1, e2, e3, e4]
            rw [hx, if_pos rfl]
            refine (send_ok W base g s v i C S (h.below hW) a0 f1 b0 f2 hs.a0 hs.a1 (by omega) (by omega) hv.t0 hv.t1 (by omega) (by omega)).mono ?_
            rintro e w' ⟨he, hm, hb⟩
            exact ⟨he, hm, (hW.mono h.lt).trans hb⟩
  · intro ho W hW
    rw [ho] at hf
    obtain ⟨f1, f2, f3, f4, f5⟩ : i.a = 0 ∧ i.b = 0 ∧ i.c = 0 ∧ 0 ≤ i.n ∧ i.n < 256 := hf
    have hE : doE s v i = 0 := by simp [doE, ho]
    have hS : doS s v i = { s with at_ := i.n } := by simp [doS, hE, ho]
    rw [hE, hS]
    refine (jump_c W base g s v i C S (h.below hW) hs.a0 hs.a1 f4 f5).mono ?_
    rintro e w' ⟨he, hm, hb⟩
    exact ⟨he, ⟨S, hm⟩, (hW.mono h.lt).trans hb⟩
  · intro ho W hW
    rw [ho] at hf
    obtain ⟨f1, f2, f3, f4, f5⟩ : i.a < 8 ∧ i.b = 0 ∧ i.c = 0 ∧ 0 ≤ i.n ∧ i.n < 256 := hf
    have hE : doE s v i = 0 := by simp [doE, ho]
    have hS : doS s v i = { s with at_ := if s.regs i.a.toNat = 0 then i.n else s.at_ + 1 } := by simp [doS, hE, ho]
    rw [hE, hS]
    refine (jumpZero_c W base g s v i C S (h.below hW) a0 f1 hs.a0 hs.a1 f4 f5).mono ?_
    rintro e w' ⟨he, hm, hb⟩
    exact ⟨he, ⟨S, hm⟩, (hW.mono h.lt).trans hb⟩
  · intro ho W hW
    rw [ho] at hf
    obtain ⟨f1, f2, f3, f4, f5⟩ : i.a < 8 ∧ i.b = 0 ∧ i.c = 0 ∧ 0 ≤ i.n ∧ i.n < 256 := hf
    have hE : doE s v i = 0 := by simp [doE, ho]
    have hS : doS s v i = { s with at_ := if s.regs i.a.toNat < 0 then i.n else s.at_ + 1 } := by simp [doS, hE, ho]
    rw [hE, hS]
    refine (jumpNeg_c W base g s v i C S (h.below hW) a0 f1 hs.a0 hs.a1 f4 f5).mono ?_
    rintro e w' ⟨he, hm, hb⟩
    exact ⟨he, ⟨S, hm⟩, (hW.mono h.lt).trans hb⟩
  · intro ho W hW
    have hno : ¬ (1 ≤ i.op ∧ i.op ≤ 11) := fun hx => by
      have := ho (i.op - 1).toNat (by omega)
      omega
    by_cases hr : 32 < i.op ∧ i.op ≤ 49
    · have hc : formC i.op = 1 := by simp [formC, hr]
      rw [hc] at hf
      obtain ⟨f1, f2, f3, f4⟩ : i.a < 8 ∧ i.b < 8 ∧ i.c < 8 ∧ i.n = 0 := hf
      have hE : doE s v i = wrongE (i.op - 32) (s.regs i.c.toNat) := by
        unfold doE
        rw [if_neg (by omega), if_neg (by omega), if_neg (by omega), if_neg (by omega), if_neg (by omega)]
      have hS : doS s v i = if wrongE (i.op - 32) (s.regs i.c.toNat) = 0 then s.put i.a.toNat (applyV (i.op - 32) (s.regs i.b.toNat) (s.regs i.c.toNat)) else s := by
        by_cases h0 : wrongE (i.op - 32) (s.regs i.c.toNat) = 0
        · rw [if_pos h0]
          unfold doS
          rw [hE, h0, if_neg (by decide), if_neg (by omega), if_neg (by omega), if_neg (by omega), if_neg (by omega), if_neg (by omega), if_neg (by omega), if_neg (by omega), if_neg (by omega), if_neg (by omega), if_neg (by omega)]
        · rw [if_neg h0]
          unfold doS
          rw [hE, if_pos h0]
      rw [hE, hS]
      refine (word_c W base g s v i C S (h.below hW) (by omega) (by omega) a0 f1 b0 f2 c0 f3 hs.a0 hs.a1).mono ?_
      rintro e w' ⟨he, hm, hb⟩
      exact ⟨he, ⟨S, hm⟩, (hW.mono h.lt).trans hb⟩
    · have hc : formC i.op = 0 := by
        unfold formC
        rw [if_neg hr, if_neg (by omega), if_neg (by omega), if_neg (by omega), if_neg (by omega), if_neg (by omega), if_neg (by omega)]
      rw [hc] at hf
      exact hf.elim
end Go.Proofs.Ytmljmabbopkpiaa
end

section
/- code.Form (layer 14): the form of an Op. PRINTED BY gen_form.py. -/
namespace Go.Proofs.Ytmljmabbopkpiaa
set_option linter.unusedVariables false
set_option linter.unusedSimpArgs false
open Go.RowKit

theorem formC_none (op : Int) (h : op < 1 ∨ 11 < op ∧ op ≤ 32 ∨ 49 < op) : formC op = 0 := by
  unfold formC
  rw [if_neg (by omega), if_neg (by omega), if_neg (by omega), if_neg (by omega), if_neg (by omega), if_neg (by omega), if_neg (by omega)]
theorem formIx0 (w : World) : (Instr.index 171 (.agg #[.int .u8 1, .string ⟨#[]⟩, .int .u8 2, .string ⟨#[]⟩, .int .u8 3, .string ⟨#[114, 110]⟩, .int .u8 4, .string ⟨#[114, 114]⟩, .int .u8 5, .string ⟨#[114, 114]⟩, .int .u8 6, .string ⟨#[114, 114]⟩, .int .u8 7, .string ⟨#[114, 114]⟩, .int .u8 8, .string ⟨#[114, 114, 112]⟩, .int .u8 9, .string ⟨#[116]⟩, .int .u8 10, .string ⟨#[114, 116]⟩, .int .u8 11, .string ⟨#[114, 116]⟩]) (.int .i64 0)).run Try.prog w = .ok (.agg #[.int .u8 1, .string ⟨#[]⟩]) w := by kernel_rfl
theorem formIx1 (w : World) : (Instr.index 171 (.agg #[.int .u8 1, .string ⟨#[]⟩, .int .u8 2, .string ⟨#[]⟩, .int .u8 3, .string ⟨#[114, 110]⟩, .int .u8 4, .string ⟨#[114, 114]⟩, .int .u8 5, .string ⟨#[114, 114]⟩, .int .u8 6, .string ⟨#[114, 114]⟩, .int .u8 7, .string ⟨#[114, 114]⟩, .int .u8 8, .string ⟨#[114, 114, 112]⟩, .int .u8 9, .string ⟨#[116]⟩, .int .u8 10, .string ⟨#[114, 116]⟩, .int .u8 11, .string ⟨#[114, 116]⟩]) (.int .i64 1)).run Try.prog w = .ok (.agg #[.int .u8 2, .string ⟨#[]⟩]) w := by kernel_rfl
theorem formIx2 (w : World) : (Instr.index 171 (.agg #[.int .u8 1, .string ⟨#[]⟩, .int .u8 2, .string ⟨#[]⟩, .int .u8 3, .string ⟨#[114, 110]⟩, .int .u8 4, .string ⟨#[114, 114]⟩, .int .u8 5, .string ⟨#[114, 114]⟩, .int .u8 6, .string ⟨#[114, 114]⟩, .int .u8 7, .string ⟨#[114, 114]⟩, .int .u8 8, .string ⟨#[114, 114, 112]⟩, .int .u8 9, .string ⟨#[116]⟩, .int .u8 10, .string ⟨#[114, 116]⟩, .int .u8 11, .string ⟨#[114, 116]⟩]) (.int .i64 2)).run Try.prog w = .ok (.agg #[.int .u8 3, .string ⟨#[114, 110]⟩]) w := by kernel_rfl
theorem formIx3 (w : World) : (Instr.index 171 (.agg #[.int .u8 1, .string ⟨#[]⟩, .int .u8 2, .string ⟨#[]⟩, .int .u8 3, .string ⟨#[114, 110]⟩, .int .u8 4, .string ⟨#[114, 114]⟩, .int .u8 5, .string ⟨#[114, 114]⟩, .int .u8 6, .string ⟨#[114, 114]⟩, .int .u8 7, .string ⟨#[114, 114]⟩, .int .u8 8, .string ⟨#[114, 114, 112]⟩, .int .u8 9, .string ⟨#[116]⟩, .int .u8 10, .string ⟨#[114, 116]⟩, .int .u8 11, .string ⟨#[114, 116]⟩]) (.int .i64 3)).run Try.prog w = .ok (.agg #[.int .u8 4, .string ⟨#[114, 114]⟩]) w := by kernel_rfl
theorem formIx4 (w : World) : (Instr.index 171 (.agg #[.int .u8 1, .string ⟨#[]⟩, .int .u8 2, .string ⟨#[]⟩, .int .u8 3, .string ⟨#[114, 110]⟩, .int .u8 4, .string ⟨#[114, 114]⟩, .int .u8 5, .string ⟨#[114, 114]⟩, .int .u8 6, .string ⟨#[114, 114]⟩, .int .u8 7, .string ⟨#[114, 114]⟩, .int .u8 8, .string ⟨#[114, 114, 112]⟩, .int .u8 9, .string ⟨#[116]⟩, .int .u8 10, .string ⟨#[114, 116]⟩, .int .u8 11, .string ⟨#[114, 116]⟩]) (.int .i64 4)).run Try.prog w = .ok (.agg #[.int .u8 5, .string ⟨#[114, 114]⟩]) w := by kernel_rfl
theorem formIx5 (w : World) : (Instr.index 171 (.agg #[.int .u8 1, .string ⟨#[]⟩, .int .u8 2, .string ⟨#[]⟩, .int .u8 3, .string ⟨#[114, 110]⟩, .int .u8 4, .string ⟨#[114, 114]⟩, .int .u8 5, .string ⟨#[114, 114]⟩, .int .u8 6, .string ⟨#[114, 114]⟩, .int .u8 7, .string ⟨#[114, 114]⟩, .int .u8 8, .string ⟨#[114, 114, 112]⟩, .int .u8 9, .string ⟨#[116]⟩, .int .u8 10, .string ⟨#[114, 116]⟩, .int .u8 11, .string ⟨#[114, 116]⟩]) (.int .i64 5)).run Try.prog w = .ok (.agg #[.int .u8 6, .string ⟨#[114, 114]⟩]) w := by kernel_rfl
theorem formIx6 (w : World) : (Instr.index 171 (.agg #[.int .u8 1, .string ⟨#[]⟩, .int .u8 2, .string ⟨#[]⟩, .int .u8 3, .string ⟨#[114, 110]⟩, .int .u8 4, .string ⟨#[114, 114]⟩, .int .u8 5, .string ⟨#[114, 114]⟩, .int .u8 6, .string ⟨#[114, 114]⟩, .int .u8 7, .string ⟨#[114, 114]⟩, .int .u8 8, .string ⟨#[114, 114, 112]⟩, .int .u8 9, .string ⟨#[116]⟩, .int .u8 10, .string ⟨#[114, 116]⟩, .int .u8 11, .string ⟨#[114, 116]⟩]) (.int .i64 6)).run Try.prog w = .ok (.agg #[.int .u8 7, .string ⟨#[114, 114]⟩]) w := by kernel_rfl
theorem formIx7 (w : World) : (Instr.index 171 (.agg #[.int .u8 1, .string ⟨#[]⟩, .int .u8 2, .string ⟨#[]⟩, .int .u8 3, .string ⟨#[114, 110]⟩, .int .u8 4, .string ⟨#[114, 114]⟩, .int .u8 5, .string ⟨#[114, 114]⟩, .int .u8 6, .string ⟨#[114, 114]⟩, .int .u8 7, .string ⟨#[114, 114]⟩, .int .u8 8, .string ⟨#[114, 114, 112]⟩, .int .u8 9, .string ⟨#[116]⟩, .int .u8 10, .string ⟨#[114, 116]⟩, .int .u8 11, .string ⟨#[114, 116]⟩]) (.int .i64 7)).run Try.prog w = .ok (.agg #[.int .u8 8, .string ⟨#[114, 114, 112]⟩]) w := by kernel_rfl
theorem formIx8 (w : World) : (Instr.index 171 (.agg #[.int .u8 1, .string ⟨#[]⟩, .int .u8 2, .string ⟨#[]⟩, .int .u8 3, .string ⟨#[114, 110]⟩, .int .u8 4, .string ⟨#[114, 114]⟩, .int .u8 5, .string ⟨#[114, 114]⟩, .int .u8 6, .string ⟨#[114, 114]⟩, .int .u8 7, .string ⟨#[114, 114]⟩, .int .u8 8, .string ⟨#[114, 114, 112]⟩, .int .u8 9, .string ⟨#[116]⟩, .int .u8 10, .string ⟨#[114, 116]⟩, .int .u8 11, .string ⟨#[114, 116]⟩]) (.int .i64 8)).run Try.prog w = .ok (.agg #[.int .u8 9, .string ⟨#[116]⟩]) w := by kernel_rfl
theorem formIx9 (w : World) : (Instr.index 171 (.agg #[.int .u8 1, .string ⟨#[]⟩, .int .u8 2, .string ⟨#[]⟩, .int .u8 3, .string ⟨#[114, 110]⟩, .int .u8 4, .string ⟨#[114, 114]⟩, .int .u8 5, .string ⟨#[114, 114]⟩, .int .u8 6, .string ⟨#[114, 114]⟩, .int .u8 7, .string ⟨#[114, 114]⟩, .int .u8 8, .string ⟨#[114, 114, 112]⟩, .int .u8 9, .string ⟨#[116]⟩, .int .u8 10, .string ⟨#[114, 116]⟩, .int .u8 11, .string ⟨#[114, 116]⟩]) (.int .i64 9)).run Try.prog w = .ok (.agg #[.int .u8 10, .string ⟨#[114, 116]⟩]) w := by kernel_rfl
theorem formIx10 (w : World) : (Instr.index 171 (.agg #[.int .u8 1, .string ⟨#[]⟩, .int .u8 2, .string ⟨#[]⟩, .int .u8 3, .string ⟨#[114, 110]⟩, .int .u8 4, .string ⟨#[114, 114]⟩, .int .u8 5, .string ⟨#[114, 114]⟩, .int .u8 6, .string ⟨#[114, 114]⟩, .int .u8 7, .string ⟨#[114, 114]⟩, .int .u8 8, .string ⟨#[114, 114, 112]⟩, .int .u8 9, .string ⟨#[116]⟩, .int .u8 10, .string ⟨#[114, 116]⟩, .int .u8 11, .string ⟨#[114, 116]⟩]) (.int .i64 10)).run Try.prog w = .ok (.agg #[.int .u8 11, .string ⟨#[114, 116]⟩]) w := by kernel_rfl

theorem form_rrr (op : Int) (w : World) (h0 : 32 < op) (h1 : op ≤ 49)  :
    Calls Try.prog 39 #[.int .u8 op] w fun e w' => e = .returned (.tuple #[.string ⟨#[114, 114, 114]⟩, .bool true]) ∧ Below w.heap.size w w' := by
  go_enter Try.func39, Try.ntmps39
  go_wp2
  go_ret2
  exact ⟨rfl, Below.refl _ _⟩

set_option maxRecDepth 100000 in
set_option maxHeartbeats 4000000 in
theorem form_lo (op : Int) (w : World) (h0 : 0 ≤ op) (h1 : op ≤ 32) :
    Calls Try.prog 39 #[.int .u8 op] w fun e w' => e = .returned (.tuple #[.string (formS (formC op)), .bool (formC op != 0)]) ∧ Below w.heap.size w w' := by
  go_enter Try.func39, Try.ntmps39
  go_wp2
  go_loopw [24] (fun k wr => ∃ n : Nat, k = .int .i64 n ∧ n ≤ 11 ∧ (op < 1 ∨ (n : Int) < op) ∧ Below w.heap.size w wr) (fun k _ => 11 - (intOf k).toNat)
  case atStart => exact ⟨0, rfl, by omega, by omega, Below.refl _ _⟩
  case round =>
    obtain ⟨n, rfl, hn, hop, hb⟩ := hrel
    have hz := hb.size
    have HB := Lib.hid hb
    clear hb
    have hN : n = 0 ∨ n = 1 ∨ n = 2 ∨ n = 3 ∨ n = 4 ∨ n = 5 ∨ n = 6 ∨ n = 7 ∨ n = 8 ∨ n = 9 ∨ n = 10 ∨ n = 11 := by omega
    rcases hN with rfl | rfl | rfl | rfl | rfl | rfl | rfl | rfl | rfl | rfl | rfl | rfl
    · have i0 := formIx0
      go_wp2
      · have he : (1 : Int) = op := beq_iff_eq.1 (by assumption)
        subst he
        go_ret2
        exact ⟨rfl, HB.out.alloc hz _⟩
      · have he : (1 : Int) ≠ op := beq_eq_false_iff_ne.1 (by assumption)
        go_roundw
        case rel => exact ⟨1, by go_num, by omega, by omega, HB.out.alloc hz _⟩
        case measure => simp [intOf]
    · have i0 := formIx1
      go_wp2
      · have he : (2 : Int) = op := beq_iff_eq.1 (by assumption)
        subst he
        go_ret2
        exact ⟨rfl, HB.out.alloc hz _⟩
      · have he : (2 : Int) ≠ op := beq_eq_false_iff_ne.1 (by assumption)
        go_roundw
        case rel => exact ⟨2, by go_num, by omega, by omega, HB.out.alloc hz _⟩
        case measure => simp [intOf]
    · have i0 := formIx2
      go_wp2
      · have he : (3 : Int) = op := beq_iff_eq.1 (by assumption)
        subst he
        go_ret2
        exact ⟨rfl, HB.out.alloc hz _⟩
      · have he : (3 : Int) ≠ op := beq_eq_false_iff_ne.1 (by assumption)
        go_roundw
        case rel => exact ⟨3, by go_num, by omega, by omega, HB.out.alloc hz _⟩
        case measure => simp [intOf]
    · have i0 := formIx3
      go_wp2
      · have he : (4 : Int) = op := beq_iff_eq.1 (by assumption)
        subst he
        go_ret2
        exact ⟨rfl, HB.out.alloc hz _⟩
      · have he : (4 : Int) ≠ op := beq_eq_false_iff_ne.1 (by assumption)
        go_roundw
        case rel => exact ⟨4, by go_num, by omega, by omega, HB.out.alloc hz _⟩
        case measure => simp [intOf]
    · have i0 := formIx4
      go_wp2
      · have he : (5 : Int) = op := beq_iff_eq.1 (by assumption)
        subst he
        go_ret2
        exact ⟨rfl, HB.out.alloc hz _⟩
      · have he : (5 : Int) ≠ op := beq_eq_false_iff_ne.1 (by assumption)
        go_roundw
        case rel => exact ⟨5, by go_num, by omega, by omega, HB.out.alloc hz _⟩
        case measure => simp [intOf]
    · have i0 := formIx5
      go_wp2
      · have he : (6 : Int) = op := beq_iff_eq.1 (by assumption)
        subst he
        go_ret2
        exact ⟨rfl, HB.out.alloc hz _⟩
      · have he : (6 : Int) ≠ op := beq_eq_false_iff_ne.1 (by assumption)
        go_roundw
        case rel => exact ⟨6, by go_num, by omega, by omega, HB.out.alloc hz _⟩
        case measure => simp [intOf]
    · have i0 := formIx6
      go_wp2
      · have he : (7 : Int) = op := beq_iff_eq.1 (by assumption)
        subst he
        go_ret2
        exact ⟨rfl, HB.out.alloc hz _⟩
      · have he : (7 : Int) ≠ op := beq_eq_false_iff_ne.1 (by assumption)
        go_roundw
        case rel => exact ⟨7, by go_num, by omega, by omega, HB.out.alloc hz _⟩
        case measure => simp [intOf]
    · have i0 := formIx7
      go_wp2
      · have he : (8 : Int) = op := beq_iff_eq.1 (by assumption)
        subst he
        go_ret2
        exact ⟨rfl, HB.out.alloc hz _⟩
      · have he : (8 : Int) ≠ op := beq_eq_false_iff_ne.1 (by assumption)
        go_roundw
        case rel => exact ⟨8, by go_num, by omega, by omega, HB.out.alloc hz _⟩
        case measure => simp [intOf]
    · have i0 := formIx8
      go_wp2
      · have he : (9 : Int) = op := beq_iff_eq.1 (by assumption)
        subst he
        go_ret2
        exact ⟨rfl, HB.out.alloc hz _⟩
      · have he : (9 : Int) ≠ op := beq_eq_false_iff_ne.1 (by assumption)
        go_roundw
        case rel => exact ⟨9, by go_num, by omega, by omega, HB.out.alloc hz _⟩
        case measure => simp [intOf]
    · have i0 := formIx9
      go_wp2
      · have he : (10 : Int) = op := beq_iff_eq.1 (by assumption)
        subst he
        go_ret2
        exact ⟨rfl, HB.out.alloc hz _⟩
      · have he : (10 : Int) ≠ op := beq_eq_false_iff_ne.1 (by assumption)
        go_roundw
        case rel => exact ⟨10, by go_num, by omega, by omega, HB.out.alloc hz _⟩
        case measure => simp [intOf]
    · have i0 := formIx10
      go_wp2
      · have he : (11 : Int) = op := beq_iff_eq.1 (by assumption)
        subst he
        go_ret2
        exact ⟨rfl, HB.out.alloc hz _⟩
      · have he : (11 : Int) ≠ op := beq_eq_false_iff_ne.1 (by assumption)
        go_roundw
        case rel => exact ⟨11, by go_num, by omega, by omega, HB.out.alloc hz _⟩
        case measure => simp [intOf]
    · go_wp2
      go_ret2
      refine ⟨?_, HB.out⟩
      rw [formC_none op (by omega)]
      rfl

set_option maxRecDepth 100000 in
set_option maxHeartbeats 4000000 in
theorem form_hi (op : Int) (w : World) (h1 : 49 < op) :
    Calls Try.prog 39 #[.int .u8 op] w fun e w' => e = .returned (.tuple #[.string (formS (formC op)), .bool (formC op != 0)]) ∧ Below w.heap.size w w' := by
  have h32 : 32 < op := by omega
  go_enter Try.func39, Try.ntmps39
  go_wp2
  go_loopw [24] (fun k wr => ∃ n : Nat, k = .int .i64 n ∧ n ≤ 11 ∧ (op < 1 ∨ (n : Int) < op) ∧ Below w.heap.size w wr) (fun k _ => 11 - (intOf k).toNat)
  case atStart => exact ⟨0, rfl, by omega, by omega, Below.refl _ _⟩
  case round =>
    obtain ⟨n, rfl, hn, hop, hb⟩ := hrel
    have hz := hb.size
    have HB := Lib.hid hb
    clear hb
    have hN : n = 0 ∨ n = 1 ∨ n = 2 ∨ n = 3 ∨ n = 4 ∨ n = 5 ∨ n = 6 ∨ n = 7 ∨ n = 8 ∨ n = 9 ∨ n = 10 ∨ n = 11 := by omega
    rcases hN with rfl | rfl | rfl | rfl | rfl | rfl | rfl | rfl | rfl | rfl | rfl | rfl
    · have i0 := formIx0
      have he : ((1 : Int) == op) = false := beq_eq_false_iff_ne.2 (by omega)
      go_wp2
      go_roundw
      case rel => exact ⟨1, by go_num, by omega, by omega, HB.out.alloc hz _⟩
      case measure => simp [intOf]
    · have i0 := formIx1
      have he : ((2 : Int) == op) = false := beq_eq_false_iff_ne.2 (by omega)
      go_wp2
      go_roundw
      case rel => exact ⟨2, by go_num, by omega, by omega, HB.out.alloc hz _⟩
      case measure => simp [intOf]
    · have i0 := formIx2
      have he : ((3 : Int) == op) = false := beq_eq_false_iff_ne.2 (by omega)
      go_wp2
      go_roundw
      case rel => exact ⟨3, by go_num, by omega, by omega, HB.out.alloc hz _⟩
      case measure => simp [intOf]
    · have i0 := formIx3
      have he : ((4 : Int) == op) = false := beq_eq_false_iff_ne.2 (by omega)
      go_wp2
      go_roundw
      case rel => exact ⟨4, by go_num, by omega, by omega, HB.out.alloc hz _⟩
      case measure => simp [intOf]
    · have i0 := formIx4
      have he : ((5 : Int) == op) = false := beq_eq_false_iff_ne.2 (by omega)
      go_wp2
      go_roundw
      case rel => exact ⟨5, by go_num, by omega, by omega, HB.out.alloc hz _⟩
      case measure => simp [intOf]
    · have i0 := formIx5
      have he : ((6 : Int) == op) = false := beq_eq_false_iff_ne.2 (by omega)
      go_wp2
      go_roundw
      case rel => exact ⟨6, by go_num, by omega, by omega, HB.out.alloc hz _⟩
      case measure => simp [intOf]
    · have i0 := formIx6
      have he : ((7 : Int) == op) = false := beq_eq_false_iff_ne.2 (by omega)
      go_wp2
      go_roundw
      case rel => exact ⟨7, by go_num, by omega, by omega, HB.out.alloc hz _⟩
      case measure => simp [intOf]
    · have i0 := formIx7
      have he : ((8 : Int) == op) = false := beq_eq_false_iff_ne.2 (by omega)
      go_wp2
      go_roundw
      case rel => exact ⟨8, by go_num, by omega, by omega, HB.out.alloc hz _⟩
      case measure => simp [intOf]
    · have i0 := formIx8
      have he : ((9 : Int) == op) = false := beq_eq_false_iff_ne.2 (by omega)
      go_wp2
      go_roundw
      case rel => exact ⟨9, by go_num, by omega, by omega, HB.out.alloc hz _⟩
      case measure => simp [intOf]
    · have i0 := formIx9
      have he : ((10 : Int) == op) = false := beq_eq_false_iff_ne.2 (by omega)
      go_wp2
      go_roundw
      case rel => exact ⟨10, by go_num, by omega, by omega, HB.out.alloc hz _⟩
      case measure => simp [intOf]
    · have i0 := formIx10
      have he : ((11 : Int) == op) = false := beq_eq_false_iff_ne.2 (by omega)
      go_wp2
      go_roundw
      case rel => exact ⟨11, by go_num, by omega, by omega, HB.out.alloc hz _⟩
      case measure => simp [intOf]
    · go_wp2
      go_ret2
      refine ⟨?_, HB.out⟩
      rw [formC_none op (by omega)]
      rfl
end Go.Proofs.Ytmljmabbopkpiaa
end

section
/- equality of small arrays of numbers, and other closed facts on types. -/
namespace Go.Proofs.Ytmljmabbopkpiaa
set_option linter.unusedVariables false
set_option linter.unusedSimpArgs false
open Go.RowKit

theorem eq3 (x y z a b c : Int) (w : World) : (Op.equalIn 10000 107 (.agg #[.int .u8 x, .int .u8 y, .int .u8 z]) (.agg #[.int .u8 a, .int .u8 b, .int .u8 c])).run Try.prog w = .ok (x == a && (y == b && z == c)) w := by
  have h1 : ∀ (x a : Int) (w : World), (Op.equalIn 9999 5 (.int .u8 x) (.int .u8 a)).run Try.prog w = .ok (x == a) w := fun x a w => run_equalIn_int w 9998 5 .u8 .u8 x a (by kernel_rfl)
  have hs : ∀ w, (sizeOf 5).run Try.prog w = .ok 1 w := fun w => by kernel_rfl
  have hu : ∀ w, (underlying 107).run Try.prog w = .ok (.array 3 5) w := fun w => by kernel_rfl
  have p0 : ∀ (x y z : Int) w, (part 5 #[.int .u8 x, .int .u8 y, .int .u8 z] 0).run Try.prog w = .ok (.int .u8 x) w := fun x y z w => by kernel_rfl
  have p1 : ∀ (x y z : Int) w, (part 5 #[.int .u8 x, .int .u8 y, .int .u8 z] 1).run Try.prog w = .ok (.int .u8 y) w := fun x y z w => by kernel_rfl
  have p2 : ∀ (x y z : Int) w, (part 5 #[.int .u8 x, .int .u8 y, .int .u8 z] 2).run Try.prog w = .ok (.int .u8 z) w := fun x y z w => by kernel_rfl
  rw [Op.equalIn]
  simp only [Sem.run_bind, hu, Result.andThen_ok, hs]
  simp only [Std.Legacy.Range.forIn_eq_forIn_range', Std.Legacy.Range.size]
  simp [List.range'_succ, p0, p1, p2, h1, ite_okB]

theorem eq8 (x0 x1 x2 x3 x4 x5 x6 x7 a0 a1 a2 a3 a4 a5 a6 a7 : Int) (w : World) : (Op.equalIn 10000 46 (.agg #[.int .i64 x0, .int .i64 x1, .int .i64 x2, .int .i64 x3, .int .i64 x4, .int .i64 x5, .int .i64 x6, .int .i64 x7]) (.agg #[.int .i64 a0, .int .i64 a1, .int .i64 a2, .int .i64 a3, .int .i64 a4, .int .i64 a5, .int .i64 a6, .int .i64 a7])).run Try.prog w = .ok (x0 == a0 && (x1 == a1 && (x2 == a2 && (x3 == a3 && (x4 == a4 && (x5 == a5 && (x6 == a6 && (x7 == a7)))))))) w := by
  have h1 : ∀ (x a : Int) (w : World), (Op.equalIn 9999 2 (.int .i64 x) (.int .i64 a)).run Try.prog w = .ok (x == a) w := fun x a w => run_equalIn_int w 9998 2 .i64 .i64 x a (by kernel_rfl)
  have hs : ∀ w, (sizeOf 2).run Try.prog w = .ok 1 w := fun w => by kernel_rfl
  have hu : ∀ w, (underlying 46).run Try.prog w = .ok (.array 8 2) w := fun w => by kernel_rfl
  have p0 : ∀ (x0 x1 x2 x3 x4 x5 x6 x7 : Int) w, (part 2 #[.int .i64 x0, .int .i64 x1, .int .i64 x2, .int .i64 x3, .int .i64 x4, .int .i64 x5, .int .i64 x6, .int .i64 x7] 0).run Try.prog w = .ok (.int .i64 x0) w := fun x0 x1 x2 x3 x4 x5 x6 x7 w => by kernel_rfl
  have p1 : ∀ (x0 x1 x2 x3 x4 x5 x6 x7 : Int) w, (part 2 #[.int .i64 x0, .int .i64 x1, .int .i64 x2, .int .i64 x3, .int .i64 x4, .int .i64 x5, .int .i64 x6, .int .i64 x7] 1).run Try.prog w = .ok (.int .i64 x1) w := fun x0 x1 x2 x3 x4 x5 x6 x7 w => by kernel_rfl
  have p2 : ∀ (x0 x1 x2 x3 x4 x5 x6 x7 : Int) w, (part 2 #[.int .i64 x0, .int .i64 x1, .int .i64 x2, .int .i64 x3, .int .i64 x4, .int .i64 x5, .int .i64 x6, .int .i64 x7] 2).run Try.prog w = .ok (.int .i64 x2) w := fun x0 x1 x2 x3 x4 x5 x6 x7 w => by kernel_rfl
  have p3 : ∀ (x0 x1 x2 x3 x4 x5 x6 x7 : Int) w, (part 2 #[.int .i64 x0, .int .i64 x1, .int .i64 x2, .int .i64 x3, .int .i64 x4, .int .i64 x5, .int .i64 x6, .int .i64 x7] 3).run Try.prog w = .ok (.int .i64 x3) w := fun x0 x1 x2 x3 x4 x5 x6 x7 w => by kernel_rfl
  have p4 : ∀ (x0 x1 x2 x3 x4 x5 x6 x7 : Int) w, (part 2 #[.int .i64 x0, .int .i64 x1, .int .i64 x2, .int .i64 x3, .int .i64 x4, .int .i64 x5, .int .i64 x6, .int .i64 x7] 4).run Try.prog w = .ok (.int .i64 x4) w := fun x0 x1 x2 x3 x4 x5 x6 x7 w => by kernel_rfl
  have p5 : ∀ (x0 x1 x2 x3 x4 x5 x6 x7 : Int) w, (part 2 #[.int .i64 x0, .int .i64 x1, .int .i64 x2, .int .i64 x3, .int .i64 x4, .int .i64 x5, .int .i64 x6, .int .i64 x7] 5).run Try.prog w = .ok (.int .i64 x5) w := fun x0 x1 x2 x3 x4 x5 x6 x7 w => by kernel_rfl
  have p6 : ∀ (x0 x1 x2 x3 x4 x5 x6 x7 : Int) w, (part 2 #[.int .i64 x0, .int .i64 x1, .int .i64 x2, .int .i64 x3, .int .i64 x4, .int .i64 x5, .int .i64 x6, .int .i64 x7] 6).run Try.prog w = .ok (.int .i64 x6) w := fun x0 x1 x2 x3 x4 x5 x6 x7 w => by kernel_rfl
  have p7 : ∀ (x0 x1 x2 x3 x4 x5 x6 x7 : Int) w, (part 2 #[.int .i64 x0, .int .i64 x1, .int .i64 x2, .int .i64 x3, .int .i64 x4, .int .i64 x5, .int .i64 x6, .int .i64 x7] 7).run Try.prog w = .ok (.int .i64 x7) w := fun x0 x1 x2 x3 x4 x5 x6 x7 w => by kernel_rfl
  rw [Op.equalIn]
  simp only [Sem.run_bind, hu, Result.andThen_ok, hs]
  simp only [Std.Legacy.Range.forIn_eq_forIn_range', Std.Legacy.Range.size]
  simp [List.range'_succ, p0, p1, p2, p3, p4, p5, p6, p7, h1, ite_okB]

theorem fieldsSend : (Try.prog.fieldsOf 64).toList = [{ name := "Port", type := 3, offset := 0, embedded := false, tag := "", pkgPath := "", byteOffset := 0 }, { name := "Delay", type := 2, offset := 1, embedded := false, tag := "", pkgPath := "", byteOffset := 8 }, { name := "Value", type := 2, offset := 2, embedded := false, tag := "", pkgPath := "", byteOffset := 16 }] := by kernel_rfl
theorem eqSend (x y z a b c : Int) (w : World) : (Op.equalIn 10000 64 (.agg #[.int .i64 x, .int .i64 y, .int .i64 z]) (.agg #[.int .i64 a, .int .i64 b, .int .i64 c])).run Try.prog w = .ok (x == a && (y == b && z == c)) w := by
  have h1 : ∀ (x a : Int) (w : World), (Op.equalIn 9999 2 (.int .i64 x) (.int .i64 a)).run Try.prog w = .ok (x == a) w := fun x a w => run_equalIn_int w 9998 2 .i64 .i64 x a (by kernel_rfl)
  have h2 : ∀ (x a : Int) (w : World), (Op.equalIn 9999 3 (.int .i64 x) (.int .i64 a)).run Try.prog w = .ok (x == a) w := fun x a w => run_equalIn_int w 9998 3 .i64 .i64 x a (by kernel_rfl)
  have p0 : ∀ (x y z : Int) w, (part 3 #[.int .i64 x, .int .i64 y, .int .i64 z] 0).run Try.prog w = .ok (.int .i64 x) w := fun x y z w => by kernel_rfl
  have p1 : ∀ (x y z : Int) w, (part 2 #[.int .i64 x, .int .i64 y, .int .i64 z] 1).run Try.prog w = .ok (.int .i64 y) w := fun x y z w => by kernel_rfl
  have p2 : ∀ (x y z : Int) w, (part 2 #[.int .i64 x, .int .i64 y, .int .i64 z] 2).run Try.prog w = .ok (.int .i64 z) w := fun x y z w => by kernel_rfl
  rw [run_equalIn_struct w 9999 64 _ _ (by kernel_rfl) (by kernel_rfl), fieldsSend]
  simp [Op.eqFields, p0, p1, p2, h1, h2, ite_okB]
end Go.Proofs.Ytmljmabbopkpiaa
end
