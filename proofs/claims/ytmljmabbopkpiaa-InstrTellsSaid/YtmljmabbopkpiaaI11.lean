import Derived.Test.YtmljmabbopkpiaaI1
import Derived.Test.YtmljmabbopkpiaaI4
import Derived.Test.YtmljmabbopkpiaaI5
import Derived.Test.YtmljmabbopkpiaaI6
import Derived.Test.YtmljmabbopkpiaaI8
import Derived.Test.YtmljmabbopkpiaaI10
import Derived.Test.YtmljmabbopkpiaaProg
import Derived.Handy
import Derived.Deep.RegionHeld3
import Derived.Deep.DeepCutAuto
set_option linter.unusedSimpArgs false
set_option linter.unusedVariables false
set_option maxRecDepth 100000
section
namespace Go.Proofs.Ytmljmabbopkpiaa.Vm
theorem k56_ {P : Prop} (h : P := by rename_i q; intro hf hc; obtain ⟨q1, q2, q3, q4⟩ := hc; exact ⟨by omega, by omega, by omega, fun t => by omega, by omega⟩) : P := h
theorem k57_ {P : Prop} (h : P := by rename_i q; intro hf hc; obtain ⟨q1, q2, q3, q4, q5⟩ := hc; exact ⟨by omega, by omega, by omega, fun t => by omega, by omega⟩) : P := h
end Go.Proofs.Ytmljmabbopkpiaa.Vm
end
section
namespace Go.Proofs.Ytmljmabbopkpiaa
open Go.RowKit
theorem formC_none (op : Int) (h : op < 1 ∨ 11 < op ∧ op ≤ 32 ∨ 49 < op) : formC op = 0 := by
 unfold formC
 rw [if_neg (by omega), if_neg (by omega), if_neg (by omega), if_neg (by omega), if_neg (by omega), if_neg (by omega), if_neg (by omega)]
theorem formIx0 (w : World) : (Instr.index 171 (.agg #[.int .u8 1, .string ⟨#[]⟩, .int .u8 2, .string ⟨#[]⟩, .int .u8 3, .string ⟨#[114, 110]⟩, .int .u8 4, .string ⟨#[114, 114]⟩, .int .u8 5, .string ⟨#[114, 114]⟩, .int .u8 6, .string ⟨#[114, 114]⟩, .int .u8 7, .string ⟨#[114, 114]⟩, .int .u8 8, .string ⟨#[114, 114, 112]⟩, .int .u8 9, .string ⟨#[116]⟩, .int .u8 10, .string ⟨#[114, 116]⟩, .int .u8 11, .string ⟨#[114, 116]⟩]) (.int .i64 0)).run Try.prog w = .ok (.agg #[.int .u8 1, .string ⟨#[]⟩]) w := by kernel_rfl
theorem formIx1 (w : World) : (Instr.index 171 (.agg #[.int .u8 1, .string ⟨#[]⟩, .int .u8 2, .string ⟨#[]⟩, .int .u8 3, .string ⟨#[114, 110]⟩, .int .u8 4, .string ⟨#[114, 114]⟩, .int .u8 5, .string ⟨#[114, 114]⟩, .int .u8 6, .string ⟨#[114, 114]⟩, .int .u8 7, .string ⟨#[114, 114]⟩, .int .u8 8, .string ⟨#[114, 114, 112]⟩, .int .u8 9, .string ⟨#[116]⟩, .int .u8 10, .string ⟨#[114, 116]⟩, .int .u8 11, .string ⟨#[114, 116]⟩]) (.int .i64 1)).run Try.prog w = .ok (.agg #[.int .u8 2, .string ⟨#[]⟩]) w := by kernel_rfl
theorem formIx2 (w : World) : (Instr.index 171 (.agg #[.int .u8 1, .string ⟨#[]⟩, .int .u8 2, .string ⟨#[]⟩, .int .u8 3, .string ⟨#[114, 110]⟩, .int .u8 4, .string ⟨#[114, 114]⟩, .int .u8 5, .string ⟨#[114, 114]⟩, .int .u8 6, .string ⟨#[114, 114]⟩, .int .u8 7, .string ⟨#[114, 114]⟩, .int .u8 8, .string ⟨#[114, 114, 112]⟩, .int .u8 9, .string ⟨#[116]⟩, .int .u8 10, .string ⟨#[114, 116]⟩, .int .u8 11, .string ⟨#[114, 116]⟩]) (.int .i64 2)).run Try.prog w = .ok (.agg #[.int .u8 3, .string ⟨#[114, 110]⟩]) w := by kernel_rfl
theorem formIx3 (w : World) : (Instr.index 171 (.agg #[.int .u8 1, .string ⟨#[]⟩, .int .u8 2, .string ⟨#[]⟩, .int .u8 3, .string ⟨#[114, 110]⟩, .int .u8 4, .string ⟨#[114, 114]⟩, .int .u8 5, .string ⟨#[114, 114]⟩, .int .u8 6, .string ⟨#[114, 114]⟩, .int .u8 7, .string ⟨#[114, 114]⟩, .int .u8 8, .string ⟨#[114, 114, 112]⟩, .int .u8 9, .string ⟨#[116]⟩, .int .u8 10, .string ⟨#[114, 116]⟩, .int .u8 11, .string ⟨#[114, 116]⟩]) (.int .i64 3)).run Try.prog w = .ok (.agg #[.int .u8 4, .string ⟨#[114, 114]⟩]) w := by kernel_rfl
theorem formIx4 (w : World) : (Instr.index 171 (.agg #[.int .u8 1, .string ⟨#[]⟩, .int .u8 2, .string ⟨#[]⟩, .int .u8 3, .string ⟨#[114, 110]⟩, .int .u8 4, .string ⟨#[114, 114]⟩, .int .u8 5, .string ⟨#[114, 114]⟩, .int .u8 6, .string ⟨#[114, 114]⟩, .int .u8 7, .string ⟨#[114, 114]⟩, .int .u8 8, .string ⟨#[114, 114, 112]⟩, .int .u8 9, .string ⟨#[116]⟩, .int .u8 10, .string ⟨#[114, 116]⟩, .int .u8 11, .string ⟨#[114, 116]⟩]) (.int .i64 4)).run Try.prog w = .ok (.agg #[.int .u8 5, .string ⟨#[114, 114]⟩]) w := by kernel_rfl
theorem formIx5 (w : World) : (Instr.index 171 (.agg #[.int .u8 1, .string ⟨#[]⟩, .int .u8 2, .string ⟨#[]⟩, .int .u8 3, .string ⟨#[114, 110]⟩, .int .u8 4, .string ⟨#[114, 114]⟩, .int .u8 5, .string ⟨#[114, 114]⟩, .int .u8 6, .string ⟨#[114, 114]⟩, .int .u8 7, .string ⟨#[114, 114]⟩, .int .u8 8, .string ⟨#[114, 114, 112]⟩, .int .u8 9, .string ⟨#[116]⟩, .int .u8 10, .string ⟨#[114, 116]⟩, .int .u8 11, .string ⟨#[114, 116]⟩]) (.int .i64 5)).run Try.prog w = .ok (.agg #[.int .u8 6, .string ⟨#[114, 114]⟩]) w := by kernel_rfl
theorem formIx6 (w : World) : (Instr.index 171 (.agg #[.int .u8 1, .string ⟨#[]⟩, .int .u8 2, .string ⟨#[]⟩, .int .u8 3, .string ⟨#[114, 110]⟩, .int .u8 4, .string ⟨#[114, 114]⟩, .int .u8 5, .string ⟨#[114, 114]⟩, .int .u8 6, .string ⟨#[114, 114]⟩, .int .u8 7, .string ⟨#[114, 114]⟩, .int .u8 8, .string ⟨#[114, 114, 112]⟩, .int .u8 9, .string ⟨#[116]⟩, .int .u8 10, .string ⟨#[114, 116]⟩, .int .u8 11, .string ⟨#[114, 116]⟩]) (.int .i64 6)).run Try.prog w = .ok (.agg #[.int .u8 7, .string ⟨#[114, 114]⟩]) w := by kernel_rfl
theorem formIx7 (w : World) : (Instr.index 171 (.agg #[.int .u8 1, .string ⟨#[]⟩, .int .u8 2, .string ⟨#[]⟩, .int .u8 3, .string ⟨#[114, 110]⟩, .int .u8 4, .string ⟨#[114, 114]⟩, .int .u8 5, .string ⟨#[114, 114]⟩, .int .u8 6, .string ⟨#[114, 114]⟩, .int .u8 7, .string ⟨#[114, 114]⟩, .int .u8 8, .string ⟨#[114, 114, 112]⟩, .int .u8 9, .string ⟨#[116]⟩, .int .u8 10, .string ⟨#[114, 116]⟩, .int .u8 11, .string ⟨#[114, 116]⟩]) (.int .i64 7)).run Try.prog w = .ok (.agg #[.int .u8 8, .string ⟨#[114, 114, 112]⟩]) w := by kernel_rfl
theorem formIx8 (w : World) : (Instr.index 171 (.agg #[.int .u8 1, .string ⟨#[]⟩, .int .u8 2, .string ⟨#[]⟩, .int .u8 3, .string ⟨#[114, 110]⟩, .int .u8 4, .string ⟨#[114, 114]⟩, .int .u8 5, .string ⟨#[114, 114]⟩, .int .u8 6, .string ⟨#[114, 114]⟩, .int .u8 7, .string ⟨#[114, 114]⟩, .int .u8 8, .string ⟨#[114, 114, 112]⟩, .int .u8 9, .string ⟨#[116]⟩, .int .u8 10, .string ⟨#[114, 116]⟩, .int .u8 11, .string ⟨#[114, 116]⟩]) (.int .i64 8)).run Try.prog w = .ok (.agg #[.int .u8 9, .string ⟨#[116]⟩]) w := by kernel_rfl
theorem formIx9 (w : World) : (Instr.index 171 (.agg #[.int .u8 1, .string ⟨#[]⟩, .int .u8 2, .string ⟨#[]⟩, .int .u8 3, .string ⟨#[114, 110]⟩, .int .u8 4, .string ⟨#[114, 114]⟩, .int .u8 5, .string ⟨#[114, 114]⟩, .int .u8 6, .string ⟨#[114, 114]⟩, .int .u8 7, .string ⟨#[114, 114]⟩, .int .u8 8, .string ⟨#[114, 114, 112]⟩, .int .u8 9, .string ⟨#[116]⟩, .int .u8 10, .string ⟨#[114, 116]⟩, .int .u8 11, .string ⟨#[114, 116]⟩]) (.int .i64 9)).run Try.prog w = .ok (.agg #[.int .u8 10, .string ⟨#[114, 116]⟩]) w := by kernel_rfl
theorem formIx10 (w : World) : (Instr.index 171 (.agg #[.int .u8 1, .string ⟨#[]⟩, .int .u8 2, .string ⟨#[]⟩, .int .u8 3, .string ⟨#[114, 110]⟩, .int .u8 4, .string ⟨#[114, 114]⟩, .int .u8 5, .string ⟨#[114, 114]⟩, .int .u8 6, .string ⟨#[114, 114]⟩, .int .u8 7, .string ⟨#[114, 114]⟩, .int .u8 8, .string ⟨#[114, 114, 112]⟩, .int .u8 9, .string ⟨#[116]⟩, .int .u8 10, .string ⟨#[114, 116]⟩, .int .u8 11, .string ⟨#[114, 116]⟩]) (.int .i64 10)).run Try.prog w = .ok (.agg #[.int .u8 11, .string ⟨#[114, 116]⟩]) w := by kernel_rfl
theorem form_rrr (op : Int) (w : World) (h0 : 32 < op) (h1 : op ≤ 49)  :
  Calls Try.prog 39 #[.int .u8 op] w fun e w' => e = .returned (.tuple #[.string ⟨#[114, 114, 114]⟩, .bool true]) ∧ Below w.heap.size w w' := by
 go_enter Try.func39, Try.ntmps39
 go_wp2
 go_ret2
 exact ⟨rfl, Below.refl _ _⟩
set_option maxRecDepth 100000 in
set_option maxHeartbeats 4000000 in
theorem form_lo (op : Int) (w : World) (h0 : 0 ≤ op) (h1 : op ≤ 32) :
  Calls Try.prog 39 #[.int .u8 op] w fun e w' => e = .returned (.tuple #[.string (yu_ (formC op)), .bool (formC op != 0)]) ∧ Below w.heap.size w w' := by
 go_enter Try.func39, Try.ntmps39
 go_wp2
 go_loopw [24] (fun k wr => ∃ n : Nat, k = .int .i64 n ∧ n ≤ 11 ∧ (op < 1 ∨ (n : Int) < op) ∧ Below w.heap.size w wr) (fun k _ => 11 - (intOf k).toNat)
 case atStart => exact ⟨0, rfl, by omega, by omega, Below.refl _ _⟩
 case round =>
  obtain ⟨n, rfl, hn, hop, hb⟩ := hrel
  have hz := hb.size
  have HB := Lib.hid hb
  clear hb
  have hN : n = 0 ∨ n = 1 ∨ n = 2 ∨ n = 3 ∨ n = 4 ∨ n = 5 ∨ n = 6 ∨ n = 7 ∨ n = 8 ∨ n = 9 ∨ n = 10 ∨ n = 11 := by omega
  rcases hN with rfl | rfl | rfl | rfl | rfl | rfl | rfl | rfl | rfl | rfl | rfl | rfl
  ·have i0 := formIx0
   go_wp2
   ·have he : (1 : Int) = op := beq_iff_eq.1 (by assumption)
    subst he
    go_ret2
    exact ⟨rfl, HB.out.alloc hz _⟩
   ·have he : (1 : Int) ≠ op := beq_eq_false_iff_ne.1 (by assumption)
    go_roundw
    case rel => exact ⟨1, by go_num, by omega, by omega, HB.out.alloc hz _⟩
    case measure => simp [intOf]
  ·have i0 := formIx1
   go_wp2
   ·have he : (2 : Int) = op := beq_iff_eq.1 (by assumption)
    subst he
    go_ret2
    exact ⟨rfl, HB.out.alloc hz _⟩
   ·have he : (2 : Int) ≠ op := beq_eq_false_iff_ne.1 (by assumption)
    go_roundw
    case rel => exact ⟨2, by go_num, by omega, by omega, HB.out.alloc hz _⟩
    case measure => simp [intOf]
  ·have i0 := formIx2
   go_wp2
   ·have he : (3 : Int) = op := beq_iff_eq.1 (by assumption)
    subst he
    go_ret2
    exact ⟨rfl, HB.out.alloc hz _⟩
   ·have he : (3 : Int) ≠ op := beq_eq_false_iff_ne.1 (by assumption)
    go_roundw
    case rel => exact ⟨3, by go_num, by omega, by omega, HB.out.alloc hz _⟩
    case measure => simp [intOf]
  ·have i0 := formIx3
   go_wp2
   ·have he : (4 : Int) = op := beq_iff_eq.1 (by assumption)
    subst he
    go_ret2
    exact ⟨rfl, HB.out.alloc hz _⟩
   ·have he : (4 : Int) ≠ op := beq_eq_false_iff_ne.1 (by assumption)
    go_roundw
    case rel => exact ⟨4, by go_num, by omega, by omega, HB.out.alloc hz _⟩
    case measure => simp [intOf]
  ·have i0 := formIx4
   go_wp2
   ·have he : (5 : Int) = op := beq_iff_eq.1 (by assumption)
    subst he
    go_ret2
    exact ⟨rfl, HB.out.alloc hz _⟩
   ·have he : (5 : Int) ≠ op := beq_eq_false_iff_ne.1 (by assumption)
    go_roundw
    case rel => exact ⟨5, by go_num, by omega, by omega, HB.out.alloc hz _⟩
    case measure => simp [intOf]
  ·have i0 := formIx5
   go_wp2
   ·have he : (6 : Int) = op := beq_iff_eq.1 (by assumption)
    subst he
    go_ret2
    exact ⟨rfl, HB.out.alloc hz _⟩
   ·have he : (6 : Int) ≠ op := beq_eq_false_iff_ne.1 (by assumption)
    go_roundw
    case rel => exact ⟨6, by go_num, by omega, by omega, HB.out.alloc hz _⟩
    case measure => simp [intOf]
  ·have i0 := formIx6
   go_wp2
   ·have he : (7 : Int) = op := beq_iff_eq.1 (by assumption)
    subst he
    go_ret2
    exact ⟨rfl, HB.out.alloc hz _⟩
   ·have he : (7 : Int) ≠ op := beq_eq_false_iff_ne.1 (by assumption)
    go_roundw
    case rel => exact ⟨7, by go_num, by omega, by omega, HB.out.alloc hz _⟩
    case measure => simp [intOf]
  ·have i0 := formIx7
   go_wp2
   ·have he : (8 : Int) = op := beq_iff_eq.1 (by assumption)
    subst he
    go_ret2
    exact ⟨rfl, HB.out.alloc hz _⟩
   ·have he : (8 : Int) ≠ op := beq_eq_false_iff_ne.1 (by assumption)
    go_roundw
    case rel => exact ⟨8, by go_num, by omega, by omega, HB.out.alloc hz _⟩
    case measure => simp [intOf]
  ·have i0 := formIx8
   go_wp2
   ·have he : (9 : Int) = op := beq_iff_eq.1 (by assumption)
    subst he
    go_ret2
    exact ⟨rfl, HB.out.alloc hz _⟩
   ·have he : (9 : Int) ≠ op := beq_eq_false_iff_ne.1 (by assumption)
    go_roundw
    case rel => exact ⟨9, by go_num, by omega, by omega, HB.out.alloc hz _⟩
    case measure => simp [intOf]
  ·have i0 := formIx9
   go_wp2
   ·have he : (10 : Int) = op := beq_iff_eq.1 (by assumption)
    subst he
    go_ret2
    exact ⟨rfl, HB.out.alloc hz _⟩
   ·have he : (10 : Int) ≠ op := beq_eq_false_iff_ne.1 (by assumption)
    go_roundw
    case rel => exact ⟨10, by go_num, by omega, by omega, HB.out.alloc hz _⟩
    case measure => simp [intOf]
  ·have i0 := formIx10
   go_wp2
   ·have he : (11 : Int) = op := beq_iff_eq.1 (by assumption)
    subst he
    go_ret2
    exact ⟨rfl, HB.out.alloc hz _⟩
   ·have he : (11 : Int) ≠ op := beq_eq_false_iff_ne.1 (by assumption)
    go_roundw
    case rel => exact ⟨11, by go_num, by omega, by omega, HB.out.alloc hz _⟩
    case measure => simp [intOf]
  ·go_wp2
   go_ret2
   refine ⟨?_, HB.out⟩
   rw [formC_none op (by omega)]
   rfl
set_option maxRecDepth 100000 in
set_option maxHeartbeats 4000000 in
theorem form_hi (op : Int) (w : World) (h1 : 49 < op) :
  Calls Try.prog 39 #[.int .u8 op] w fun e w' => e = .returned (.tuple #[.string (yu_ (formC op)), .bool (formC op != 0)]) ∧ Below w.heap.size w w' := by
 have h32 : 32 < op := by omega
 go_enter Try.func39, Try.ntmps39
 go_wp2
 go_loopw [24] (fun k wr => ∃ n : Nat, k = .int .i64 n ∧ n ≤ 11 ∧ (op < 1 ∨ (n : Int) < op) ∧ Below w.heap.size w wr) (fun k _ => 11 - (intOf k).toNat)
 case atStart => exact ⟨0, rfl, by omega, by omega, Below.refl _ _⟩
 case round =>
  obtain ⟨n, rfl, hn, hop, hb⟩ := hrel
  have hz := hb.size
  have HB := Lib.hid hb
  clear hb
  have hN : n = 0 ∨ n = 1 ∨ n = 2 ∨ n = 3 ∨ n = 4 ∨ n = 5 ∨ n = 6 ∨ n = 7 ∨ n = 8 ∨ n = 9 ∨ n = 10 ∨ n = 11 := by omega
  rcases hN with rfl | rfl | rfl | rfl | rfl | rfl | rfl | rfl | rfl | rfl | rfl | rfl
  ·have i0 := formIx0
   have he : ((1 : Int) == op) = false := beq_eq_false_iff_ne.2 (by omega)
   go_wp2
   go_roundw
   case rel => exact ⟨1, by go_num, by omega, by omega, HB.out.alloc hz _⟩
   case measure => simp [intOf]
  ·have i0 := formIx1
   have he : ((2 : Int) == op) = false := beq_eq_false_iff_ne.2 (by omega)
   go_wp2
   go_roundw
   case rel => exact ⟨2, by go_num, by omega, by omega, HB.out.alloc hz _⟩
   case measure => simp [intOf]
  ·have i0 := formIx2
   have he : ((3 : Int) == op) = false := beq_eq_false_iff_ne.2 (by omega)
   go_wp2
   go_roundw
   case rel => exact ⟨3, by go_num, by omega, by omega, HB.out.alloc hz _⟩
   case measure => simp [intOf]
  ·have i0 := formIx3
   have he : ((4 : Int) == op) = false := beq_eq_false_iff_ne.2 (by omega)
   go_wp2
   go_roundw
   case rel => exact ⟨4, by go_num, by omega, by omega, HB.out.alloc hz _⟩
   case measure => simp [intOf]
  ·have i0 := formIx4
   have he : ((5 : Int) == op) = false := beq_eq_false_iff_ne.2 (by omega)
   go_wp2
   go_roundw
   case rel => exact ⟨5, by go_num, by omega, by omega, HB.out.alloc hz _⟩
   case measure => simp [intOf]
  ·have i0 := formIx5
   have he : ((6 : Int) == op) = false := beq_eq_false_iff_ne.2 (by omega)
   go_wp2
   go_roundw
   case rel => exact ⟨6, by go_num, by omega, by omega, HB.out.alloc hz _⟩
   case measure => simp [intOf]
  ·have i0 := formIx6
   have he : ((7 : Int) == op) = false := beq_eq_false_iff_ne.2 (by omega)
   go_wp2
   go_roundw
   case rel => exact ⟨7, by go_num, by omega, by omega, HB.out.alloc hz _⟩
   case measure => simp [intOf]
  ·have i0 := formIx7
   have he : ((8 : Int) == op) = false := beq_eq_false_iff_ne.2 (by omega)
   go_wp2
   go_roundw
   case rel => exact ⟨8, by go_num, by omega, by omega, HB.out.alloc hz _⟩
   case measure => simp [intOf]
  ·have i0 := formIx8
   have he : ((9 : Int) == op) = false := beq_eq_false_iff_ne.2 (by omega)
   go_wp2
   go_roundw
   case rel => exact ⟨9, by go_num, by omega, by omega, HB.out.alloc hz _⟩
   case measure => simp [intOf]
  ·have i0 := formIx9
   have he : ((10 : Int) == op) = false := beq_eq_false_iff_ne.2 (by omega)
   go_wp2
   go_roundw
   case rel => exact ⟨10, by go_num, by omega, by omega, HB.out.alloc hz _⟩
   case measure => simp [intOf]
  ·have i0 := formIx10
   have he : ((11 : Int) == op) = false := beq_eq_false_iff_ne.2 (by omega)
   go_wp2
   go_roundw
   case rel => exact ⟨11, by go_num, by omega, by omega, HB.out.alloc hz _⟩
   case measure => simp [intOf]
  ·go_wp2
   go_ret2
   refine ⟨?_, HB.out⟩
   rw [formC_none op (by omega)]
   rfl
theorem eq3 (x y z a b c : Int) (w : World) : (Op.equalIn 10000 107 (.agg #[.int .u8 x, .int .u8 y, .int .u8 z]) (.agg #[.int .u8 a, .int .u8 b, .int .u8 c])).run Try.prog w = .ok (x == a && (y == b && z == c)) w := by
 have h1 : ∀ (x a : Int) (w : World), (Op.equalIn 9999 5 (.int .u8 x) (.int .u8 a)).run Try.prog w = .ok (x == a) w := fun x a w => run_equalIn_int w 9998 5 .u8 .u8 x a (by kernel_rfl)
 have hs : ∀ w, (sizeOf 5).run Try.prog w = .ok 1 w := fun w => by kernel_rfl
 have hu : ∀ w, (underlying 107).run Try.prog w = .ok (.array 3 5) w := fun w => by kernel_rfl
 have p0 : ∀ (x y z : Int) w, (part 5 #[.int .u8 x, .int .u8 y, .int .u8 z] 0).run Try.prog w = .ok (.int .u8 x) w := fun x y z w => by kernel_rfl
 have p1 : ∀ (x y z : Int) w, (part 5 #[.int .u8 x, .int .u8 y, .int .u8 z] 1).run Try.prog w = .ok (.int .u8 y) w := fun x y z w => by kernel_rfl
 have p2 : ∀ (x y z : Int) w, (part 5 #[.int .u8 x, .int .u8 y, .int .u8 z] 2).run Try.prog w = .ok (.int .u8 z) w := fun x y z w => by kernel_rfl
 rw [Op.equalIn]
 simp only [Sem.run_bind, hu, Result.andThen_ok, hs]
 simp only [Std.Legacy.Range.forIn_eq_forIn_range', Std.Legacy.Range.size]
 simp [List.range'_succ, p0, p1, p2, h1, ite_okB]
set_option maxRecDepth 100000 in
theorem registers_c (op a b c n : Int) (w : World) : Calls Try.prog 124 #[.agg #[.int .u8 op, .int .u8 a, .int .u8 b, .int .u8 c, .int .i64 n]] w fun e w' =>
  e = .returned (.agg #[.int .u8 a, .int .u8 b, .int .u8 c]) ∧ Below w.heap.size w w' := by
 go_enter Try.func124, Try.ntmps124
 go_wp2
 exact bodyPost_ret (v := .agg #[.int .u8 a, .int .u8 b, .int .u8 c]) (by simp [results, Try.results124, go_sem]) rfl ⟨rfl, ((Below.refl _ _).alloc (Nat.le_refl _) _).alloc (by simp) _⟩
set_option maxRecDepth 100000 in
set_option maxHeartbeats 4000000 in
theorem one_k1 (op a b c n : Int) (w : World) (a0 : 0 ≤ a) (a1 : a ≤ 255) (b0 : 0 ≤ b) (b1 : b ≤ 255) (c0 : 0 ≤ c) (c1 : c ≤ 255)
   (hform : ∀ w, Calls Try.prog 39 #[.int .u8 op] w fun e w' => e = .returned (.tuple #[.string ⟨#[114, 114, 114]⟩, .bool true]) ∧ Below w.heap.size w w') :
    Calls Try.prog 97 #[.agg #[.int .u8 op, .int .u8 a, .int .u8 b, .int .u8 c, .int .i64 n]] w fun e w' => e = .returned (.int .i64 (oneK 1 a b c n)) ∧ Below w.heap.size w w' := by
  go_enter Try.func97, Try.ntmps97
  have HF := Lib.hid hform
  clear hform
  go_wp2_with fail
  refine (HF.out _).mono ?_
  rintro e w1 ⟨rfl, hb1⟩
  have hz1 := hb1.size
  simp at hz1
  have hz1' : w.heap.size < w1.heap.size := by omega
  have c1_ : ∀ o, w1.cell? ⟨w.heap.size, o, none⟩ = #[Value.int .u8 op, .int .u8 a, .int .u8 b, .int .u8 c, .int .i64 n][o]? := fun o => by
    rw [hb1.cell (p := ⟨w.heap.size, o, none⟩) (by simp)]; exact cell_of_row _ _ _ _ _ _ (heap_alloc_new w _)
  have HB1 := Lib.hid (((Below.refl _ w).alloc (Nat.le_refl _) _).trans (hb1.mono (by simp)))
  clear hb1 HF
  go_upto_region 4 with fail
  go_cut [5, 6] (fun p m W => ∃ g, p = .pointer (some ⟨g, 0, none⟩) ∧ m = .int .i64 n ∧ w.heap.size ≤ g ∧ g < W.heap.size ∧ Below w.heap.size w W ∧ W.cell? ⟨g, 0, none⟩ = some (.int .u8 a) ∧ W.cell? ⟨g, 1, none⟩ = some (.int .u8 b) ∧ W.cell? ⟨g, 2, none⟩ = some (.int .u8 c) ∧ (∀ o, W.frozen? ⟨g, o, none⟩ = false))
  case first =>
    go_region_held3 (fun W => Below w1.heap.size w1 W ∧ ∀ b o, b < w1.heap.size → W.cell? ⟨b, o, none⟩ = w1.cell? ⟨b, o, none⟩)
      (repeat' (first | exact preD | assumption | exact preR | refine preB ?_ hb2 | refine preE ?_ | refine preA ?_ _ | refine preS ?_ ?_ _ | omega | (simp; done) | (simp; omega)))
      ((go_at_call 124; refine (registers_c _ _ _ _ _ _).mono ?_; rintro e w2 ⟨rfl, hb2⟩; obtain ⟨hc2, hf2⟩ := bcell hb2; have hz2 := hb2.size; simp at hz2))
    all_goals (go_wp2_with fail; go_meet)
    all_goals refine ⟨_, rfl, rfl, ?_, ?_, HB1.out.trans (Below.mono (And.left (by assumption)) (by omega)), ?_, ?_, ?_, ?_⟩
    all_goals first | omega | (simp; omega) | go_simp | skip
  case rest =>
    obtain ⟨g, rfl, rfl, hg1, hg2, hB, h0, h1, h2, hf⟩ := hcut
    have hz := hB.size
    have HB := Lib.hid hB
    have e3 := fun x y z w => eq3 x y z 0 0 0 w
    clear hB HB1 c1_ hz1 hz1'
    have i1 := fun W (p i : Nat) v => iter_setCell W ⟨#[114, 114, 114]⟩ p g i v
    have i2 := fun W (p i : Nat) => iter_cell W ⟨#[114, 114, 114]⟩ p g i
    have i3 := fun W (p i : Nat) => iter_frozen W ⟨#[114, 114, 114]⟩ p g i
    have n0_ := fun W n ty hn => next_at (P := Try.prog) W ⟨#[114, 114, 114]⟩ 0 1 n 114 ty hn (by decide) (by decide) (by decide) rfl
    have n1_ := fun W n ty hn => next_at (P := Try.prog) W ⟨#[114, 114, 114]⟩ 1 2 n 114 ty hn (by decide) (by decide) (by decide) rfl
    have n2_ := fun W n ty hn => next_at (P := Try.prog) W ⟨#[114, 114, 114]⟩ 2 3 n 114 ty hn (by decide) (by decide) (by decide) rfl
    have n3_ := fun W n ty hn => next_end (P := Try.prog) W ⟨#[114, 114, 114]⟩ 3 n ty hn (by decide)
    go_wp2
    refine wp_loop_rounds 4 ?_
    all_goals (rw [rounds_succ]; go_wp2)
    any_goals (rw [rounds_succ]; go_wp2)
    any_goals (rw [rounds_succ]; go_wp2)
    any_goals (rw [rounds_succ]; go_wp2)
    all_goals (go_ret; refine ⟨ret_i64 ?_, ?_⟩)
    all_goals first
      | exact HB.out.alloc hz _
      | exact (HB.out.setCell (p := ⟨g, _, none⟩) hg1 _).alloc (by simp; omega) _
      | exact ((HB.out.setCell (p := ⟨g, _, none⟩) hg1 _).setCell (p := ⟨g, _, none⟩) hg1 _).alloc (by simp; omega) _
      | exact (((HB.out.setCell (p := ⟨g, _, none⟩) hg1 _).setCell (p := ⟨g, _, none⟩) hg1 _).setCell (p := ⟨g, _, none⟩) hg1 _).alloc (by simp; omega) _
      | (rw [oneK_pos (by simp only [y5_]; omega)])
      | (rw [yr_ (by simp only [y5_]; omega)])
      | (have hn : (n != 0) = true := by assumption
         rw [bne_iff_ne] at hn
         rw [yr_ (by simp only [y5_]; omega)])
      | (have hn : (n != 0) = false := by assumption
         rw [bne_eq_false_iff_eq] at hn
         rw [oneK_pos (by simp only [y5_]; omega)])
      | (have hn : (n != 0) = false := by assumption
         rw [bne_eq_false_iff_eq] at hn
         rw [yr_ (by simp only [y5_]; omega)])
set_option maxRecDepth 100000 in
set_option maxHeartbeats 4000000 in
theorem one_k2 (op a b c n : Int) (w : World) (a0 : 0 ≤ a) (a1 : a ≤ 255) (b0 : 0 ≤ b) (b1 : b ≤ 255) (c0 : 0 ≤ c) (c1 : c ≤ 255)
   (hform : ∀ w, Calls Try.prog 39 #[.int .u8 op] w fun e w' => e = .returned (.tuple #[.string ⟨#[]⟩, .bool true]) ∧ Below w.heap.size w w') :
    Calls Try.prog 97 #[.agg #[.int .u8 op, .int .u8 a, .int .u8 b, .int .u8 c, .int .i64 n]] w fun e w' => e = .returned (.int .i64 (oneK 2 a b c n)) ∧ Below w.heap.size w w' := by
  go_enter Try.func97, Try.ntmps97
  have HF := Lib.hid hform
  clear hform
  go_wp2_with fail
  refine (HF.out _).mono ?_
  rintro e w1 ⟨rfl, hb1⟩
  have hz1 := hb1.size
  simp at hz1
  have hz1' : w.heap.size < w1.heap.size := by omega
  have c1_ : ∀ o, w1.cell? ⟨w.heap.size, o, none⟩ = #[Value.int .u8 op, .int .u8 a, .int .u8 b, .int .u8 c, .int .i64 n][o]? := fun o => by
    rw [hb1.cell (p := ⟨w.heap.size, o, none⟩) (by simp)]; exact cell_of_row _ _ _ _ _ _ (heap_alloc_new w _)
  have HB1 := Lib.hid (((Below.refl _ w).alloc (Nat.le_refl _) _).trans (hb1.mono (by simp)))
  clear hb1 HF
  go_upto_region 4 with fail
  go_cut [5, 6] (fun p m W => ∃ g, p = .pointer (some ⟨g, 0, none⟩) ∧ m = .int .i64 n ∧ w.heap.size ≤ g ∧ g < W.heap.size ∧ Below w.heap.size w W ∧ W.cell? ⟨g, 0, none⟩ = some (.int .u8 a) ∧ W.cell? ⟨g, 1, none⟩ = some (.int .u8 b) ∧ W.cell? ⟨g, 2, none⟩ = some (.int .u8 c) ∧ (∀ o, W.frozen? ⟨g, o, none⟩ = false))
  case first =>
    go_region_held3 (fun W => Below w1.heap.size w1 W ∧ ∀ b o, b < w1.heap.size → W.cell? ⟨b, o, none⟩ = w1.cell? ⟨b, o, none⟩)
      (repeat' (first | exact preD | assumption | exact preR | refine preB ?_ hb2 | refine preE ?_ | refine preA ?_ _ | refine preS ?_ ?_ _ | omega | (simp; done) | (simp; omega)))
      ((go_at_call 124; refine (registers_c _ _ _ _ _ _).mono ?_; rintro e w2 ⟨rfl, hb2⟩; obtain ⟨hc2, hf2⟩ := bcell hb2; have hz2 := hb2.size; simp at hz2))
    all_goals (go_wp2_with fail; go_meet)
    all_goals refine ⟨_, rfl, rfl, ?_, ?_, HB1.out.trans (Below.mono (And.left (by assumption)) (by omega)), ?_, ?_, ?_, ?_⟩
    all_goals first | omega | (simp; omega) | go_simp | skip
  case rest =>
    obtain ⟨g, rfl, rfl, hg1, hg2, hB, h0, h1, h2, hf⟩ := hcut
    have hz := hB.size
    have HB := Lib.hid hB
    have e3 := fun x y z w => eq3 x y z 0 0 0 w
    clear hB HB1 c1_ hz1 hz1'
    have i1 := fun W (p i : Nat) v => iter_setCell W ⟨#[]⟩ p g i v
    have i2 := fun W (p i : Nat) => iter_cell W ⟨#[]⟩ p g i
    have i3 := fun W (p i : Nat) => iter_frozen W ⟨#[]⟩ p g i
    have n0_ := fun W n ty hn => next_end (P := Try.prog) W ⟨#[]⟩ 0 n ty hn (by decide)
    go_wp2
    refine wp_loop_rounds 1 ?_
    all_goals (rw [rounds_succ]; go_wp2)
    all_goals (go_ret; refine ⟨ret_i64 ?_, ?_⟩)
    all_goals first
      | exact HB.out.alloc hz _
      | exact (HB.out.setCell (p := ⟨g, _, none⟩) hg1 _).alloc (by simp; omega) _
      | exact ((HB.out.setCell (p := ⟨g, _, none⟩) hg1 _).setCell (p := ⟨g, _, none⟩) hg1 _).alloc (by simp; omega) _
      | exact (((HB.out.setCell (p := ⟨g, _, none⟩) hg1 _).setCell (p := ⟨g, _, none⟩) hg1 _).setCell (p := ⟨g, _, none⟩) hg1 _).alloc (by simp; omega) _
      | (rw [oneK_pos (by simp only [y5_]; omega)])
      | (rw [yr_ (by simp only [y5_]; omega)])
      | (have hn : (n != 0) = true := by assumption
         rw [bne_iff_ne] at hn
         rw [yr_ (by simp only [y5_]; omega)])
      | (have hn : (n != 0) = false := by assumption
         rw [bne_eq_false_iff_eq] at hn
         rw [oneK_pos (by simp only [y5_]; omega)])
      | (have hn : (n != 0) = false := by assumption
         rw [bne_eq_false_iff_eq] at hn
         rw [yr_ (by simp only [y5_]; omega)])
set_option maxRecDepth 100000 in
set_option maxHeartbeats 4000000 in
theorem one_k3 (op a b c n : Int) (w : World) (a0 : 0 ≤ a) (a1 : a ≤ 255) (b0 : 0 ≤ b) (b1 : b ≤ 255) (c0 : 0 ≤ c) (c1 : c ≤ 255)
   (hform : ∀ w, Calls Try.prog 39 #[.int .u8 op] w fun e w' => e = .returned (.tuple #[.string ⟨#[114, 110]⟩, .bool true]) ∧ Below w.heap.size w w') :
    Calls Try.prog 97 #[.agg #[.int .u8 op, .int .u8 a, .int .u8 b, .int .u8 c, .int .i64 n]] w fun e w' => e = .returned (.int .i64 (oneK 3 a b c n)) ∧ Below w.heap.size w w' := by
  go_enter Try.func97, Try.ntmps97
  have HF := Lib.hid hform
  clear hform
  go_wp2_with fail
  refine (HF.out _).mono ?_
  rintro e w1 ⟨rfl, hb1⟩
  have hz1 := hb1.size
  simp at hz1
  have hz1' : w.heap.size < w1.heap.size := by omega
  have c1_ : ∀ o, w1.cell? ⟨w.heap.size, o, none⟩ = #[Value.int .u8 op, .int .u8 a, .int .u8 b, .int .u8 c, .int .i64 n][o]? := fun o => by
    rw [hb1.cell (p := ⟨w.heap.size, o, none⟩) (by simp)]; exact cell_of_row _ _ _ _ _ _ (heap_alloc_new w _)
  have HB1 := Lib.hid (((Below.refl _ w).alloc (Nat.le_refl _) _).trans (hb1.mono (by simp)))
  clear hb1 HF
  go_upto_region 4 with fail
  go_cut [5, 6] (fun p m W => ∃ g, p = .pointer (some ⟨g, 0, none⟩) ∧ m = .int .i64 n ∧ w.heap.size ≤ g ∧ g < W.heap.size ∧ Below w.heap.size w W ∧ W.cell? ⟨g, 0, none⟩ = some (.int .u8 a) ∧ W.cell? ⟨g, 1, none⟩ = some (.int .u8 b) ∧ W.cell? ⟨g, 2, none⟩ = some (.int .u8 c) ∧ (∀ o, W.frozen? ⟨g, o, none⟩ = false))
  case first =>
    go_region_held3 (fun W => Below w1.heap.size w1 W ∧ ∀ b o, b < w1.heap.size → W.cell? ⟨b, o, none⟩ = w1.cell? ⟨b, o, none⟩)
      (repeat' (first | exact preD | assumption | exact preR | refine preB ?_ hb2 | refine preE ?_ | refine preA ?_ _ | refine preS ?_ ?_ _ | omega | (simp; done) | (simp; omega)))
      ((go_at_call 124; refine (registers_c _ _ _ _ _ _).mono ?_; rintro e w2 ⟨rfl, hb2⟩; obtain ⟨hc2, hf2⟩ := bcell hb2; have hz2 := hb2.size; simp at hz2))
    all_goals (go_wp2_with fail; go_meet)
    all_goals refine ⟨_, rfl, rfl, ?_, ?_, HB1.out.trans (Below.mono (And.left (by assumption)) (by omega)), ?_, ?_, ?_, ?_⟩
    all_goals first | omega | (simp; omega) | go_simp | skip
  case rest =>
    obtain ⟨g, rfl, rfl, hg1, hg2, hB, h0, h1, h2, hf⟩ := hcut
    have hz := hB.size
    have HB := Lib.hid hB
    have e3 := fun x y z w => eq3 x y z 0 0 0 w
    clear hB HB1 c1_ hz1 hz1'
    have i1 := fun W (p i : Nat) v => iter_setCell W ⟨#[114, 110]⟩ p g i v
    have i2 := fun W (p i : Nat) => iter_cell W ⟨#[114, 110]⟩ p g i
    have i3 := fun W (p i : Nat) => iter_frozen W ⟨#[114, 110]⟩ p g i
    have n0_ := fun W n ty hn => next_at (P := Try.prog) W ⟨#[114, 110]⟩ 0 1 n 114 ty hn (by decide) (by decide) (by decide) rfl
    have n1_ := fun W n ty hn => next_at (P := Try.prog) W ⟨#[114, 110]⟩ 1 2 n 110 ty hn (by decide) (by decide) (by decide) rfl
    have n2_ := fun W n ty hn => next_end (P := Try.prog) W ⟨#[114, 110]⟩ 2 n ty hn (by decide)
    go_wp2
    refine wp_loop_rounds 3 ?_
    all_goals (rw [rounds_succ]; go_wp2)
    any_goals (rw [rounds_succ]; go_wp2)
    any_goals (rw [rounds_succ]; go_wp2)
    all_goals (go_ret; refine ⟨ret_i64 ?_, ?_⟩)
    all_goals first
      | exact HB.out.alloc hz _
      | exact (HB.out.setCell (p := ⟨g, _, none⟩) hg1 _).alloc (by simp; omega) _
      | exact ((HB.out.setCell (p := ⟨g, _, none⟩) hg1 _).setCell (p := ⟨g, _, none⟩) hg1 _).alloc (by simp; omega) _
      | exact (((HB.out.setCell (p := ⟨g, _, none⟩) hg1 _).setCell (p := ⟨g, _, none⟩) hg1 _).setCell (p := ⟨g, _, none⟩) hg1 _).alloc (by simp; omega) _
      | (rw [oneK_pos (by simp only [y5_]; omega)])
      | (rw [yr_ (by simp only [y5_]; omega)])
      | (have hn : (n != 0) = true := by assumption
         rw [bne_iff_ne] at hn
         rw [yr_ (by simp only [y5_]; omega)])
      | (have hn : (n != 0) = false := by assumption
         rw [bne_eq_false_iff_eq] at hn
         rw [oneK_pos (by simp only [y5_]; omega)])
      | (have hn : (n != 0) = false := by assumption
         rw [bne_eq_false_iff_eq] at hn
         rw [yr_ (by simp only [y5_]; omega)])
set_option maxRecDepth 100000 in
set_option maxHeartbeats 4000000 in
theorem one_k4 (op a b c n : Int) (w : World) (a0 : 0 ≤ a) (a1 : a ≤ 255) (b0 : 0 ≤ b) (b1 : b ≤ 255) (c0 : 0 ≤ c) (c1 : c ≤ 255)
   (hform : ∀ w, Calls Try.prog 39 #[.int .u8 op] w fun e w' => e = .returned (.tuple #[.string ⟨#[114, 114]⟩, .bool true]) ∧ Below w.heap.size w w') :
    Calls Try.prog 97 #[.agg #[.int .u8 op, .int .u8 a, .int .u8 b, .int .u8 c, .int .i64 n]] w fun e w' => e = .returned (.int .i64 (oneK 4 a b c n)) ∧ Below w.heap.size w w' := by
  go_enter Try.func97, Try.ntmps97
  have HF := Lib.hid hform
  clear hform
  go_wp2_with fail
  refine (HF.out _).mono ?_
  rintro e w1 ⟨rfl, hb1⟩
  have hz1 := hb1.size
  simp at hz1
  have hz1' : w.heap.size < w1.heap.size := by omega
  have c1_ : ∀ o, w1.cell? ⟨w.heap.size, o, none⟩ = #[Value.int .u8 op, .int .u8 a, .int .u8 b, .int .u8 c, .int .i64 n][o]? := fun o => by
    rw [hb1.cell (p := ⟨w.heap.size, o, none⟩) (by simp)]; exact cell_of_row _ _ _ _ _ _ (heap_alloc_new w _)
  have HB1 := Lib.hid (((Below.refl _ w).alloc (Nat.le_refl _) _).trans (hb1.mono (by simp)))
  clear hb1 HF
  go_upto_region 4 with fail
  go_cut [5, 6] (fun p m W => ∃ g, p = .pointer (some ⟨g, 0, none⟩) ∧ m = .int .i64 n ∧ w.heap.size ≤ g ∧ g < W.heap.size ∧ Below w.heap.size w W ∧ W.cell? ⟨g, 0, none⟩ = some (.int .u8 a) ∧ W.cell? ⟨g, 1, none⟩ = some (.int .u8 b) ∧ W.cell? ⟨g, 2, none⟩ = some (.int .u8 c) ∧ (∀ o, W.frozen? ⟨g, o, none⟩ = false))
  case first =>
    go_region_held3 (fun W => Below w1.heap.size w1 W ∧ ∀ b o, b < w1.heap.size → W.cell? ⟨b, o, none⟩ = w1.cell? ⟨b, o, none⟩)
      (repeat' (first | exact preD | assumption | exact preR | refine preB ?_ hb2 | refine preE ?_ | refine preA ?_ _ | refine preS ?_ ?_ _ | omega | (simp; done) | (simp; omega)))
      ((go_at_call 124; refine (registers_c _ _ _ _ _ _).mono ?_; rintro e w2 ⟨rfl, hb2⟩; obtain ⟨hc2, hf2⟩ := bcell hb2; have hz2 := hb2.size; simp at hz2))
    all_goals (go_wp2_with fail; go_meet)
    all_goals refine ⟨_, rfl, rfl, ?_, ?_, HB1.out.trans (Below.mono (And.left (by assumption)) (by omega)), ?_, ?_, ?_, ?_⟩
    all_goals first | omega | (simp; omega) | go_simp | skip
  case rest =>
    obtain ⟨g, rfl, rfl, hg1, hg2, hB, h0, h1, h2, hf⟩ := hcut
    have hz := hB.size
    have HB := Lib.hid hB
    have e3 := fun x y z w => eq3 x y z 0 0 0 w
    clear hB HB1 c1_ hz1 hz1'
    have i1 := fun W (p i : Nat) v => iter_setCell W ⟨#[114, 114]⟩ p g i v
    have i2 := fun W (p i : Nat) => iter_cell W ⟨#[114, 114]⟩ p g i
    have i3 := fun W (p i : Nat) => iter_frozen W ⟨#[114, 114]⟩ p g i
    have n0_ := fun W n ty hn => next_at (P := Try.prog) W ⟨#[114, 114]⟩ 0 1 n 114 ty hn (by decide) (by decide) (by decide) rfl
    have n1_ := fun W n ty hn => next_at (P := Try.prog) W ⟨#[114, 114]⟩ 1 2 n 114 ty hn (by decide) (by decide) (by decide) rfl
    have n2_ := fun W n ty hn => next_end (P := Try.prog) W ⟨#[114, 114]⟩ 2 n ty hn (by decide)
    go_wp2
    refine wp_loop_rounds 3 ?_
    all_goals (rw [rounds_succ]; go_wp2)
    any_goals (rw [rounds_succ]; go_wp2)
    any_goals (rw [rounds_succ]; go_wp2)
    all_goals (go_ret; refine ⟨ret_i64 ?_, ?_⟩)
    all_goals first
      | exact HB.out.alloc hz _
      | exact (HB.out.setCell (p := ⟨g, _, none⟩) hg1 _).alloc (by simp; omega) _
      | exact ((HB.out.setCell (p := ⟨g, _, none⟩) hg1 _).setCell (p := ⟨g, _, none⟩) hg1 _).alloc (by simp; omega) _
      | exact (((HB.out.setCell (p := ⟨g, _, none⟩) hg1 _).setCell (p := ⟨g, _, none⟩) hg1 _).setCell (p := ⟨g, _, none⟩) hg1 _).alloc (by simp; omega) _
      | (rw [oneK_pos (by simp only [y5_]; omega)])
      | (rw [yr_ (by simp only [y5_]; omega)])
      | (have hn : (n != 0) = true := by assumption
         rw [bne_iff_ne] at hn
         rw [yr_ (by simp only [y5_]; omega)])
      | (have hn : (n != 0) = false := by assumption
         rw [bne_eq_false_iff_eq] at hn
         rw [oneK_pos (by simp only [y5_]; omega)])
      | (have hn : (n != 0) = false := by assumption
         rw [bne_eq_false_iff_eq] at hn
         rw [yr_ (by simp only [y5_]; omega)])
set_option maxRecDepth 100000 in
set_option maxHeartbeats 4000000 in
theorem one_k5 (op a b c n : Int) (w : World) (a0 : 0 ≤ a) (a1 : a ≤ 255) (b0 : 0 ≤ b) (b1 : b ≤ 255) (c0 : 0 ≤ c) (c1 : c ≤ 255)
   (hform : ∀ w, Calls Try.prog 39 #[.int .u8 op] w fun e w' => e = .returned (.tuple #[.string ⟨#[114, 114, 112]⟩, .bool true]) ∧ Below w.heap.size w w') :
    Calls Try.prog 97 #[.agg #[.int .u8 op, .int .u8 a, .int .u8 b, .int .u8 c, .int .i64 n]] w fun e w' => e = .returned (.int .i64 (oneK 5 a b c n)) ∧ Below w.heap.size w w' := by
  go_enter Try.func97, Try.ntmps97
  have HF := Lib.hid hform
  clear hform
  go_wp2_with fail
  refine (HF.out _).mono ?_
  rintro e w1 ⟨rfl, hb1⟩
  have hz1 := hb1.size
  simp at hz1
  have hz1' : w.heap.size < w1.heap.size := by omega
  have c1_ : ∀ o, w1.cell? ⟨w.heap.size, o, none⟩ = #[Value.int .u8 op, .int .u8 a, .int .u8 b, .int .u8 c, .int .i64 n][o]? := fun o => by
    rw [hb1.cell (p := ⟨w.heap.size, o, none⟩) (by simp)]; exact cell_of_row _ _ _ _ _ _ (heap_alloc_new w _)
  have HB1 := Lib.hid (((Below.refl _ w).alloc (Nat.le_refl _) _).trans (hb1.mono (by simp)))
  clear hb1 HF
  go_upto_region 4 with fail
  go_cut [5, 6] (fun p m W => ∃ g, p = .pointer (some ⟨g, 0, none⟩) ∧ m = .int .i64 n ∧ w.heap.size ≤ g ∧ g < W.heap.size ∧ Below w.heap.size w W ∧ W.cell? ⟨g, 0, none⟩ = some (.int .u8 a) ∧ W.cell? ⟨g, 1, none⟩ = some (.int .u8 b) ∧ W.cell? ⟨g, 2, none⟩ = some (.int .u8 c) ∧ (∀ o, W.frozen? ⟨g, o, none⟩ = false))
  case first =>
    go_region_held3 (fun W => Below w1.heap.size w1 W ∧ ∀ b o, b < w1.heap.size → W.cell? ⟨b, o, none⟩ = w1.cell? ⟨b, o, none⟩)
      (repeat' (first | exact preD | assumption | exact preR | refine preB ?_ hb2 | refine preE ?_ | refine preA ?_ _ | refine preS ?_ ?_ _ | omega | (simp; done) | (simp; omega)))
      ((go_at_call 124; refine (registers_c _ _ _ _ _ _).mono ?_; rintro e w2 ⟨rfl, hb2⟩; obtain ⟨hc2, hf2⟩ := bcell hb2; have hz2 := hb2.size; simp at hz2))
    all_goals (go_wp2_with fail; go_meet)
    all_goals refine ⟨_, rfl, rfl, ?_, ?_, HB1.out.trans (Below.mono (And.left (by assumption)) (by omega)), ?_, ?_, ?_, ?_⟩
    all_goals first | omega | (simp; omega) | go_simp | skip
  case rest =>
    obtain ⟨g, rfl, rfl, hg1, hg2, hB, h0, h1, h2, hf⟩ := hcut
    have hz := hB.size
    have HB := Lib.hid hB
    have e3 := fun x y z w => eq3 x y z 0 0 0 w
    clear hB HB1 c1_ hz1 hz1'
    have i1 := fun W (p i : Nat) v => iter_setCell W ⟨#[114, 114, 112]⟩ p g i v
    have i2 := fun W (p i : Nat) => iter_cell W ⟨#[114, 114, 112]⟩ p g i
    have i3 := fun W (p i : Nat) => iter_frozen W ⟨#[114, 114, 112]⟩ p g i
    have n0_ := fun W n ty hn => next_at (P := Try.prog) W ⟨#[114, 114, 112]⟩ 0 1 n 114 ty hn (by decide) (by decide) (by decide) rfl
    have n1_ := fun W n ty hn => next_at (P := Try.prog) W ⟨#[114, 114, 112]⟩ 1 2 n 114 ty hn (by decide) (by decide) (by decide) rfl
    have n2_ := fun W n ty hn => next_at (P := Try.prog) W ⟨#[114, 114, 112]⟩ 2 3 n 112 ty hn (by decide) (by decide) (by decide) rfl
    have n3_ := fun W n ty hn => next_end (P := Try.prog) W ⟨#[114, 114, 112]⟩ 3 n ty hn (by decide)
    go_wp2
    refine wp_loop_rounds 4 ?_
    all_goals (rw [rounds_succ]; go_wp2)
    any_goals (rw [rounds_succ]; go_wp2)
    any_goals (rw [rounds_succ]; go_wp2)
    any_goals (rw [rounds_succ]; go_wp2)
    all_goals (go_ret; refine ⟨ret_i64 ?_, ?_⟩)
    all_goals first
      | exact HB.out.alloc hz _
      | exact (HB.out.setCell (p := ⟨g, _, none⟩) hg1 _).alloc (by simp; omega) _
      | exact ((HB.out.setCell (p := ⟨g, _, none⟩) hg1 _).setCell (p := ⟨g, _, none⟩) hg1 _).alloc (by simp; omega) _
      | exact (((HB.out.setCell (p := ⟨g, _, none⟩) hg1 _).setCell (p := ⟨g, _, none⟩) hg1 _).setCell (p := ⟨g, _, none⟩) hg1 _).alloc (by simp; omega) _
      | (rw [oneK_pos (by simp only [y5_]; omega)])
      | (rw [yr_ (by simp only [y5_]; omega)])
      | (have hn : (n != 0) = true := by assumption
         rw [bne_iff_ne] at hn
         rw [yr_ (by simp only [y5_]; omega)])
      | (have hn : (n != 0) = false := by assumption
         rw [bne_eq_false_iff_eq] at hn
         rw [oneK_pos (by simp only [y5_]; omega)])
      | (have hn : (n != 0) = false := by assumption
         rw [bne_eq_false_iff_eq] at hn
         rw [yr_ (by simp only [y5_]; omega)])
set_option maxRecDepth 100000 in
set_option maxHeartbeats 4000000 in
theorem one_k6 (op a b c n : Int) (w : World) (a0 : 0 ≤ a) (a1 : a ≤ 255) (b0 : 0 ≤ b) (b1 : b ≤ 255) (c0 : 0 ≤ c) (c1 : c ≤ 255)
   (hform : ∀ w, Calls Try.prog 39 #[.int .u8 op] w fun e w' => e = .returned (.tuple #[.string ⟨#[116]⟩, .bool true]) ∧ Below w.heap.size w w') :
    Calls Try.prog 97 #[.agg #[.int .u8 op, .int .u8 a, .int .u8 b, .int .u8 c, .int .i64 n]] w fun e w' => e = .returned (.int .i64 (oneK 6 a b c n)) ∧ Below w.heap.size w w' := by
  go_enter Try.func97, Try.ntmps97
  have HF := Lib.hid hform
  clear hform
  go_wp2_with fail
  refine (HF.out _).mono ?_
  rintro e w1 ⟨rfl, hb1⟩
  have hz1 := hb1.size
  simp at hz1
  have hz1' : w.heap.size < w1.heap.size := by omega
  have c1_ : ∀ o, w1.cell? ⟨w.heap.size, o, none⟩ = #[Value.int .u8 op, .int .u8 a, .int .u8 b, .int .u8 c, .int .i64 n][o]? := fun o => by
    rw [hb1.cell (p := ⟨w.heap.size, o, none⟩) (by simp)]; exact cell_of_row _ _ _ _ _ _ (heap_alloc_new w _)
  have HB1 := Lib.hid (((Below.refl _ w).alloc (Nat.le_refl _) _).trans (hb1.mono (by simp)))
  clear hb1 HF
  go_upto_region 4 with fail
  go_cut [5, 6] (fun p m W => ∃ g, p = .pointer (some ⟨g, 0, none⟩) ∧ m = .int .i64 n ∧ w.heap.size ≤ g ∧ g < W.heap.size ∧ Below w.heap.size w W ∧ W.cell? ⟨g, 0, none⟩ = some (.int .u8 a) ∧ W.cell? ⟨g, 1, none⟩ = some (.int .u8 b) ∧ W.cell? ⟨g, 2, none⟩ = some (.int .u8 c) ∧ (∀ o, W.frozen? ⟨g, o, none⟩ = false))
  case first =>
    go_region_held3 (fun W => Below w1.heap.size w1 W ∧ ∀ b o, b < w1.heap.size → W.cell? ⟨b, o, none⟩ = w1.cell? ⟨b, o, none⟩)
      (repeat' (first | exact preD | assumption | exact preR | refine preB ?_ hb2 | refine preE ?_ | refine preA ?_ _ | refine preS ?_ ?_ _ | omega | (simp; done) | (simp; omega)))
      ((go_at_call 124; refine (registers_c _ _ _ _ _ _).mono ?_; rintro e w2 ⟨rfl, hb2⟩; obtain ⟨hc2, hf2⟩ := bcell hb2; have hz2 := hb2.size; simp at hz2))
    all_goals (go_wp2_with fail; go_meet)
    all_goals refine ⟨_, rfl, rfl, ?_, ?_, HB1.out.trans (Below.mono (And.left (by assumption)) (by omega)), ?_, ?_, ?_, ?_⟩
    all_goals first | omega | (simp; omega) | go_simp | skip
  case rest =>
    obtain ⟨g, rfl, rfl, hg1, hg2, hB, h0, h1, h2, hf⟩ := hcut
    have hz := hB.size
    have HB := Lib.hid hB
    have e3 := fun x y z w => eq3 x y z 0 0 0 w
    clear hB HB1 c1_ hz1 hz1'
    have i1 := fun W (p i : Nat) v => iter_setCell W ⟨#[116]⟩ p g i v
    have i2 := fun W (p i : Nat) => iter_cell W ⟨#[116]⟩ p g i
    have i3 := fun W (p i : Nat) => iter_frozen W ⟨#[116]⟩ p g i
    have n0_ := fun W n ty hn => next_at (P := Try.prog) W ⟨#[116]⟩ 0 1 n 116 ty hn (by decide) (by decide) (by decide) rfl
    have n1_ := fun W n ty hn => next_end (P := Try.prog) W ⟨#[116]⟩ 1 n ty hn (by decide)
    go_wp2
    refine wp_loop_rounds 2 ?_
    all_goals (rw [rounds_succ]; go_wp2)
    any_goals (rw [rounds_succ]; go_wp2)
    all_goals (go_ret; refine ⟨ret_i64 ?_, ?_⟩)
    all_goals first
      | exact HB.out.alloc hz _
      | exact (HB.out.setCell (p := ⟨g, _, none⟩) hg1 _).alloc (by simp; omega) _
      | exact ((HB.out.setCell (p := ⟨g, _, none⟩) hg1 _).setCell (p := ⟨g, _, none⟩) hg1 _).alloc (by simp; omega) _
      | exact (((HB.out.setCell (p := ⟨g, _, none⟩) hg1 _).setCell (p := ⟨g, _, none⟩) hg1 _).setCell (p := ⟨g, _, none⟩) hg1 _).alloc (by simp; omega) _
      | (rw [oneK_pos (by simp only [y5_]; omega)])
      | (rw [yr_ (by simp only [y5_]; omega)])
      | (have hn : (n != 0) = true := by assumption
         rw [bne_iff_ne] at hn
         rw [yr_ (by simp only [y5_]; omega)])
      | (have hn : (n != 0) = false := by assumption
         rw [bne_eq_false_iff_eq] at hn
         rw [oneK_pos (by simp only [y5_]; omega)])
      | (have hn : (n != 0) = false := by assumption
         rw [bne_eq_false_iff_eq] at hn
         rw [yr_ (by simp only [y5_]; omega)])
set_option maxRecDepth 100000 in
set_option maxHeartbeats 4000000 in
theorem one_k7 (op a b c n : Int) (w : World) (a0 : 0 ≤ a) (a1 : a ≤ 255) (b0 : 0 ≤ b) (b1 : b ≤ 255) (c0 : 0 ≤ c) (c1 : c ≤ 255)
   (hform : ∀ w, Calls Try.prog 39 #[.int .u8 op] w fun e w' => e = .returned (.tuple #[.string ⟨#[114, 116]⟩, .bool true]) ∧ Below w.heap.size w w') :
    Calls Try.prog 97 #[.agg #[.int .u8 op, .int .u8 a, .int .u8 b, .int .u8 c, .int .i64 n]] w fun e w' => e = .returned (.int .i64 (oneK 7 a b c n)) ∧ Below w.heap.size w w' := by
  go_enter Try.func97, Try.ntmps97
  have HF := Lib.hid hform
  clear hform
  go_wp2_with fail
  refine (HF.out _).mono ?_
  rintro e w1 ⟨rfl, hb1⟩
  have hz1 := hb1.size
  simp at hz1
  have hz1' : w.heap.size < w1.heap.size := by omega
  have c1_ : ∀ o, w1.cell? ⟨w.heap.size, o, none⟩ = #[Value.int .u8 op, .int .u8 a, .int .u8 b, .int .u8 c, .int .i64 n][o]? := fun o => by
    rw [hb1.cell (p := ⟨w.heap.size, o, none⟩) (by simp)]; exact cell_of_row _ _ _ _ _ _ (heap_alloc_new w _)
  have HB1 := Lib.hid (((Below.refl _ w).alloc (Nat.le_refl _) _).trans (hb1.mono (by simp)))
  clear hb1 HF
  go_upto_region 4 with fail
  go_cut [5, 6] (fun p m W => ∃ g, p = .pointer (some ⟨g, 0, none⟩) ∧ m = .int .i64 n ∧ w.heap.size ≤ g ∧ g < W.heap.size ∧ Below w.heap.size w W ∧ W.cell? ⟨g, 0, none⟩ = some (.int .u8 a) ∧ W.cell? ⟨g, 1, none⟩ = some (.int .u8 b) ∧ W.cell? ⟨g, 2, none⟩ = some (.int .u8 c) ∧ (∀ o, W.frozen? ⟨g, o, none⟩ = false))
  case first =>
    go_region_held3 (fun W => Below w1.heap.size w1 W ∧ ∀ b o, b < w1.heap.size → W.cell? ⟨b, o, none⟩ = w1.cell? ⟨b, o, none⟩)
      (repeat' (first | exact preD | assumption | exact preR | refine preB ?_ hb2 | refine preE ?_ | refine preA ?_ _ | refine preS ?_ ?_ _ | omega | (simp; done) | (simp; omega)))
      ((go_at_call 124; refine (registers_c _ _ _ _ _ _).mono ?_; rintro e w2 ⟨rfl, hb2⟩; obtain ⟨hc2, hf2⟩ := bcell hb2; have hz2 := hb2.size; simp at hz2))
    all_goals (go_wp2_with fail; go_meet)
    all_goals refine ⟨_, rfl, rfl, ?_, ?_, HB1.out.trans (Below.mono (And.left (by assumption)) (by omega)), ?_, ?_, ?_, ?_⟩
    all_goals first | omega | (simp; omega) | go_simp | skip
  case rest =>
    obtain ⟨g, rfl, rfl, hg1, hg2, hB, h0, h1, h2, hf⟩ := hcut
    have hz := hB.size
    have HB := Lib.hid hB
    have e3 := fun x y z w => eq3 x y z 0 0 0 w
    clear hB HB1 c1_ hz1 hz1'
    have i1 := fun W (p i : Nat) v => iter_setCell W ⟨#[114, 116]⟩ p g i v
    have i2 := fun W (p i : Nat) => iter_cell W ⟨#[114, 116]⟩ p g i
    have i3 := fun W (p i : Nat) => iter_frozen W ⟨#[114, 116]⟩ p g i
    have n0_ := fun W n ty hn => next_at (P := Try.prog) W ⟨#[114, 116]⟩ 0 1 n 114 ty hn (by decide) (by decide) (by decide) rfl
    have n1_ := fun W n ty hn => next_at (P := Try.prog) W ⟨#[114, 116]⟩ 1 2 n 116 ty hn (by decide) (by decide) (by decide) rfl
    have n2_ := fun W n ty hn => next_end (P := Try.prog) W ⟨#[114, 116]⟩ 2 n ty hn (by decide)
    go_wp2
    refine wp_loop_rounds 3 ?_
    all_goals (rw [rounds_succ]; go_wp2)
    any_goals (rw [rounds_succ]; go_wp2)
    any_goals (rw [rounds_succ]; go_wp2)
    all_goals (go_ret; refine ⟨ret_i64 ?_, ?_⟩)
    all_goals first
      | exact HB.out.alloc hz _
      | exact (HB.out.setCell (p := ⟨g, _, none⟩) hg1 _).alloc (by simp; omega) _
      | exact ((HB.out.setCell (p := ⟨g, _, none⟩) hg1 _).setCell (p := ⟨g, _, none⟩) hg1 _).alloc (by simp; omega) _
      | exact (((HB.out.setCell (p := ⟨g, _, none⟩) hg1 _).setCell (p := ⟨g, _, none⟩) hg1 _).setCell (p := ⟨g, _, none⟩) hg1 _).alloc (by simp; omega) _
      | (rw [oneK_pos (by simp only [y5_]; omega)])
      | (rw [yr_ (by simp only [y5_]; omega)])
      | (have hn : (n != 0) = true := by assumption
         rw [bne_iff_ne] at hn
         rw [yr_ (by simp only [y5_]; omega)])
      | (have hn : (n != 0) = false := by assumption
         rw [bne_eq_false_iff_eq] at hn
         rw [oneK_pos (by simp only [y5_]; omega)])
      | (have hn : (n != 0) = false := by assumption
         rw [bne_eq_false_iff_eq] at hn
         rw [yr_ (by simp only [y5_]; omega)])
set_option maxHeartbeats 1000000 in
theorem one_k0 (op a b c n : Int) (w : World)
   (hform : ∀ w, Calls Try.prog 39 #[.int .u8 op] w fun e w' => e = .returned (.tuple #[.string ⟨#[]⟩, .bool false]) ∧ Below w.heap.size w w') :
    Calls Try.prog 97 #[.agg #[.int .u8 op, .int .u8 a, .int .u8 b, .int .u8 c, .int .i64 n]] w fun e w' => e = .returned (.int .i64 140) ∧ Below w.heap.size w w' := by
  go_enter Try.func97, Try.ntmps97
  have HF := Lib.hid hform
  clear hform
  go_wp2_with fail
  refine (HF.out _).mono ?_
  rintro e w1 ⟨rfl, hb1⟩
  go_wp2
  go_ret
  exact ⟨rfl, ((Below.refl _ w).alloc (Nat.le_refl _) _).trans (hb1.mono (by simp))⟩
theorem form_c (op : Int) (h0 : 0 ≤ op) (w : World) : Calls Try.prog 39 #[.int .u8 op] w fun e w' => e = .returned (.tuple #[.string (yu_ (formC op)), .bool (formC op != 0)]) ∧ Below w.heap.size w w' := by
 by_cases h : 32 < op
 ·by_cases h' : op ≤ 49
  ·have hc : formC op = 1 := by unfold formC; rw [if_pos ⟨h, h'⟩]
   rw [hc]
   exact form_rrr op w h h'
  ·exact form_hi op w (by omega)
 ·exact form_lo op w h0 (by omega)
theorem one_c (i : Ins) (hi : i.ok) (w : World) : Calls Try.prog 97 #[i.v] w fun e w' => e = .returned (.int .i64 (oneE i)) ∧ Below w.heap.size w w' := by
 obtain ⟨op, a, b, c, n⟩ := i
 obtain ⟨o0, o1, a0, a1, b0, b1, c0, c1, n0, n1⟩ := hi
 dsimp only at *
 have hf := form_c op o0
 unfold Ins.v oneE
 dsimp only
 have hk : formC op = 0 ∨ formC op = 1 ∨ formC op = 2 ∨ formC op = 3 ∨ formC op = 4 ∨ formC op = 5 ∨ formC op = 6 ∨ formC op = 7 := by
  unfold formC; repeat (first | (split; · simp) | simp)
 rcases hk with h | h | h | h | h | h | h | h <;> rw [h] at hf <;> rw [h]
 ·exact one_k0 op a b c n w hf
 ·exact one_k1 op a b c n w a0 a1 b0 b1 c0 c1 hf
 ·exact one_k2 op a b c n w a0 a1 b0 b1 c0 c1 hf
 ·exact one_k3 op a b c n w a0 a1 b0 b1 c0 c1 hf
 ·exact one_k4 op a b c n w a0 a1 b0 b1 c0 c1 hf
 ·exact one_k5 op a b c n w a0 a1 b0 b1 c0 c1 hf
 ·exact one_k6 op a b c n w a0 a1 b0 b1 c0 c1 hf
 ·exact one_k7 op a b c n w a0 a1 b0 b1 c0 c1 hf
def goesB (i : Ins) : Bool := oneE i == 0 && (i.op != 1 && (i.op != 2 && i.op != 9))
set_option maxRecDepth 100000 in
set_option maxHeartbeats 1000000 in
theorem goes_c (i : Ins) (hi : i.ok) (w : World) : Calls Try.prog 99 #[i.v] w fun e w' => e = .returned (.bool (goesB i)) ∧ Below w.heap.size w w' := by
 have h1 := fun w => one_c i hi w
 obtain ⟨E, hE⟩ : ∃ E, E = oneE i := ⟨_, rfl⟩
 unfold goesB
 rw [← hE] at h1 ⊢
 obtain ⟨op, a, b, c, n⟩ := i
 unfold Ins.v at h1 ⊢
 dsimp only at h1 ⊢
 have H1 := Lib.hid h1
 clear h1 hE hi
 go_enter Try.func99, Try.ntmps99
 go_wp2_with fail
 refine (H1.out _).mono ?_
 rintro e w1 ⟨rfl, hb1⟩
 have hB := Lib.hid (((Below.refl _ w).alloc (Nat.le_refl _) _).trans (hb1.mono (by simp)))
 have q0 : w1.cell? ⟨w.heap.size, 0, none⟩ = some (.int .u8 op) := by
  rw [hb1.cell (p := ⟨w.heap.size, 0, none⟩) (by simp)]; exact cell_of_row _ _ _ _ _ _ (heap_alloc_new w _)
 clear hb1
 go_wp2
 all_goals (go_ret; refine ⟨?_, hB.out⟩)
 all_goals first | (simp [*]; done) | (simp [*, Bool.and_assoc]; done)
def targB (i : Ins) : Bool := oneE i == 0 && (i.op == 9 || (i.op == 10 || i.op == 11))
def targV (i : Ins) : Int := if targB i then i.n else 0
set_option maxRecDepth 100000 in
set_option maxHeartbeats 1000000 in
theorem target_c (i : Ins) (hi : i.ok) (w : World) : Calls Try.prog 98 #[i.v] w fun e w' => e = .returned (.tuple #[.int .i64 (targV i), .bool (targB i)]) ∧ Below w.heap.size w w' := by
 have h1 := fun w => one_c i hi w
 obtain ⟨E, hE⟩ : ∃ E, E = oneE i := ⟨_, rfl⟩
 obtain ⟨V, hV⟩ : ∃ V, V = targV i := ⟨_, rfl⟩
 obtain ⟨T, hT⟩ : ∃ T, T = targB i := ⟨_, rfl⟩
 have hV' := hV
 unfold targV at hV'
 rw [← hT] at hV'
 have hT' := hT
 unfold targB at hT'
 rw [← hE] at h1 hT'
 rw [← hT, ← hV]
 obtain ⟨op, a, b, c, n⟩ := i
 unfold Ins.v at h1 ⊢
 dsimp only at h1 hT' hV' ⊢
 have H1 := Lib.hid h1
 have HT := Lib.hid hT'
 have HV := Lib.hid hV'
 clear h1 hE hi hT hT' hV hV'
 go_enter Try.func98, Try.ntmps98
 go_wp2_with fail
 refine (H1.out _).mono ?_
 rintro e w1 ⟨rfl, hb1⟩
 have hB := Lib.hid (((Below.refl _ w).alloc (Nat.le_refl _) _).trans (hb1.mono (by simp)))
 have q0 : w1.cell? ⟨w.heap.size, 0, none⟩ = some (.int .u8 op) := by
  rw [hb1.cell (p := ⟨w.heap.size, 0, none⟩) (by simp)]; exact cell_of_row _ _ _ _ _ _ (heap_alloc_new w _)
 have q4 : w1.cell? ⟨w.heap.size, 4, none⟩ = some (.int .i64 n) := by
  rw [hb1.cell (p := ⟨w.heap.size, 4, none⟩) (by simp)]; exact cell_of_row _ _ _ _ _ _ (heap_alloc_new w _)
 clear hb1
 go_wp2
 all_goals go_ret2
 all_goals refine ⟨?_, hB.out⟩
 all_goals rw [HV.out, HT.out]
 all_goals first | (simp [*]; done) | (simp_all; done) | ((have hq : ((op != 9) = false ∨ (op != 10) = false) ∨ (op != 11) = false := (by assumption)); simp at hq; (have h11 : op = 11 := (by omega)); simp [*]; done)
def badAt (n : Int) (i : Ins) : Int := if oneE i ≠ 0 then oneE i else if targB i = true ∧ n ≤ targV i then 142 else 0
def checkK (p : List Ins) : Int × Int :=
 match p.findIdx? (fun i => badAt p.length i != 0) with
 | some k => (k, badAt p.length (p.getD k ⟨0, 0, 0, 0, 0⟩))
 | none => if goesB (p.getD (p.length - 1) ⟨0, 0, 0, 0, 0⟩) then ((p.length : Int) - 1, 143) else (-1, 0)
def checkI (p : List Ins) : Int × Int := if p.length = 0 then (-1, 6) else if 256 < p.length then (-1, 5) else checkK p
theorem checkK_bad {p : List Ins} {j : Nat} {x : Ins} {v : Int} (h : ∀ i, i < j → ∀ y, p[i]? = some y → badAt p.length y = 0) (hx : p[j]? = some x) (hv : badAt p.length x = v) (hn : v ≠ 0) : checkK p = ((j : Int), v) := by
 have hj : j < p.length := (List.getElem?_eq_some_iff.1 hx).1
 have hf : p.findIdx? (fun i => badAt p.length i != 0) = some j := by
  rw [List.findIdx?_eq_some_iff_getElem]
  refine ⟨hj, ?_, fun i hi => ?_⟩
  ·have : p[j] = x := (List.getElem?_eq_some_iff.1 hx).2
   rw [this, hv]; simpa using hn
  ·simp [h i hi _ (List.getElem?_eq_getElem (by omega))]
 unfold checkK
 rw [hf]
 simp [List.getD, hx, hv]
theorem checkK_none {p : List Ins} (h : ∀ i, i < p.length → ∀ y, p[i]? = some y → badAt p.length y = 0) : checkK p = if goesB (p.getD (p.length - 1) ⟨0, 0, 0, 0, 0⟩) then ((p.length : Int) - 1, 143) else (-1, 0) := by
 have hf : p.findIdx? (fun i => badAt p.length i != 0) = none := by
  rw [List.findIdx?_eq_none_iff]
  intro x hx
  obtain ⟨i, hi, rfl⟩ := List.getElem_of_mem hx
  simp [h i hi _ (List.getElem?_eq_getElem hi)]
 unfold checkK
 rw [hf]
set_option maxRecDepth 100000 in
set_option maxHeartbeats 2000000 in
theorem check_mid (A : Option Addr) (n c : Nat) (p : List Ins) (hok : ∀ i ∈ p, i.ok) (w : World) (h : yk_ w w.heap.size 5 A n (insV p)) (h0 : ((n : Int) == 0) = false) (h0' : 0 < n) (h1 : n ≤ 256) :
  Calls Try.prog 55 #[.slice A n c] w fun e w' => e = .returned (.tuple #[.int .i64 (checkK p).1, .int .i64 (checkK p).2]) ∧ Below w.heap.size w w' := by
 have hpl := h.ins_len
 have HL := Lib.hid hpl
 clear hpl
 go_enter Try.func55, Try.ntmps55
 go_wp2
 go_loopw [4, 5, 6, 7, 8, 20] (fun _ _ _ _ _ k wr => ∃ j : Nat, k = .int .i64 j ∧ j ≤ n ∧ (∀ i, i < j → ∀ y, p[i]? = some y → badAt n y = 0) ∧ Below w.heap.size w wr) (fun _ _ _ _ _ k _ => n - (intOf k).toNat)
 case atStart => exact ⟨0, rfl, by omega, fun i hi => by omega, Below.refl _ _⟩
 case round =>
  obtain ⟨j, rfl, hj, hbad, hb⟩ := hrel
  have HBad := Lib.hid hbad
  clear hbad
  by_cases hlt : j < n
  ·obtain ⟨b, o, x, rfl, hl1, hx, hc0, hc1, hc2, hc3, hc4⟩ := (h.below hb).ins_at hlt
   have hxok := hok x (List.mem_of_getElem? hx)
   obtain ⟨op, a, b', c', m⟩ := x
   have HX := Lib.hid hx
   have HO := Lib.hid hxok
   have HB := Lib.hid hb
   have hz := hb.size
   clear hb hx h hxok hok
   dsimp only at hc0 hc1 hc2 hc3 hc4
   obtain ⟨I, hI⟩ : ∃ I : Ins, I = ⟨op, a, b', c', m⟩ := ⟨_, rfl⟩
   rw [← hI] at HO HX
   have HI := Lib.hid hI
   clear hI
   have h1 : ∀ w, Calls Try.prog 97 #[.agg #[.int .u8 op, .int .u8 a, .int .u8 b', .int .u8 c', .int .i64 m]] w fun e w' => e = .returned (.int .i64 (oneE I)) ∧ Below w.heap.size w w' := fun w => by
    have := one_c I HO.out w; rw [HI.out] at this ⊢; exact this
   have h2 : ∀ w, Calls Try.prog 98 #[.agg #[.int .u8 op, .int .u8 a, .int .u8 b', .int .u8 c', .int .i64 m]] w fun e w' => e = .returned (.tuple #[.int .i64 (targV I), .bool (targB I)]) ∧ Below w.heap.size w w' := fun w => by
    have := target_c I HO.out w; rw [HI.out] at this ⊢; exact this
   have hbadE : badAt n I = if oneE I ≠ 0 then oneE I else if targB I = true ∧ (n : Int) ≤ targV I then 142 else 0 := rfl
   obtain ⟨V, hV⟩ : ∃ V, V = targV I := ⟨_, rfl⟩
   obtain ⟨T, hT⟩ : ∃ T, T = targB I := ⟨_, rfl⟩
   obtain ⟨E, hE⟩ : ∃ E, E = oneE I := ⟨_, rfl⟩
   rw [← hE] at h1 hbadE
   rw [← hV, ← hT] at h2 hbadE
   have H1 := Lib.hid h1
   have H2 := Lib.hid h2
   have HE := Lib.hid hbadE
   clear h1 h2 hbadE hV hT hE
   go_wp2_with fail
   refine (H1.out _).mono ?_
   rintro e w2 ⟨rfl, hb2⟩
   have hz2 := hb2.size
   simp at hz2
   have q : ∀ k u, #[Value.int .u8 op, .int .u8 a, .int .u8 b', .int .u8 c', .int .i64 m][k]? = some u → w2.cell? ⟨wr.heap.size, k, none⟩ = some u := fun k u hu => by
    rw [hb2.cell (p := ⟨wr.heap.size, k, none⟩) (by simp), cell_of_row _ _ _ _ _ _ (heap_alloc_new wr _)]; exact hu
   have q0 := q 0 _ rfl
   have q1 := q 1 _ rfl
   have q2 := q 2 _ rfl
   have q3 := q 3 _ rfl
   have q4 := q 4 _ rfl
   have HB2 := Lib.hid ((HB.out.alloc hz _).trans (hb2.mono (by simp; omega)))
   clear q hb2
   by_cases hE0 : E = 0
   ·subst hE0
    go_wp2_with fail
    refine (H2.out _).mono ?_
    rintro e w3 ⟨rfl, hb3⟩
    have hz3 := hb3.size
    have HB3 := Lib.hid (HB2.out.trans (hb3.mono (by omega)))
    clear hb3
    by_cases hbad : T = true ∧ (n : Int) ≤ V
    ·obtain ⟨rfl, hnV⟩ := hbad
     go_wp2
     go_ret2
     refine ⟨?_, HB3.out⟩
     have hv : badAt p.length I = 142 := by rw [HL.out, HE.out]; simp [hnV]
     rw [checkK_bad (by rw [HL.out]; exact HBad.out) HX.out hv (by decide)]
     rfl
    ·cases T with
     | false =>
      go_wp2
      go_roundw
      case rel => 
       refine ⟨j + 1, by go_num, by omega, fun i hi y hy => ?_, HB3.out⟩
       by_cases hij : i < j
       ·exact HBad.out i hij y hy
       ·obtain rfl : i = j := by omega
        rw [HX.out] at hy
        obtain rfl : I = y := by cases hy; rfl
        rw [HE.out]; simp
      case measure => simp [intOf]; omega
     | true =>
      have hV : V < (n : Int) := by simp at hbad; omega
      clear hbad
      go_wp2
      go_roundw
      case rel => 
       refine ⟨j + 1, by go_num, by omega, fun i hi y hy => ?_, HB3.out⟩
       by_cases hij : i < j
       ·exact HBad.out i hij y hy
       ·obtain rfl : i = j := by omega
        rw [HX.out] at hy
        obtain rfl : I = y := by cases hy; rfl
        rw [HE.out]; simp; omega
      case measure => simp [intOf]; omega
   ·have hE1 : (E != 0) = true := by rw [bne_iff_ne]; exact hE0
    have HE0 := Lib.hid hE0
    clear hE0
    go_wp2
    go_ret2
    refine ⟨?_, HB2.out⟩
    have hv : badAt p.length I = E := by rw [HL.out, HE.out, if_pos HE0.out]
    rw [checkK_bad (by rw [HL.out]; exact HBad.out) HX.out hv HE0.out]
    rfl
  ·obtain rfl : j = n := by omega
   have hk := checkK_none (p := p) (by rw [HL.out]; exact HBad.out)
   obtain ⟨b, o, x, rfl, hl1, hx, hc0, hc1, hc2, hc3, hc4⟩ := (h.below hb).ins_at (k := j - 1) (by omega)
   have hxok := hok x (List.mem_of_getElem? hx)
   have hg : p.getD (p.length - 1) ⟨0, 0, 0, 0, 0⟩ = x := by rw [HL.out]; simp [List.getD, hx]
   rw [hg, HL.out] at hk
   have hi : (((j : Int) - 1).toNat) = j - 1 := by omega
   have hs1 : (0 : Int) ≤ (j : Int) - 1 := by omega
   have hg1 := fun w => goes_c x hxok w
   obtain ⟨G, hG⟩ : ∃ G, G = goesB x := ⟨_, rfl⟩
   rw [← hG] at hk hg1
   have HK := Lib.hid hk
   have HB := Lib.hid hb
   have HG := Lib.hid hg1
   obtain ⟨op, a, b', c', m⟩ := x
   dsimp only at hc0 hc1 hc2 hc3 hc4
   clear hk hb h hok hx hxok hg hG hg1 hi
   go_wp2_with fail
   refine (HG.out _).mono ?_
   rintro e w2 ⟨rfl, hb2⟩
   have HB2 := Lib.hid (HB.out.trans (hb2.mono HB.out.size))
   clear hb2
   cases G with
   | false =>
    go_wp2
    go_ret2
    refine ⟨?_, HB2.out⟩
    rw [HK.out]
    rfl
   | true =>
    go_wp2
    go_ret2
    refine ⟨?_, HB2.out⟩
    rw [HK.out]
    rfl
set_option maxRecDepth 100000 in
set_option maxHeartbeats 2000000 in
theorem check_c (A : Option Addr) (n c : Nat) (hn : n < 2^62) (p : List Ins) (hok : ∀ i ∈ p, i.ok) (w : World) (h : yk_ w w.heap.size 5 A n (insV p)) :
  Calls Try.prog 55 #[.slice A n c] w fun e w' => e = .returned (.tuple #[.int .i64 (checkI p).1, .int .i64 (checkI p).2]) ∧ Below w.heap.size w w' := by
 have hpl := h.ins_len
 unfold checkI
 rw [hpl]
 by_cases h0 : n = 0
 ·subst h0
  go_enter Try.func55, Try.ntmps55
  go_wp2
  go_ret2
  exact ⟨rfl, Below.refl _ _⟩
 ·rw [if_neg h0]
  by_cases h1 : 256 < n
  ·rw [if_pos h1]
   have h0' : ((n : Int) == 0) = false := by simp; exact h0
   have h1' : (256 : Int) < n := by omega
   clear h h0 hok hpl
   go_enter Try.func55, Try.ntmps55
   go_wp2
   go_ret2
   exact ⟨rfl, Below.refl _ _⟩
  ·rw [if_neg h1]
   exact check_mid A n c p hok w h (by simp; exact h0) (by omega) (by omega)
theorem right_last' {p : List Ins} (h : (checkI p).2 = 0) : 0 < p.length ∧ p.length ≤ 256 ∧ goesB (p.getD (p.length - 1) ⟨0, 0, 0, 0, 0⟩) = false ∧ ∀ k, k < p.length → badAt p.length (p.getD k ⟨0, 0, 0, 0, 0⟩) = 0 := by
 unfold checkI at h
 by_cases h0 : p.length = 0
 ·rw [if_pos h0] at h; cases h
 ·by_cases h1 : 256 < p.length
  ·rw [if_neg h0, if_pos h1] at h; cases h
  ·rw [if_neg h0, if_neg h1] at h
   refine ⟨by omega, by omega, ?_⟩
   unfold checkK at h
   cases hf : p.findIdx? (fun i => badAt p.length i != 0) with
   | some k =>
    rw [hf] at h
    obtain ⟨hk, hb, _⟩ := List.findIdx?_eq_some_iff_getElem.1 hf
    exfalso
    have hg : p.getD k ⟨0, 0, 0, 0, 0⟩ = p[k] := by simp [List.getD, hk]
    dsimp only at h
    rw [hg] at h
    simp [h] at hb
   | none =>
    rw [hf] at h
    rw [List.findIdx?_eq_none_iff] at hf
    dsimp only at h
    refine ⟨?_, fun k hk => ?_⟩
    ·by_cases hg : goesB (p.getD (p.length - 1) ⟨0, 0, 0, 0, 0⟩) = true
     ·rw [if_pos hg] at h; cases h
     ·simpa using hg
    ·have := hf (p.getD k ⟨0, 0, 0, 0, 0⟩) (by
      rw [List.getD_eq_getElem?_getD, List.getElem?_eq_getElem hk]; exact List.getElem_mem hk)
     simpa using this
structure RightI (n k : Nat) (x : Ins) : Prop where
 ok : x.ok
 one : oneE x = 0
 a : x.a < 8
 b : x.b < 8
 c : x.c < 8
 targ : targB x = true → 0 ≤ targV x ∧ targV x < n
 goes : goesB x = true → k + 1 < n
 cls : x.op = 1 ∨ x.op = 2 ∨ x.op = 3 ∨ x.op = 4 ∨ x.op = 5 ∨ x.op = 6 ∨ x.op = 7 ∨ x.op = 8 ∨ x.op = 9 ∨ x.op = 10 ∨ x.op = 11 ∨ (33 ≤ x.op ∧ x.op ≤ 49)
theorem one_regs {x : Ins} (h : oneE x = 0) : x.a < 8 ∧ x.b < 8 ∧ x.c < 8 ∧ (targB x = true → 0 ≤ x.n) ∧ (x.op = 1 ∨ x.op = 2 ∨ x.op = 3 ∨ x.op = 4 ∨ x.op = 5 ∨ x.op = 6 ∨ x.op = 7 ∨ x.op = 8 ∨ x.op = 9 ∨ x.op = 10 ∨ x.op = 11 ∨ (33 ≤ x.op ∧ x.op ≤ 49)) := by
 have h0 := h
 unfold oneE at h
 have hf : formC x.op ≠ 0 := fun e => by rw [if_pos e] at h; cases h
 rw [if_neg hf] at h
 have hc : y5_ (formC x.op) x.a x.b x.c x.n := by
  by_cases q : y5_ (formC x.op) x.a x.b x.c x.n
  ·exact q
  ·rw [yr_ q] at h; cases h
 have ht : targB x = true → x.op = 9 ∨ x.op = 10 ∨ x.op = 11 := fun ht => by
  unfold targB at ht
  simp at ht
  exact ht.2
 revert hc hf
 unfold formC
 split
 ·rename_i q; intro hf hc; obtain ⟨q1, q2, q3, q4⟩ := hc; exact ⟨q1, q2, q3, fun t => by omega, by omega⟩
 split
 ·exact Vm.k56_
 split
 ·rename_i q; intro hf hc; obtain ⟨q1, q2, q3⟩ := hc; exact ⟨by omega, by omega, by omega, fun t => by have := ht t; omega, by omega⟩
 split
 ·exact Vm.k56_
 split
 ·exact Vm.k57_
 split
 ·exact Vm.k57_
 split
 ·exact Vm.k57_
 ·intro hf; exact absurd rfl hf
theorem right_at {p : List Ins} (hok : ∀ x ∈ p, x.ok) (h : (checkI p).2 = 0) {k : Nat} (hk : k < p.length) : RightI p.length k (p.getD k ⟨0, 0, 0, 0, 0⟩) := by
 obtain ⟨h0, h1, h2, h3⟩ := right_last' h
 have hb := h3 k hk
 unfold badAt at hb
 have h4 : oneE (p.getD k ⟨0, 0, 0, 0, 0⟩) = 0 := by
  by_cases q : oneE (p.getD k ⟨0, 0, 0, 0, 0⟩) = 0
  ·exact q
  ·rw [if_pos q] at hb; exact absurd hb q
 rw [if_neg (by omega)] at hb
 obtain ⟨ra, rb, rc, rt, rcl⟩ := one_regs h4
 refine ⟨hok _ (by rw [List.getD_eq_getElem?_getD, List.getElem?_eq_getElem hk]; exact List.getElem_mem hk), h4, ra, rb, rc, fun ht => ?_, fun hg => ?_, rcl⟩
 ·refine ⟨by unfold targV; rw [if_pos ht]; exact rt ht, ?_⟩
  by_cases q : (p.length : Int) ≤ targV (p.getD k ⟨0, 0, 0, 0, 0⟩)
  ·rw [if_pos ⟨ht, q⟩] at hb; cases hb
  ·omega
 ·by_cases q : k + 1 < p.length
  ·exact q
  ·have : k = p.length - 1 := by omega
   subst this
   rw [h2] at hg; cases hg
theorem goesB_of {x : Ins} (h : oneE x = 0) : goesB x = (x.op != 1 && (x.op != 2 && x.op != 9)) := by unfold goesB; rw [h]; rfl
theorem targB_of {x : Ins} (h : oneE x = 0) : targB x = (x.op == 9 || (x.op == 10 || x.op == 11)) := by unfold targB; rw [h]; rfl
end Go.Proofs.Ytmljmabbopkpiaa
end
section
namespace Go.Proofs.Ytmljmabbopkpiaa.Vm
open Go.RowKit
structure Sta where
 at_ : Int
 ended : Bool
 regs : Nat → Int
 cells : List Int
 draws : Int
 sends : List Snd
structure Evi where
 seed : Int
 process : Int
 ports : Int
 look : Int
 now : Int
def Sta.put (s : Sta) (k : Nat) (x : Int) : Sta := { s with regs := fun j => if j = k then x else s.regs j, at_ := s.at_ + 1 }
theorem sta_eta (s : Sta) : Sta.mk s.at_ s.ended (fun q => s.regs q) s.cells s.draws s.sends = s := rfl
theorem evi_eta (v : Evi) : Evi.mk v.seed v.process v.ports v.look v.now = v := rfl
def sendE (s : Sta) (v : Evi) (i : Ins) : Int :=
 if v.ports ≤ i.n then 188 else if s.regs i.a.toNat < v.look then 189 else if 281474976710656 - v.now < s.regs i.a.toNat then 1800 else if 256 ≤ s.sends.length then 1801 else 0
def doE (s : Sta) (v : Evi) (i : Ins) : Int :=
 if i.op = 2 then 184
 else if i.op = 5 ∨ i.op = 6 then (if s.regs i.b.toNat < 0 ∨ (s.cells.length : Int) ≤ s.regs i.b.toNat then 185 else 0)
 else if i.op = 7 then (if s.regs i.b.toNat < 1 then 186 else if s.draws = 1099511627776 then 187 else 0)
 else if i.op = 8 then sendE s v i
 else if i.op < 32 then 0
 else ye_ (i.op - 32) (s.regs i.c.toNat)
def doS (s : Sta) (v : Evi) (i : Ins) : Sta :=
 if doE s v i ≠ 0 then s
 else if i.op = 1 then { s with ended := true }
 else if i.op = 3 then s.put i.a.toNat i.n
 else if i.op = 4 then s.put i.a.toNat (s.regs i.b.toNat)
 else if i.op = 5 then s.put i.a.toNat (s.cells.getD (s.regs i.b.toNat).toNat 0)
 else if i.op = 6 then { s with cells := s.cells.set (s.regs i.b.toNat).toNat (s.regs i.a.toNat), at_ := s.at_ + 1 }
 else if i.op = 7 then { s.put i.a.toNat (drawI v.seed v.process s.draws (s.regs i.b.toNat)) with draws := s.draws + 1 }
 else if i.op = 8 then { s with at_ := s.at_ + 1, sends := s.sends ++ [⟨i.n, s.regs i.a.toNat, s.regs i.b.toNat⟩] }
 else if i.op = 9 then { s with at_ := i.n }
 else if i.op = 10 then { s with at_ := if s.regs i.a.toNat = 0 then i.n else s.at_ + 1 }
 else if i.op = 11 then { s with at_ := if s.regs i.a.toNat < 0 then i.n else s.at_ + 1 }
 else s.put i.a.toNat (yg_ (i.op - 32) (s.regs i.b.toNat) (s.regs i.c.toNat))
def Ins0 : Ins := ⟨0, 0, 0, 0, 0⟩
def insAt (p : List Ins) (k : Int) : Ins := p.getD k.toNat ⟨0, 0, 0, 0, 0⟩
def Evi.rightB (v : Evi) : Bool := decide (0 ≤ v.process ∧ v.process ≤ 65536 ∧ 0 ≤ v.ports ∧ 1 ≤ v.look ∧ 0 ≤ v.now ∧ v.now ≤ 281474976710656)
def Sta.rightB (s : Sta) (n : Int) : Bool := decide (0 ≤ s.at_ ∧ s.at_ < n ∧ (s.cells.length : Int) ≤ 1024 ∧ 0 ≤ s.draws ∧ s.draws ≤ 1099511627776)
def yx_ (p : List Ins) (v : Evi) (s : Sta) : Int :=
 if (checkI p).2 ≠ 0 then 180 else if v.rightB = false then 181 else if s.rightB p.length = false then 182 else 0
def stepE (p : List Ins) (v : Evi) (s : Sta) : Int := if s.ended = true then 183 else doE s v (insAt p s.at_)
def yv_ (p : List Ins) (v : Evi) (s : Sta) : Sta := if s.ended = true then s else doS s v (insAt p s.at_)
structure RI (x : Ins) : Prop where
 ok : x.ok
 a : x.a < 8
 b : x.b < 8
 c : x.c < 8
 jmp : x.op = 9 ∨ x.op = 10 ∨ x.op = 11 → 0 ≤ x.n ∧ x.n < 256
 snd : x.op = 8 → 0 ≤ x.n ∧ x.n < 16
 cls : x.op = 1 ∨ x.op = 2 ∨ x.op = 3 ∨ x.op = 4 ∨ x.op = 5 ∨ x.op = 6 ∨ x.op = 7 ∨ x.op = 8 ∨ x.op = 9 ∨ x.op = 10 ∨ x.op = 11 ∨ (33 ≤ x.op ∧ x.op ≤ 49)
theorem ri_at {p : List Ins} (hok : ∀ x ∈ p, x.ok) (h : (checkI p).2 = 0) {k : Nat} (hk : k < p.length) : RI (p.getD k ⟨0, 0, 0, 0, 0⟩) := by
 have R := right_at hok h hk
 have hl := (right_last' h).2.1
 refine ⟨R.ok, R.a, R.b, R.c, fun hj => ?_, fun h8 => ?_, R.cls⟩
 ·have ht : targB (p.getD k ⟨0, 0, 0, 0, 0⟩) = true := by
   rw [targB_of R.one]
   rcases hj with e | e | e <;> simp only [e] <;> decide
  have := R.targ ht
  unfold targV at this
  rw [if_pos ht] at this
  omega
 ·have h := R.one
  unfold oneE at h
  have hf : formC (p.getD k ⟨0, 0, 0, 0, 0⟩).op = 5 := by rw [h8]; rfl
  rw [hf, if_neg (by decide)] at h
  have hc : y5_ 5 (p.getD k ⟨0, 0, 0, 0, 0⟩).a (p.getD k ⟨0, 0, 0, 0, 0⟩).b (p.getD k ⟨0, 0, 0, 0, 0⟩).c (p.getD k ⟨0, 0, 0, 0, 0⟩).n := by
   by_cases q : y5_ 5 (p.getD k ⟨0, 0, 0, 0, 0⟩).a (p.getD k ⟨0, 0, 0, 0, 0⟩).b (p.getD k ⟨0, 0, 0, 0, 0⟩).c (p.getD k ⟨0, 0, 0, 0, 0⟩).n
   ·exact q
   ·rw [yr_ q] at h; cases h
  exact ⟨hc.2.2.2.1, hc.2.2.2.2⟩
structure VOk (v : Evi) : Prop where
 p0 : 0 ≤ v.process
 p1 : v.process ≤ 65536
 t0 : 0 ≤ v.now
 t1 : v.now ≤ 281474976710656
 o0 : 0 ≤ v.ports
 l0 : 1 ≤ v.look
structure SOk (s : Sta) : Prop where
 a0 : 0 ≤ s.at_
 a1 : s.at_ ≤ 256
 d0 : 0 ≤ s.draws
 d1 : s.draws ≤ 1099511627776
 c1 : s.cells.length ≤ 1024
 n1 : s.sends.length ≤ 1000000
theorem VOk.of {v : Evi} (h : v.rightB = true) : VOk v := by
 have := of_decide_eq_true (show decide _ = true from h)
 exact ⟨by omega, by omega, by omega, by omega, by omega, by omega⟩
theorem doS_bad {s : Sta} {v : Evi} {x : Ins} (h : doE s v x ≠ 0) : doS s v x = s := by unfold doS; rw [if_pos h]
end Go.Proofs.Ytmljmabbopkpiaa.Vm
end
section
namespace Go.Proofs.Ytmljmabbopkpiaa.Vm
open Go.RowKit
def stS (s : Sta) (c k : Nat) : SV := .agg [.int .i64 s.at_, .bool s.ended, .arr 8 1 fun q => .int .i64 (s.regs q), .sl c c [] 1 0 s.cells.length none, .int .i64 s.draws, .sl k k [] 3 0 s.sends.length none]
def evS (v : Evi) : SV := .agg [.int .u64 v.seed, .int .i64 v.process, .int .i64 v.ports, .int .i64 v.look, .int .i64 v.now]
def macS (s : Sta) (v : Evi) (x : Ins) (c k : Nat) : SV := .agg [stS s c k, evS v, yl_ x]
def mB (s : Sta) (v : Evi) (x : Ins) (c k : Nat) : HB := .own 152 (macS s v x c k) true
def cB (s : Sta) : HB := .own 2 (.arr s.cells.length 1 (i64S s.cells)) false
def sB (s : Sta) : HB := .own 64 (.arr s.sends.length 3 (sndsS s.sends)) false
theorem stS_eq (s : Sta) (c k : Nat) : stS s c k = .agg [.int .i64 s.at_, .bool s.ended, .arr 8 1 fun q => .int .i64 (s.regs q), .sl c c [] 1 0 s.cells.length none, .int .i64 s.draws, .sl k k [] 3 0 s.sends.length none] := rfl
theorem evS_eq (v : Evi) : evS v = .agg [.int .u64 v.seed, .int .i64 v.process, .int .i64 v.ports, .int .i64 v.look, .int .i64 v.now] := rfl
theorem macS_eq (s : Sta) (v : Evi) (x : Ins) (c k : Nat) : macS s v x c k = .agg [stS s c k, evS v, yl_ x] := rfl
theorem mB_eq (s : Sta) (v : Evi) (x : Ins) (c k : Nat) : mB s v x c k = .own 152 (macS s v x c k) true := rfl
theorem cB_eq (s : Sta) : cB s = .own 2 (.arr s.cells.length 1 (i64S s.cells)) false := rfl
theorem sB_eq (s : Sta) : sB s = .own 64 (.arr s.sends.length 3 (sndsS s.sends)) false := rfl
set_option linter.defProp false in
def JM := And.intro @stS_eq (And.intro @evS_eq (And.intro @macS_eq (And.intro @mB_eq (And.intro @cB_eq @sB_eq))))
theorem ls_getD {α : Type} {g : SV → α} {n q : Nat} {f : Nat → SV} {d : α} (h : q < n) : (ls g n f).getD q d = g (f q) := by
 simp [ls, h]
def macP (h : HM) (g : Nat) : Option (Sta × Evi × Ins × Nat × Nat × Prop) := match h g with
 | .own t (.agg [.agg [a, .bool e, .arr 8 1 rg, .sl z c [] 1 0 nc none, d, .sl z2 k [] 3 0 ns none], .agg [e0, e1, e2, e3, e4], iv]) true => match h c, h k with
  | .own t1 (.arr n1 1 cf) false, .own t2 (.arr n2 3 sf) false =>
   bif (Nat.beq t 152 && Nat.beq t1 2 && Nat.beq t2 64) && (Nat.beq z c && Nat.beq z2 k && Nat.beq n1 nc && Nat.beq n2 ns) && (isI .i64 a && isI .i64 d) && (isI .u64 e0 && isI .i64 e1 && isI .i64 e2 && isI .i64 e3 && isI .i64 e4) && isIns iv then
    some (⟨iOf a, e, fun q => iOf (rg q), ls iOf nc cf, iOf d, ls zm_ ns sf⟩, ⟨iOf e0, iOf e1, iOf e2, iOf e3, iOf e4⟩, zs_ iv, c, k, (∀ q, q < 8 → isI .i64 (rg q) = true) ∧ (∀ q, q < nc → isI .i64 (cf q) = true) ∧ ∀ q, q < ns → isSnd (sf q) = true) else none
  | _, _ => none
 | _ => none
theorem mac_val {h : HM} {g c k : Nat} {s : Sta} {v : Evi} {x : Ins} {ok : Prop} (hp : macP h g = some (s, v, x, c, k, ok)) (hok : ok) :
  ∃ l cf sf, h g = .own 152 (.agg l) true ∧ (∀ β, (SV.agg l).cl β = (macS s v x c k).cl β) ∧ h c = .own 2 (.arr s.cells.length 1 cf) false ∧ (∀ β q, q < s.cells.length → (cf q).cl β = (i64S s.cells q).cl β) ∧
   h k = .own 64 (.arr s.sends.length 3 sf) false ∧ (∀ β q, q < s.sends.length → (sf q).cl β = (sndsS s.sends q).cl β) ∧ g ≠ c ∧ g ≠ k ∧ c ≠ k := by
 unfold macP at hp
 split at hp
 ·rename_i t a e rg z c0 nc d z2 k0 ns e0 e1 e2 e3 e4 iv hg
  split at hp
  ·rename_i t1 n1 cf t2 n2 sf hc hk
   obtain ⟨hb, hs⟩ := zl_ hp
   simp only [Option.some.injEq, Prod.mk.injEq] at hs
   obtain ⟨rfl, rfl, rfl, rfl, rfl, rfl⟩ := hs
   simp only [Bool.and_eq_true] at hb
   obtain ⟨⟨⟨⟨⟨⟨b1, b2⟩, b3⟩, ⟨⟨b4, b5⟩, b6⟩, b7⟩, b8, b9⟩, ⟨⟨⟨b10, b11⟩, b12⟩, b13⟩, b14⟩, b15⟩ := hb
   have b1 := Nat.eq_of_beq_eq_true b1
   have b2 := Nat.eq_of_beq_eq_true b2
   have b3 := Nat.eq_of_beq_eq_true b3
   have b4 := Nat.eq_of_beq_eq_true b4
   have b5 := Nat.eq_of_beq_eq_true b5
   have b6 := Nat.eq_of_beq_eq_true b6
   have b7 := Nat.eq_of_beq_eq_true b7
   subst b1 b2 b3 b4 b5 b6 b7
   obtain ⟨hr, hcf, hsf⟩ := hok
   refine ⟨_, cf, sf, hg, fun β => ?_, by rw [hc, zb_], fun β q hq => ?_, by rw [hk, zb_], fun β q hq => ?_, ?_, ?_, ?_⟩
   ·have h8 : (SV.arr 8 1 rg).cl β = (SV.arr 8 1 fun q => .int .i64 (iOf (rg q))).cl β := arrCl fun q hq => by rw [isI_cl (hr q hq)]; rfl
    simp only [macS, stS, evS, cl_agg, clL_cons, clL_nil, h8, isI_cl b8, isI_cl b9, isI_cl b10, isI_cl b11, isI_cl b12, isI_cl b13, isI_cl b14, isIns_cl b15, isIns_cl (zy_ _), yi_, zb_]
    rfl
   ·rw [zb_] at hq
    rw [isI_cl (hcf q hq)]
    unfold i64S
    rw [ls_getD hq]; rfl
   ·rw [zb_] at hq
    rw [isSnd_cl (hsf q hq)]
    unfold sndsS
    rw [ls_getD hq, isSnd_cl (ym_ _), yh_]
   ·rintro rfl; rw [hg] at hc; cases hc
   ·rintro rfl; rw [hg] at hk; cases hk
   ·rintro rfl; rw [hc] at hk; cases hk
  ·cases hp
 ·cases hp
def macH (h : HM) (g c k : Nat) (s : Sta) (v : Evi) (x : Ins) : HM := upd (upd (upd h g (mB s v x c k)) c (cB s)) k (sB s)
theorem macH_g {h : HM} {g c k : Nat} {s : Sta} {v : Evi} {x : Ins} (n1 : g ≠ c) (n2 : g ≠ k) : macH h g c k s v x g = mB s v x c k := by
 unfold macH; rw [z3_ n2, z3_ n1, zr_]
theorem macH_c {h : HM} {g c k : Nat} {s : Sta} {v : Evi} {x : Ins} (n3 : c ≠ k) : macH h g c k s v x c = cB s := by
 unfold macH; rw [z3_ n3, zr_]
theorem macH_k {h : HM} {g c k : Nat} {s : Sta} {v : Evi} {x : Ins} : macH h g c k s v x k = sB s := by
 unfold macH; rw [zr_]
theorem macH_o {h : HM} {g c k i : Nat} {s : Sta} {v : Evi} {x : Ins} (n1 : i ≠ g) (n2 : i ≠ c) (n3 : i ≠ k) : macH h g c k s v x i = h i := by
 unfold macH; rw [z3_ n3, z3_ n2, z3_ n1]
theorem macH_born {h : HM} {g c k i : Nat} {s : Sta} {v : Evi} {x : Ins} (hi : (h i).born = true) : (macH h g c k s v x i).born = true := by
 unfold macH Vm.upd
 split
 ·rfl
 ·split
  ·rfl
  ·split
   ·rfl
   ·exact hi
theorem cB_st {h : HM} {s : Sta} : (cB s).stable h := fun q => i64S_stable q
theorem sB_st {h : HM} {s : Sta} : (sB s).stable h := fun q => sndsS_stable q
theorem mB_st {h : HM} {s : Sta} {v : Evi} {x : Ins} {c k : Nat} (hc : (h c).born = true) (hk : (h k).born = true) : (mB s v x c k).stable h := by
 simp [mB, HB.stable, macS, stS, evS, yl_, zc_, ze_, hc, hk]
theorem macS_ren (ρ : Nat → Nat) (s : Sta) (v : Evi) (x : Ins) (c k : Nat) : (macS s v x c k).ren ρ = macS s v x (ρ c) (ρ k) := by
 simp [macS, stS, evS, yl_, SV.ren, renL]
theorem mB_ren (ρ : Nat → Nat) (s : Sta) (v : Evi) (x : Ins) (c k : Nat) : (mB s v x c k).ren ρ = mB s v x (ρ c) (ρ k) := by
 simp [mB, HB.ren, macS_ren]
theorem cB_ren (ρ : Nat → Nat) (s : Sta) : (cB s).ren ρ = cB s := rfl
theorem sB_ren (ρ : Nat → Nat) (s : Sta) : (sB s).ren ρ = sB s := by
 have : (fun q => (sndsS s.sends q).ren ρ) = sndsS s.sends := by
  funext q; unfold sndsS; simp only [sndS, SV.ren, renL]
 simp [sB, HB.ren, SV.ren, this]
section
variable {w0 w : World} {M : Nat → Prop} {β : Env} {h h' : HM} {g c k : Nat} {s : Sta} {v : Evi} {x : Ins} {ok : Prop}
theorem mac_canon (hp : macP h g = some (s, v, x, c, k, ok)) (hok : ok) (R : Rep w0 M β h' w) (eg : h' g = h g) (ec : h' c = h c) (ek : h' k = h k) :
  Rep w0 M β (macH h' g c k s v x) w ∧ g ≠ c ∧ g ≠ k ∧ c ≠ k ∧ 0 ≠ g ∧ 0 ≠ c ∧ 0 ≠ k := by
 obtain ⟨l, cf, sf, hg, hgl, hc, hcl, hk, hkl, n1, n2, n3⟩ := mac_val hp hok
 have z : ∀ {j : Nat} {b : HB}, h' j = b → b.mine = true → 0 ≠ j := fun {j b} hj hb e => by
  subst e; rw [R.nil0] at hj; subst hj; cases hb
 have z1 := z (eg.trans hg) rfl
 have z2 := z (ec.trans hc) rfl
 have z3 := z (ek.trans hk) rfl
 have hnn : (macH h' g c k s v x) 0 = .gone := by rw [macH_o z1 z2 z3]; exact R.nil0
 refine ⟨R.less (fun i => ?_) hnn (fun i => ?_), n1, n2, n3, z1, z2, z3⟩
 ·by_cases e1 : i = g
  ·subst e1
   rw [macH_g n1 n2, eg, hg]
   exact .val hgl (fun n k f e => by cases e) (fun n k f e => by cases e)
  ·by_cases e2 : i = c
   ·subst e2
    rw [macH_c n3, ec, hc]
    exact .val (fun β => arrCl (hcl β)) (fun n k f e => by injection e with e1 e2 e3; subst e1 e2; exact ⟨_, rfl⟩) (fun n k f e => by injection e with e1 e2 e3; subst e1 e2; exact ⟨_, rfl⟩)
   ·by_cases e3 : i = k
    ·subst e3
     rw [macH_k, ek, hk]
     exact .val (fun β => arrCl (hkl β)) (fun n k f e => by injection e with e1 e2 e3; subst e1 e2; exact ⟨_, rfl⟩) (fun n k f e => by injection e with e1 e2 e3; subst e1 e2; exact ⟨_, rfl⟩)
    ·rw [macH_o e1 e2 e3]; exact .same _
 ·by_cases e1 : i = g
  ·subst e1
   rw [macH_g n1 n2]
   exact mB_st (by rw [macH_c n3]; rfl) (by rw [macH_k]; rfl)
  ·by_cases e2 : i = c
   ·subst e2
    rw [macH_c n3]; exact cB_st
   ·by_cases e3 : i = k
    ·subst e3
     rw [macH_k]; exact sB_st
    ·rw [macH_o e1 e2 e3]
     exact HB.stable_more (R.st i) fun j hj => macH_born hj
end
abbrev MF := List SV → Sta → Evi → Ins → Option (Prop × (Nat → SV) × Sta × Ins × Bool)
def mS (F : MF) : yq_ := fun args h m => match args with
 | .ptr g [] :: ar => match macP h g with
  | some (s, v, x, c, k, ok) => match F ar s v x with
   | some (cond, val, s', x', mv) => some (ok ∧ cond, val c, [g, c, k], bif mv then [(g, mB s' v x' c m), (c, cB s'), (k, .gone), (m, sB s')] else [(g, mB s' v x' c k), (c, cB s'), (k, sB s')])
   | none => none
  | none => none
 | _ => none
theorem inj4 {g c k : Nat} {a b d : HB} (n1 : g ≠ c) (n2 : g ≠ k) (n3 : c ≠ k) : ∀ i j, i < [HB.gone, a, b, d].length → j < [HB.gone, a, b, d].length → i ≠ j → (hp [HB.gone, a, b, d] i).mine = true → (hp [HB.gone, a, b, d] j).mine = true ∨ (hp [HB.gone, a, b, d] j).isRo = true → [0, g, c, k].getD i 0 ≠ [0, g, c, k].getD j 0 := by
 intro i j hi hj hne hmi hmj
 simp only [List.length_cons, List.length_nil] at hi hj
 have hi0 : i ≠ 0 := by rintro rfl; cases hmi
 have hj0 : j ≠ 0 := by
  rintro rfl
  rcases hmj with h | h <;> cases h
 rcases i with _ | _ | _ | _ | i
 ·exact absurd rfl hi0
 all_goals rcases j with _ | _ | _ | _ | j
 all_goals first | exact absurd rfl hj0 | exact absurd rfl hne | (simp only [List.getD_cons_succ, List.getD_cons_zero]; first | exact n1 | exact n2 | exact n3 | exact n1.symm | exact n2.symm | exact n3.symm) | omega
theorem mS_ok {f : FuncId} {F : MF} (hf : named Try.prog f = true)
  (H : ∀ ar s v x cond val s' x' mv, F ar s v x = some (cond, val, s', x', mv) → cond → (∀ ρ, renL ρ ar = ar) ∧ (∀ h, ze_ h ar) ∧ (∀ ρ : Nat → Nat, ρ 0 = 0 → (val 2).ren ρ = val (ρ 2)) ∧ (∀ h : HM, (h 0).born = true → (h 2).born = true → zc_ h (val 2)) ∧
   zo_ Try.prog f (.ptr 1 [] :: ar) [.gone, mB s v x 2 3, cB s, sB s] (val 2) (bif mv then [.gone, mB s' v x' 2 4, cB s', .gone, sB s'] else [.gone, mB s' v x' 2 3, cB s', sB s'])) : zj_ Try.prog f (mS F) := by
 refine ⟨zi_ hf, fun args h m c v rd wr hs hm hc w0 M β h' w R hrd hwr hst => ?_⟩
 unfold mS at hs
 split at hs
 ·rename_i g ar
  split at hs
  ·rename_i s v x c k ok hmp
   split at hs
   ·rename_i cond val s' x' mv hF
    simp only [Option.some.injEq, Prod.mk.injEq] at hs
    obtain ⟨rfl, rfl, rfl, rfl⟩ := hs
    obtain ⟨hok, hcond⟩ := hc
    obtain ⟨q1, q2, q3, q4, hl⟩ := H ar s v x _ _ _ _ _ hF hcond
    obtain ⟨R1, n1, n2, n3, z1, z2, z3⟩ := mac_canon hmp hok R (hrd g (by simp)) (hrd c (by simp)) (hrd k (by simp))
    have hfit : FitL (rhoL [0, g, c, k] m) (macH h' g c k s v x) [.gone, mB s v x 2 3, cB s, sB s] [0, g, c, k] := by
     refine ⟨.gone ?_, ?_, ?_, ?_, trivial⟩
     ·rw [R1.nil0]; rfl
     ·rw [macH_g n1 n2]
      have e : mB s v x c k = .own 152 ((macS s v x 2 3).ren (rhoL [0, g, c, k] m)) true := by rw [macS_ren]; rfl
      rw [e]; exact .own
     ·rw [macH_c n3]
      exact .own (v := .arr s.cells.length 1 (i64S s.cells))
     ·rw [macH_k]
      have e : sB s = (sB s).ren (rhoL [0, g, c, k] m) := (sB_ren _ _).symm
      rw [e]; exact .own (v := .arr s.sends.length 3 (sndsS s.sends))
    have hargs : renL (rhoL [0, g, c, k] m) (.ptr 1 [] :: ar) = .ptr g [] :: ar := by
     simp only [renL, SV.ren, q1]; rfl
    have hval : (val 2).ren (rhoL [0, g, c, k] m) = val c := q3 _ rfl
    have hst0 : y1_ (hp [.gone, mB s v x 2 3, cB s, sB s]) [.gone, mB s v x 2 3, cB s, sB s] := ⟨trivial, mB_st rfl rfl, cB_st, sB_st, trivial⟩
    cases mv with
    | false =>
     have C := callRW (h := h) (m := m) [0, g, c, k] hl R1 rfl (by simp) rfl rfl hfit (inj4 n1 n2 n3) hm (fun p hp => by cases hp) (by simp) rfl hst0 ⟨rfl, q2 _⟩
      ⟨trivial, mB_st rfl rfl, cB_st, sB_st, trivial⟩ (q4 _ rfl rfl)
     rw [hargs] at C
     have hw : wrs (macH h' g c k s v x) (oldB (rhoL [0, g, c, k] m) [.gone, mB s v x 2 3, cB s, sB s] [.gone, mB s' v x' 2 3, cB s', sB s'] [0, g, c, k] ++ newB (rhoL [0, g, c, k] m) m ([HB.gone, mB s' v x' 2 3, cB s', sB s'].drop 4)) = wrs h' [(g, mB s' v x' c k), (c, cB s'), (k, sB s')] := by
      simp only [oldB, newB, mB_ren, cB_ren, sB_ren, List.drop, List.append_nil]
      funext i
      show upd (upd (upd (macH h' g c k s v x) g (mB s' v x' c k)) c (cB s')) k (sB s') i = upd (upd (upd h' g (mB s' v x' c k)) c (cB s')) k (sB s') i
      unfold macH Vm.upd
      split
      ·rfl
      ·split
       ·rfl
       ·split <;> rfl
     refine C.mono fun e w' ⟨β', g1, g2, g3, g4⟩ => ⟨β', fun i hi => g1 i (macH_born hi), ?_, ?_, ?_⟩
     ·rw [cond_false, ← hw]; exact g2
     ·rw [cond_false, ← hval, ← hw]; exact g3
     ·rw [← hval]; exact g4
    | true =>
     have hmd : h m = .dead := hm m (Nat.le_refl _)
     have hm' : h' m = .dead := (hwr (m, sB s') (by simp)).trans hmd
     have mg : m ≠ g := by rintro rfl; have := mac_val hmp hok; obtain ⟨l, cf, sf, e, _⟩ := this; rw [hmd] at e; cases e
     have mc : m ≠ c := by rintro rfl; have := mac_val hmp hok; obtain ⟨l, cf, sf, _, _, e, _⟩ := this; rw [hmd] at e; cases e
     have mk : m ≠ k := by rintro rfl; have := mac_val hmp hok; obtain ⟨l, cf, sf, _, _, _, _, e, _⟩ := this; rw [hmd] at e; cases e
     have C := callRW (h := h) (m := m) [0, g, c, k] hl R1 rfl (by simp) rfl rfl hfit (inj4 n1 n2 n3) hm (fun p hp => by
       simp only [newB, List.drop, cond_true, List.length_cons, List.length_nil, List.mem_cons, List.not_mem_nil, or_false] at hp
       subst hp
       show macH h' g c k s v x m = h m
       rw [macH_o mg mc mk, hm', hmd]) (by simp) rfl hst0 ⟨rfl, q2 _⟩
      ⟨trivial, mB_st rfl rfl, cB_st, trivial, sB_st, trivial⟩ (q4 _ rfl rfl)
     rw [hargs] at C
     have hw : wrs (macH h' g c k s v x) (oldB (rhoL [0, g, c, k] m) [.gone, mB s v x 2 3, cB s, sB s] [.gone, mB s' v x' 2 4, cB s', .gone, sB s'] [0, g, c, k] ++ newB (rhoL [0, g, c, k] m) m ([HB.gone, mB s' v x' 2 4, cB s', .gone, sB s'].drop 4)) = wrs h' [(g, mB s' v x' c m), (c, cB s'), (k, .gone), (m, sB s')] := by
      have e4 : rhoL [0, g, c, k] m 4 = m := by simp [rhoL]
      simp only [oldB, newB, mB_ren, cB_ren, sB_ren, List.drop, e4]
      funext i
      show upd (upd (upd (upd (macH h' g c k s v x) g (mB s' v x' c m)) c (cB s')) k .gone) m (sB s') i = upd (upd (upd (upd h' g (mB s' v x' c m)) c (cB s')) k .gone) m (sB s') i
      unfold macH Vm.upd
      split
      ·rfl
      ·split
       ·rfl
       ·split
        ·rfl
        ·split <;> rfl
     refine C.mono fun e w' ⟨β', g1, g2, g3, g4⟩ => ⟨β', fun i hi => g1 i (macH_born hi), ?_, ?_, ?_⟩
     ·rw [cond_true, ← hw]; exact g2
     ·rw [cond_true, ← hval, ← hw]; exact g3
     ·rw [← hval]; exact g4
   ·cases hs
  ·cases hs
 ·cases hs
abbrev RF := Sta → Evi → Ins → Option (Prop × SV)
def rS (F : RF) : yq_ := fun args h m => match args with
 | [.ptr g []] => match macP h g with
  | some (s, v, x, c, k, ok) => match F s v x with
   | some (cond, val) => some (ok ∧ cond, val, [g, c, k], [])
   | none => none
  | none => none
 | _ => none
theorem rS_ok {f : FuncId} {F : RF} (hf : named Try.prog f = true)
  (H : ∀ s v x cond val, F s v x = some (cond, val) → cond → (∀ ρ, val.ren ρ = val) ∧ (∀ h : HM, zc_ h val) ∧
   zo_ Try.prog f [.ptr 1 []] [.gone, .ro (macS s v x 2 3), .gone, .gone] val [.gone, .gone, .gone, .gone]) : zj_ Try.prog f (rS F) := by
 refine ⟨zi_ hf, fun args h m c v rd wr hs hm hc w0 M β h' w R hrd hwr hst => ?_⟩
 unfold rS at hs
 split at hs
 ·rename_i g
  split at hs
  ·rename_i s v x c k ok hmp
   split at hs
   ·rename_i cond val hF
    simp only [Option.some.injEq, Prod.mk.injEq] at hs
    obtain ⟨rfl, rfl, rfl, rfl⟩ := hs
    obtain ⟨hok, hcond⟩ := hc
    obtain ⟨q1, q2, hl⟩ := H s v x _ _ hF hcond
    obtain ⟨l, cf, sf, hg, hgl, hcc, _, hk, _⟩ := mac_val hmp hok
    have hfit : FitL (rhoL [0, g, c, k] m) h' [.gone, .ro (macS s v x 2 3), .gone, .gone] [0, g, c, k] := by
     refine ⟨.gone ?_, .ro (u := .agg l) (by rw [hrd g (by simp), hg]; rfl) (fun β => by rw [macS_ren]; exact hgl β) (fun n k f e => by rw [macS_ren] at e; cases e), .gone (by rw [hrd c (by simp), hcc]; rfl), .gone (by rw [hrd k (by simp), hk]; rfl), trivial⟩
     rw [R.nil0]; rfl
    have C := callG (h := h) (m := m) [0, g, c, k] hl R rfl (by simp) rfl rfl rfl hfit hm (fun p hp => by cases hp) (by simp)
     (by simp [y1_, HB.stable, macS, stS, evS, yl_, zc_, ze_, hp, HB.born]) ⟨rfl, trivial⟩ trivial (q2 _)
    refine C.mono fun e w' ⟨β', g1, g2, g3, g4⟩ => ⟨β', g1, g2, q2 _, by rw [← q1 (rhoL [0, g, c, k] m)]; exact g4⟩
   ·cases hs
  ·cases hs
 ·cases hs
end Go.Proofs.Ytmljmabbopkpiaa.Vm
end
section
namespace Go.Proofs.Ytmljmabbopkpiaa.Vm
open Go.RowKit
theorem viewL_len : ∀ l : List View, (viewL l).length = 2 * l.length
 | [] => rfl
 | x :: l => by rw [viewL, List.length_cons, List.length_cons, viewL_len l, List.length_cons]; omega
theorem Vd.envTo {β β' : Env} : ∀ {l : List View} {m : Nat}, (∀ i, m ≤ i → i < m + 2 * l.length → β i = β' i) → Vd β m l → Vd β' m l
 | [], _, _, _ => trivial
 | x :: l, m, hb, h => by
  have hl : (x :: l).length = l.length + 1 := rfl
  refine ⟨?_, Vd.envTo (fun i h1 h2 => hb i (by omega) (by omega)) h.2⟩
  rw [← h.1]
  simp only [SV.den, hb m (Nat.le_refl _) (by omega), hb (m + 1) (by omega) (by omega)]
theorem callRoV {P : Program} {f : FuncId} {args : List SV} {views : List View} {L1 : List HB} {v v' V : SV} {w0 w : World} {M : Nat → Prop} {β : Env} {h h' : HM} {m : Nat} {vals : List Value} (H : zo_ P f args (.gone :: viewL views) v L1) (hok : ∀ x ∈ views, x.Ok w) (R : Rep w0 M β h' w) (hm : ∀ i, m ≤ i → h i = .dead)
  (hwr : ∀ p ∈ newB (rho ((viewL views).length + 1) m) m (L1.drop ((viewL views).length + 1)), h' p.1 = h p.1)
  (hargs : ∀ β1 : Env, Vd β1 1 views → denL β1 args = vals) (hnew : NewL (hN ((viewL views).length + 1) L1) (L1.drop ((viewL views).length + 1))) (hv : zc_ (hN ((viewL views).length + 1) L1) v')
  (hVs : ∀ h2 : HM, (∀ i, (h' i).born = true → (h2 i).born = true) → zc_ h2 (v'.ren (rho ((viewL views).length + 1) m)) → zc_ h2 V)
  (hV : ∀ β2 β' : Env, Vd β2 1 views → v'.den β2 = (v'.ren (rho ((viewL views).length + 1) m)).den β' → (∀ i, (h' i).born = true → β i = β' i) → v.den β2 = V.den β') :
  Calls P f vals.toArray w fun e w' => ∃ β', (∀ i, (h' i).born = true → β i = β' i) ∧ Rep w0 M β' (wrs h' (newB (rho ((viewL views).length + 1) m) m (L1.drop ((viewL views).length + 1)))) w' ∧ zc_ (wrs h' (newB (rho ((viewL views).length + 1) m) m (L1.drop ((viewL views).length + 1)))) V ∧ e = .returned (V.den β') := by
 obtain ⟨β1, a1, R0, d1⟩ := handedAll views hok (start w)
 rw [← hargs β1 d1]
 refine (H w _ β1 w R0).mono fun e w' ⟨β2, k1, R2, k3, k4⟩ => ?_
 have hdead : ∀ i, m ≤ i → i < m + (L1.length - ((viewL views).length + 1)) → h' i = .dead := fun i hi hlt => by
  obtain ⟨b, hb⟩ := newB_mem (ρ := rho ((viewL views).length + 1) m) (l := L1.drop ((viewL views).length + 1)) hi (by rw [List.length_drop]; exact hlt)
  exact (hwr _ hb).trans (hm i hi)
 obtain ⟨β', g1, g2, g3, g4⟩ := graftRo R R2 (Nat.succ_pos _) hdead (newL_spec hnew) hv
 have d2 : Vd β2 1 views := d1.envTo fun i h1 h2 => k1 i (by rw [List.length_cons, viewL_len]; omega)
 refine ⟨β', g1, g2, hVs _ (fun i hi => ?_) g3, by rw [k4, hV β2 β' d2 g4 g1]⟩
 rw [wrs_newB, if_neg]
 ·exact hi
 ·intro ⟨h1, h2⟩
  rw [List.length_drop] at h2
  rw [hdead i h1 h2] at hi
  cases hi
theorem insS_agg (i : Ins) : (yl_ i).isAgg = true := rfl
theorem insS_plain (i : Ins) : (yl_ i).plain = true := rfl
theorem nav_ins (i : Ins) : nav (yl_ i) [] = some (True, yl_ i) := rfl
theorem nav_ins0 (i : Ins) (pa : List Stp) : nav (yl_ i) (.f 0 0 :: pa) = nav (.int .u8 i.op) pa := rfl
theorem nav_ins1 (i : Ins) (pa : List Stp) : nav (yl_ i) (.f 1 1 :: pa) = nav (.int .u8 i.a) pa := rfl
theorem nav_ins2 (i : Ins) (pa : List Stp) : nav (yl_ i) (.f 2 2 :: pa) = nav (.int .u8 i.b) pa := rfl
theorem nav_ins3 (i : Ins) (pa : List Stp) : nav (yl_ i) (.f 3 3 :: pa) = nav (.int .u8 i.c) pa := rfl
theorem nav_ins4 (i : Ins) (pa : List Stp) : nav (yl_ i) (.f 4 4 :: pa) = nav (.int .i64 i.n) pa := rfl
theorem sndS_size (i : Snd) : (sndS i).size = 3 := rfl
theorem sndS_agg (i : Snd) : (sndS i).isAgg = true := rfl
theorem sndS_plain (i : Snd) : (sndS i).plain = true := rfl
theorem nav_snd (i : Snd) : nav (sndS i) [] = some (True, sndS i) := rfl
theorem nav_snd0 (i : Snd) (pa : List Stp) : nav (sndS i) (.f 0 0 :: pa) = nav (.int .i64 i.port) pa := rfl
theorem nav_snd1 (i : Snd) (pa : List Stp) : nav (sndS i) (.f 1 1 :: pa) = nav (.int .i64 i.delay) pa := rfl
theorem nav_snd2 (i : Snd) (pa : List Stp) : nav (sndS i) (.f 2 2 :: pa) = nav (.int .i64 i.value) pa := rfl
set_option linter.defProp false
def JK := And.intro @insS_size (And.intro @insS_agg (And.intro @insS_plain (And.intro @sndS_size (And.intro @sndS_agg @sndS_plain))))
end Go.Proofs.Ytmljmabbopkpiaa.Vm
end
