/- equality of small arrays of numbers, and other closed facts on types. -/
import Derived.Test.YtmljmabbopkpiaaProg
import Derived.Test.YtmljmabbopkpiaaBase
namespace Go.Proofs.Ytmljmabbopkpiaa
set_option linter.unusedVariables false
set_option linter.unusedSimpArgs false
open Go.RowKit

theorem eq3 (x y z a b c : Int) (w : World) : (Op.equalIn 10000 107 (.agg #[.int .u8 x, .int .u8 y, .int .u8 z]) (.agg #[.int .u8 a, .int .u8 b, .int .u8 c])).run Try.prog w = .ok (x == a && (y == b && z == c)) w := by
  have h1 : ∀ (x a : Int) (w : World), (Op.equalIn 9999 5 (.int .u8 x) (.int .u8 a)).run Try.prog w = .ok (x == a) w := fun x a w => run_equalIn_int w 9998 5 .u8 .u8 x a (by kernel_rfl)
  have hs : ∀ w, (sizeOf 5).run Try.prog w = .ok 1 w := fun w => by kernel_rfl
  have hu : ∀ w, (underlying 107).run Try.prog w = .ok (.array 3 5) w := fun w => by kernel_rfl
  have p0 : ∀ (x y z : Int) w, (part 5 #[.int .u8 x, .int .u8 y, .int .u8 z] 0).run Try.prog w = .ok (.int .u8 x) w := fun x y z w => by kernel_rfl
  have p1 : ∀ (x y z : Int) w, (part 5 #[.int .u8 x, .int .u8 y, .int .u8 z] 1).run Try.prog w = .ok (.int .u8 y) w := fun x y z w => by kernel_rfl
  have p2 : ∀ (x y z : Int) w, (part 5 #[.int .u8 x, .int .u8 y, .int .u8 z] 2).run Try.prog w = .ok (.int .u8 z) w := fun x y z w => by kernel_rfl
  rw [Op.equalIn]
  simp only [Sem.run_bind, hu, Result.andThen_ok, hs]
  simp only [Std.Legacy.Range.forIn_eq_forIn_range', Std.Legacy.Range.size]
  simp [List.range'_succ, p0, p1, p2, h1, ite_okB]

theorem eq8 (x0 x1 x2 x3 x4 x5 x6 x7 a0 a1 a2 a3 a4 a5 a6 a7 : Int) (w : World) : (Op.equalIn 10000 46 (.agg #[.int .i64 x0, .int .i64 x1, .int .i64 x2, .int .i64 x3, .int .i64 x4, .int .i64 x5, .int .i64 x6, .int .i64 x7]) (.agg #[.int .i64 a0, .int .i64 a1, .int .i64 a2, .int .i64 a3, .int .i64 a4, .int .i64 a5, .int .i64 a6, .int .i64 a7])).run Try.prog w = .ok (x0 == a0 && (x1 == a1 && (x2 == a2 && (x3 == a3 && (x4 == a4 && (x5 == a5 && (x6 == a6 && (x7 == a7)))))))) w := by
  have h1 : ∀ (x a : Int) (w : World), (Op.equalIn 9999 2 (.int .i64 x) (.int .i64 a)).run Try.prog w = .ok (x == a) w := fun x a w => run_equalIn_int w 9998 2 .i64 .i64 x a (by kernel_rfl)
  have hs : ∀ w, (sizeOf 2).run Try.prog w = .ok 1 w := fun w => by kernel_rfl
  have hu : ∀ w, (underlying 46).run Try.prog w = .ok (.array 8 2) w := fun w => by kernel_rfl
  have p0 : ∀ (x0 x1 x2 x3 x4 x5 x6 x7 : Int) w, (part 2 #[.int .i64 x0, .int .i64 x1, .int .i64 x2, .int .i64 x3, .int .i64 x4, .int .i64 x5, .int .i64 x6, .int .i64 x7] 0).run Try.prog w = .ok (.int .i64 x0) w := fun x0 x1 x2 x3 x4 x5 x6 x7 w => by kernel_rfl
  have p1 : ∀ (x0 x1 x2 x3 x4 x5 x6 x7 : Int) w, (part 2 #[.int .i64 x0, .int .i64 x1, .int .i64 x2, .int .i64 x3, .int .i64 x4, .int .i64 x5, .int .i64 x6, .int .i64 x7] 1).run Try.prog w = .ok (.int .i64 x1) w := fun x0 x1 x2 x3 x4 x5 x6 x7 w => by kernel_rfl
  have p2 : ∀ (x0 x1 x2 x3 x4 x5 x6 x7 : Int) w, (part 2 #[.int .i64 x0, .int .i64 x1, .int .i64 x2, .int .i64 x3, .int .i64 x4, .int .i64 x5, .int .i64 x6, .int .i64 x7] 2).run Try.prog w = .ok (.int .i64 x2) w := fun x0 x1 x2 x3 x4 x5 x6 x7 w => by kernel_rfl
  have p3 : ∀ (x0 x1 x2 x3 x4 x5 x6 x7 : Int) w, (part 2 #[.int .i64 x0, .int .i64 x1, .int .i64 x2, .int .i64 x3, .int .i64 x4, .int .i64 x5, .int .i64 x6, .int .i64 x7] 3).run Try.prog w = .ok (.int .i64 x3) w := fun x0 x1 x2 x3 x4 x5 x6 x7 w => by kernel_rfl
  have p4 : ∀ (x0 x1 x2 x3 x4 x5 x6 x7 : Int) w, (part 2 #[.int .i64 x0, .int .i64 x1, .int .i64 x2, .int .i64 x3, .int .i64 x4, .int .i64 x5, .int .i64 x6, .int .i64 x7] 4).run Try.prog w = .ok (.int .i64 x4) w := fun x0 x1 x2 x3 x4 x5 x6 x7 w => by kernel_rfl
  have p5 : ∀ (x0 x1 x2 x3 x4 x5 x6 x7 : Int) w, (part 2 #[.int .i64 x0, .int .i64 x1, .int .i64 x2, .int .i64 x3, .int .i64 x4, .int .i64 x5, .int .i64 x6, .int .i64 x7] 5).run Try.prog w = .ok (.int .i64 x5) w := fun x0 x1 x2 x3 x4 x5 x6 x7 w => by kernel_rfl
  have p6 : ∀ (x0 x1 x2 x3 x4 x5 x6 x7 : Int) w, (part 2 #[.int .i64 x0, .int .i64 x1, .int .i64 x2, .int .i64 x3, .int .i64 x4, .int .i64 x5, .int .i64 x6, .int .i64 x7] 6).run Try.prog w = .ok (.int .i64 x6) w := fun x0 x1 x2 x3 x4 x5 x6 x7 w => by kernel_rfl
  have p7 : ∀ (x0 x1 x2 x3 x4 x5 x6 x7 : Int) w, (part 2 #[.int .i64 x0, .int .i64 x1, .int .i64 x2, .int .i64 x3, .int .i64 x4, .int .i64 x5, .int .i64 x6, .int .i64 x7] 7).run Try.prog w = .ok (.int .i64 x7) w := fun x0 x1 x2 x3 x4 x5 x6 x7 w => by kernel_rfl
  rw [Op.equalIn]
  simp only [Sem.run_bind, hu, Result.andThen_ok, hs]
  simp only [Std.Legacy.Range.forIn_eq_forIn_range', Std.Legacy.Range.size]
  simp [List.range'_succ, p0, p1, p2, p3, p4, p5, p6, p7, h1, ite_okB]

theorem fieldsSend : (Try.prog.fieldsOf 64).toList = [{ name := "Port", type := 3, offset := 0, embedded := false, tag := "", pkgPath := "", byteOffset := 0 }, { name := "Delay", type := 2, offset := 1, embedded := false, tag := "", pkgPath := "", byteOffset := 8 }, { name := "Value", type := 2, offset := 2, embedded := false, tag := "", pkgPath := "", byteOffset := 16 }] := by kernel_rfl
theorem eqSend (x y z a b c : Int) (w : World) : (Op.equalIn 10000 64 (.agg #[.int .i64 x, .int .i64 y, .int .i64 z]) (.agg #[.int .i64 a, .int .i64 b, .int .i64 c])).run Try.prog w = .ok (x == a && (y == b && z == c)) w := by
  have h1 : ∀ (x a : Int) (w : World), (Op.equalIn 9999 2 (.int .i64 x) (.int .i64 a)).run Try.prog w = .ok (x == a) w := fun x a w => run_equalIn_int w 9998 2 .i64 .i64 x a (by kernel_rfl)
  have h2 : ∀ (x a : Int) (w : World), (Op.equalIn 9999 3 (.int .i64 x) (.int .i64 a)).run Try.prog w = .ok (x == a) w := fun x a w => run_equalIn_int w 9998 3 .i64 .i64 x a (by kernel_rfl)
  have p0 : ∀ (x y z : Int) w, (part 3 #[.int .i64 x, .int .i64 y, .int .i64 z] 0).run Try.prog w = .ok (.int .i64 x) w := fun x y z w => by kernel_rfl
  have p1 : ∀ (x y z : Int) w, (part 2 #[.int .i64 x, .int .i64 y, .int .i64 z] 1).run Try.prog w = .ok (.int .i64 y) w := fun x y z w => by kernel_rfl
  have p2 : ∀ (x y z : Int) w, (part 2 #[.int .i64 x, .int .i64 y, .int .i64 z] 2).run Try.prog w = .ok (.int .i64 z) w := fun x y z w => by kernel_rfl
  rw [run_equalIn_struct w 9999 64 _ _ (by kernel_rfl) (by kernel_rfl), fieldsSend]
  simp [Op.eqFields, p0, p1, p2, h1, h2, ite_okB]
end Go.Proofs.Ytmljmabbopkpiaa
