import Derived.Test.YtmljmabbopkpiaaM1
import Derived.Test.YtmljmabbopkpiaaProg
set_option linter.unusedSimpArgs false
set_option linter.unusedVariables false
section
namespace Go.Proofs.Ytmljmabbopkpiaa
open Go.RowKit
theorem eq3 (x y z a b c : Int) (w : World) : (Op.equalIn 10000 107 (.agg #[.int .u8 x, .int .u8 y, .int .u8 z]) (.agg #[.int .u8 a, .int .u8 b, .int .u8 c])).run Try.prog w = .ok (x == a && (y == b && z == c)) w := by
 have h1 : ∀ (x a : Int) (w : World), (Op.equalIn 9999 5 (.int .u8 x) (.int .u8 a)).run Try.prog w = .ok (x == a) w := fun x a w => run_equalIn_int w 9998 5 .u8 .u8 x a (by kernel_rfl)
 have hs : ∀ w, (sizeOf 5).run Try.prog w = .ok 1 w := fun w => by kernel_rfl
 have hu : ∀ w, (underlying 107).run Try.prog w = .ok (.array 3 5) w := fun w => by kernel_rfl
 have p0 : ∀ (x y z : Int) w, (part 5 #[.int .u8 x, .int .u8 y, .int .u8 z] 0).run Try.prog w = .ok (.int .u8 x) w := fun x y z w => by kernel_rfl
 have p1 : ∀ (x y z : Int) w, (part 5 #[.int .u8 x, .int .u8 y, .int .u8 z] 1).run Try.prog w = .ok (.int .u8 y) w := fun x y z w => by kernel_rfl
 have p2 : ∀ (x y z : Int) w, (part 5 #[.int .u8 x, .int .u8 y, .int .u8 z] 2).run Try.prog w = .ok (.int .u8 z) w := fun x y z w => by kernel_rfl
 rw [Op.equalIn]
 simp only [Sem.run_bind, hu, Result.andThen_ok, hs]
 simp only [Std.Legacy.Range.forIn_eq_forIn_range', Std.Legacy.Range.size]
 simp [List.range'_succ, p0, p1, p2, h1, ite_okB]
end Go.Proofs.Ytmljmabbopkpiaa
end
