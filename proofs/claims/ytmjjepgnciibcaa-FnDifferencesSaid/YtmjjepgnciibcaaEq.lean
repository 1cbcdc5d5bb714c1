/- '==' and '!=' of two rectangles. -/
import Derived.Test.YtmjjepgnciibcaaRect2
import Derived.Laws.StructEq
namespace Go.Proofs.Ytmjjepgnciibcaa
open Go.RowKit
theorem eqIn_rect (w : World) (x y a b x2 y2 a2 b2 : Int) : (Op.equalIn 10000 50 (.agg #[.int .i64 x, .int .i64 y, .int .i64 a, .int .i64 b]) (.agg #[.int .i64 x2, .int .i64 y2, .int .i64 a2, .int .i64 b2])).run Try.prog w = .ok (decide (Pl.R.mk x y a b = Pl.R.mk x2 y2 a2 b2)) w := by
  have u3 := Try.underlying3
  have a3 := Try.isAgg3
  have z3 := Try.sizeOf3
  have hS : Try.prog.underlying 50 = some (.struct (Try.prog.fieldsOf 50)) := by kernel_rfl
  have hp : Try.prog.stoodInHeld 50 = false := by kernel_rfl
  rw [show (10000 : Nat) = 9999 + 1 from rfl, run_equalIn_agg w 9999 50 _ _ hS hp]
  simp only [Program.fieldsOf, Try.underlying50]
  go_simp
  by_cases h1 : x = x2 <;> by_cases h2 : y = y2 <;> by_cases h3 : a = a2 <;> by_cases h4 : b = b2 <;> simp [h1, h2, h3, h4]
theorem eql_rect (w : World) (x y a b x2 y2 a2 b2 : Int) : (binOp .eql 50 (.agg #[.int .i64 x, .int .i64 y, .int .i64 a, .int .i64 b]) (.agg #[.int .i64 x2, .int .i64 y2, .int .i64 a2, .int .i64 b2])).run Try.prog w = .ok (.bool (decide (Pl.R.mk x y a b = Pl.R.mk x2 y2 a2 b2))) w := by
  rw [run_eql_struct, eqIn_rect]
  rfl
theorem neq_rect (w : World) (x y a b x2 y2 a2 b2 : Int) : (binOp .neq 50 (.agg #[.int .i64 x, .int .i64 y, .int .i64 a, .int .i64 b]) (.agg #[.int .i64 x2, .int .i64 y2, .int .i64 a2, .int .i64 b2])).run Try.prog w = .ok (.bool (!decide (Pl.R.mk x y a b = Pl.R.mk x2 y2 a2 b2))) w := by
  rw [run_neq_struct, eqIn_rect]
  rfl
theorem guard_rect : Try.prog.eqGuardType Try.prog.depth 50 = false := by kernel_rfl
end Go.Proofs.Ytmjjepgnciibcaa
