/- Contracts in the form 'one block was made': RectOk, isEmpty; then Moved, Covers, Bounds. -/
import Derived.Test.YtmjjepgnciibcaaRect2
import Derived.Deep.QuietTactic
import Derived.BigQuiet
import Derived.Lib.MinMax
import Derived.Outline
namespace Go.Proofs.Ytmjjepgnciibcaa
open Go.RowKit

def Boxed (v : Value) (w : World) (e : Ending) (w' : World) : Prop := e = .returned v ∧ ∃ o, w' = w.alloc o

theorem implRectOkB (x y a b : Int) (w : World) : Calls Try.prog 76 #[.agg #[.int .i64 x, .int .i64 y, .int .i64 a, .int .i64 b]] w (Boxed (.bool (Pl.rectOk x y a b)) w) := by
  cases hx : Pl.inB x (-1000) 1000
  case false =>
    go_enter Try.func76, Try.ntmps76
    go_wp2_with (go_at_call 77; ((with_reducible refine (within_any _ _ _ _).mono ?_)); rintro e w' ⟨rfl, rfl⟩)
    go_ret
    exact ⟨ret_bool (by simp [Pl.rectOk, hx]), _, rfl⟩
  cases hy : Pl.inB y (-1000) 1000
  case false =>
    go_enter Try.func76, Try.ntmps76
    go_wp2_with (go_at_call 77; ((with_reducible refine (within_any _ _ _ _).mono ?_)); rintro e w' ⟨rfl, rfl⟩)
    go_ret
    exact ⟨ret_bool (by simp [Pl.rectOk, hy]), _, rfl⟩
  cases ha : Pl.inB a 0 1000
  case false =>
    go_enter Try.func76, Try.ntmps76
    go_wp2_with (go_at_call 77; ((with_reducible refine (within_any _ _ _ _).mono ?_)); rintro e w' ⟨rfl, rfl⟩)
    go_ret
    exact ⟨ret_bool (by simp [Pl.rectOk, ha]), _, rfl⟩
  go_enter Try.func76, Try.ntmps76
  go_wp2_with (go_at_call 77; ((with_reducible refine (within_any _ _ _ _).mono ?_)); rintro e w' ⟨rfl, rfl⟩)
  go_ret
  exact ⟨ret_bool (by simp [Pl.rectOk, hx, hy, ha]), _, rfl⟩
theorem implEmptyB (x y a b : Int) (w : World) : Calls Try.prog 53 #[.agg #[.int .i64 x, .int .i64 y, .int .i64 a, .int .i64 b]] w (Boxed (.bool (Pl.R.empty ⟨x, y, a, b⟩)) w) := by
  go_enter Try.func53, Try.ntmps53
  go_wp2
  all_goals
    go_ret
    exact ⟨ret_bool (by simp [Pl.R.empty, *]), _, rfl⟩
theorem specRectOkB (x y a b : Int) (w : World) : Calls Try.prog 50 #[.agg #[.int .i64 x, .int .i64 y, .int .i64 a, .int .i64 b]] w (Boxed (.bool (Pl.rectOk x y a b)) w) := by
  cases hx : Pl.inB x (-1000) 1000
  case false =>
    go_enter Try.func50, Try.ntmps50
    go_wp2_with (go_at_call 60; ((with_reducible refine (l01In_any _ _ _ _).mono ?_)); rintro e w' ⟨rfl, rfl⟩)
    go_ret
    exact ⟨ret_bool (by simp [Pl.rectOk, hx]), _, rfl⟩
  cases hy : Pl.inB y (-1000) 1000
  case false =>
    go_enter Try.func50, Try.ntmps50
    go_wp2_with (go_at_call 60; ((with_reducible refine (l01In_any _ _ _ _).mono ?_)); rintro e w' ⟨rfl, rfl⟩)
    go_ret
    exact ⟨ret_bool (by simp [Pl.rectOk, hy]), _, rfl⟩
  cases ha : Pl.inB a 0 1000
  case false =>
    go_enter Try.func50, Try.ntmps50
    go_wp2_with (go_at_call 60; ((with_reducible refine (l01In_any _ _ _ _).mono ?_)); rintro e w' ⟨rfl, rfl⟩)
    go_ret
    exact ⟨ret_bool (by simp [Pl.rectOk, ha]), _, rfl⟩
  go_enter Try.func50, Try.ntmps50
  go_wp2_with (go_at_call 60; ((with_reducible refine (l01In_any _ _ _ _).mono ?_)); rintro e w' ⟨rfl, rfl⟩)
  go_ret
  exact ⟨ret_bool (by simp [Pl.rectOk, hx, hy, ha]), _, rfl⟩
end Go.Proofs.Ytmjjepgnciibcaa
