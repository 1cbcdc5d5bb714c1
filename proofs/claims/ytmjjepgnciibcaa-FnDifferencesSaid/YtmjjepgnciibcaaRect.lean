/- Contracts: RectOk, HasPoint, and the laws' conversion of a rectangle. -/
import Derived.Test.YtmjjepgnciibcaaBase
import Derived.Test.YtmjjepgnciibcaaMem
namespace Go.Proofs.Ytmjjepgnciibcaa
open Go.RowKit

theorem toRect_any (x y a b : Int) (w : World) : Calls Try.prog 67 #[.agg #[.int .i64 x, .int .i64 y, .int .i64 a, .int .i64 b]] w fun e w' => e = .returned (.agg #[.int .i64 x, .int .i64 y, .int .i64 a, .int .i64 b]) ∧ Below w.heap.size w w' := by
  go_enter Try.func67, Try.ntmps67
  go_wp2
  go_returns
  exact ⟨rfl, by go_grown⟩
theorem implRectOk (x y a b : Int) (w : World) : Calls Try.prog 76 #[.agg #[.int .i64 x, .int .i64 y, .int .i64 a, .int .i64 b]] w fun e w' => e = .returned (.bool (Pl.rectOk x y a b)) ∧ Below w.heap.size w w' := by
  cases hx : Pl.inB x (-1000) 1000
  case false =>
    go_enter Try.func76, Try.ntmps76
    go_wp2_with (go_at_call 77; ((with_reducible refine (within_any _ _ _ _).mono ?_)); rintro e w' ⟨rfl, rfl⟩)
    go_ret
    exact ⟨ret_bool (by simp [Pl.rectOk, hx]), by go_grown⟩
  cases hy : Pl.inB y (-1000) 1000
  case false =>
    go_enter Try.func76, Try.ntmps76
    go_wp2_with (go_at_call 77; ((with_reducible refine (within_any _ _ _ _).mono ?_)); rintro e w' ⟨rfl, rfl⟩)
    go_ret
    exact ⟨ret_bool (by simp [Pl.rectOk, hy]), by go_grown⟩
  cases ha : Pl.inB a 0 1000
  case false =>
    go_enter Try.func76, Try.ntmps76
    go_wp2_with (go_at_call 77; ((with_reducible refine (within_any _ _ _ _).mono ?_)); rintro e w' ⟨rfl, rfl⟩)
    go_ret
    exact ⟨ret_bool (by simp [Pl.rectOk, ha]), by go_grown⟩
  go_enter Try.func76, Try.ntmps76
  go_wp2_with (go_at_call 77; ((with_reducible refine (within_any _ _ _ _).mono ?_)); rintro e w' ⟨rfl, rfl⟩)
  go_ret
  exact ⟨ret_bool (by simp [Pl.rectOk, hx, hy, ha]), by go_grown⟩
theorem specRectOk (x y a b : Int) (w : World) : Calls Try.prog 50 #[.agg #[.int .i64 x, .int .i64 y, .int .i64 a, .int .i64 b]] w fun e w' => e = .returned (.bool (Pl.rectOk x y a b)) ∧ Below w.heap.size w w' := by
  cases hx : Pl.inB x (-1000) 1000
  case false =>
    go_enter Try.func50, Try.ntmps50
    go_wp2_with (go_at_call 60; ((with_reducible refine (l01In_any _ _ _ _).mono ?_)); rintro e w' ⟨rfl, rfl⟩)
    go_ret
    exact ⟨ret_bool (by simp [Pl.rectOk, hx]), by go_grown⟩
  cases hy : Pl.inB y (-1000) 1000
  case false =>
    go_enter Try.func50, Try.ntmps50
    go_wp2_with (go_at_call 60; ((with_reducible refine (l01In_any _ _ _ _).mono ?_)); rintro e w' ⟨rfl, rfl⟩)
    go_ret
    exact ⟨ret_bool (by simp [Pl.rectOk, hy]), by go_grown⟩
  cases ha : Pl.inB a 0 1000
  case false =>
    go_enter Try.func50, Try.ntmps50
    go_wp2_with (go_at_call 60; ((with_reducible refine (l01In_any _ _ _ _).mono ?_)); rintro e w' ⟨rfl, rfl⟩)
    go_ret
    exact ⟨ret_bool (by simp [Pl.rectOk, ha]), by go_grown⟩
  go_enter Try.func50, Try.ntmps50
  go_wp2_with (go_at_call 60; ((with_reducible refine (l01In_any _ _ _ _).mono ?_)); rintro e w' ⟨rfl, rfl⟩)
  go_ret
  exact ⟨ret_bool (by simp [Pl.rectOk, hx, hy, ha]), by go_grown⟩
end Go.Proofs.Ytmjjepgnciibcaa
