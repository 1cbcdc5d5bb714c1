/- Contracts in the form 'one block was made': RectOk, isEmpty; then Moved, Covers, Bounds. -/
import Derived.Test.YtadghhajegpaiaaRect2
import Derived.Deep.QuietTactic
import Derived.BigQuiet
import Derived.Lib.MinMax
import Derived.Outline
namespace Go.Proofs.Ytadghhajegpaiaa
open Go.RowKit

def Boxed (v : Value) (w : World) (e : Ending) (w' : World) : Prop := e = .returned v ∧ ∃ o, w' = w.alloc o

theorem implRectOkB (x y a b : Int) (w : World) : Calls Try.prog 33 #[.agg #[.int .i64 x, .int .i64 y, .int .i64 a, .int .i64 b]] w (Boxed (.bool (Pl.rectOk x y a b)) w) := by
  cases hx : Pl.inB x (-1000) 1000
  case false =>
    go_enter Try.func33, Try.ntmps33
    go_wp2_with (go_at_call 55; ((with_reducible refine (within_any _ _ _ _).mono ?_)); rintro e w' ⟨rfl, rfl⟩)
    go_ret
    exact ⟨ret_bool (by simp [Pl.rectOk, hx]), _, rfl⟩
  cases hy : Pl.inB y (-1000) 1000
  case false =>
    go_enter Try.func33, Try.ntmps33
    go_wp2_with (go_at_call 55; ((with_reducible refine (within_any _ _ _ _).mono ?_)); rintro e w' ⟨rfl, rfl⟩)
    go_ret
    exact ⟨ret_bool (by simp [Pl.rectOk, hy]), _, rfl⟩
  cases ha : Pl.inB a 0 1000
  case false =>
    go_enter Try.func33, Try.ntmps33
    go_wp2_with (go_at_call 55; ((with_reducible refine (within_any _ _ _ _).mono ?_)); rintro e w' ⟨rfl, rfl⟩)
    go_ret
    exact ⟨ret_bool (by simp [Pl.rectOk, ha]), _, rfl⟩
  go_enter Try.func33, Try.ntmps33
  go_wp2_with (go_at_call 55; ((with_reducible refine (within_any _ _ _ _).mono ?_)); rintro e w' ⟨rfl, rfl⟩)
  go_ret
  exact ⟨ret_bool (by simp [Pl.rectOk, hx, hy, ha]), _, rfl⟩
theorem implEmptyB (x y a b : Int) (w : World) : Calls Try.prog 60 #[.agg #[.int .i64 x, .int .i64 y, .int .i64 a, .int .i64 b]] w (Boxed (.bool (Pl.R.empty ⟨x, y, a, b⟩)) w) := by
  go_enter Try.func60, Try.ntmps60
  go_wp2
  all_goals
    go_ret
    exact ⟨ret_bool (by simp [Pl.R.empty, *]), _, rfl⟩
theorem implMoved (x y a b dx dy : Int) (w : World) : Calls Try.prog 23 #[.agg #[.int .i64 x, .int .i64 y, .int .i64 a, .int .i64 b], .int .i64 dx, .int .i64 dy] w fun e w' => e = .returned (.agg #[.int .i64 (Pl.moved ⟨x, y, a, b⟩ dx dy).x, .int .i64 (Pl.moved ⟨x, y, a, b⟩ dx dy).y, .int .i64 (Pl.moved ⟨x, y, a, b⟩ dx dy).w, .int .i64 (Pl.moved ⟨x, y, a, b⟩ dx dy).h]) ∧ Below w.heap.size w w' := by
  cases hr : Pl.rectOk x y a b
  case false =>
    have H := Lib.hid (show Pl.R.mk x y a b = Pl.moved ⟨x, y, a, b⟩ dx dy by simp [Pl.moved, Pl.R.ok, hr])
    go_enter Try.func23, Try.ntmps23
    go_wp2_with (first | (go_at_call 55; ((with_reducible refine (within_any _ _ _ _).mono ?_)); rintro e w' ⟨rfl, rfl⟩) | (go_at_call 33; ((with_reducible refine (implRectOkB _ _ _ _ _).mono ?_)); rintro e w' ⟨rfl, o, rfl⟩))
    go_returns
    exact ⟨ret_R H.out, by go_grown⟩
  cases hx : Pl.inB dx (-2000) 2000
  case false =>
    have H := Lib.hid (show Pl.R.mk x y a b = Pl.moved ⟨x, y, a, b⟩ dx dy by simp [Pl.moved, Pl.R.ok, hx])
    go_enter Try.func23, Try.ntmps23
    go_wp2_with (first | (go_at_call 55; ((with_reducible refine (within_any _ _ _ _).mono ?_)); rintro e w' ⟨rfl, rfl⟩) | (go_at_call 33; ((with_reducible refine (implRectOkB _ _ _ _ _).mono ?_)); rintro e w' ⟨rfl, o, rfl⟩))
    go_returns
    exact ⟨ret_R H.out, by go_grown⟩
  cases hy : Pl.inB dy (-2000) 2000
  case false =>
    have H := Lib.hid (show Pl.R.mk x y a b = Pl.moved ⟨x, y, a, b⟩ dx dy by simp [Pl.moved, Pl.R.ok, hy])
    go_enter Try.func23, Try.ntmps23
    go_wp2_with (first | (go_at_call 55; ((with_reducible refine (within_any _ _ _ _).mono ?_)); rintro e w' ⟨rfl, rfl⟩) | (go_at_call 33; ((with_reducible refine (implRectOkB _ _ _ _ _).mono ?_)); rintro e w' ⟨rfl, o, rfl⟩))
    go_returns
    exact ⟨ret_R H.out, by go_grown⟩
  have ⟨_, _⟩ := Pl.inB_t hx
  have ⟨_, _⟩ := Pl.inB_t hy
  have ⟨_, _, _, _, _, _, _, _⟩ := Pl.rectOk_t hr
  cases hm : Pl.rectOk (x + dx) (y + dy) a b
  case false =>
    have H := Lib.hid (show Pl.R.mk x y a b = Pl.moved ⟨x, y, a, b⟩ dx dy by simp [Pl.moved, Pl.R.ok, hm])
    go_enter Try.func23, Try.ntmps23
    go_wp2_with (first | (go_at_call 55; ((with_reducible refine (within_any _ _ _ _).mono ?_)); rintro e w' ⟨rfl, rfl⟩) | (go_at_call 33; ((with_reducible refine (implRectOkB _ _ _ _ _).mono ?_)); rintro e w' ⟨rfl, o, rfl⟩))
    go_returns
    exact ⟨ret_R H.out, by go_grown⟩
  case true =>
    have H := Lib.hid (show Pl.R.mk (x + dx) (y + dy) a b = Pl.moved ⟨x, y, a, b⟩ dx dy by simp [Pl.moved, Pl.R.ok, hr, hx, hy, hm])
    go_enter Try.func23, Try.ntmps23
    go_wp2_with (first | (go_at_call 55; ((with_reducible refine (within_any _ _ _ _).mono ?_)); rintro e w' ⟨rfl, rfl⟩) | (go_at_call 33; ((with_reducible refine (implRectOkB _ _ _ _ _).mono ?_)); rintro e w' ⟨rfl, o, rfl⟩))
    go_returns
    exact ⟨ret_R H.out, by go_grown⟩
theorem specRectOkB (x y a b : Int) (w : World) : Calls Try.prog 58 #[.agg #[.int .i64 x, .int .i64 y, .int .i64 a, .int .i64 b]] w (Boxed (.bool (Pl.rectOk x y a b)) w) := by
  cases hx : Pl.inB x (-1000) 1000
  case false =>
    go_enter Try.func58, Try.ntmps58
    go_wp2_with (go_at_call 51; ((with_reducible refine (l01In_any _ _ _ _).mono ?_)); rintro e w' ⟨rfl, rfl⟩)
    go_ret
    exact ⟨ret_bool (by simp [Pl.rectOk, hx]), _, rfl⟩
  cases hy : Pl.inB y (-1000) 1000
  case false =>
    go_enter Try.func58, Try.ntmps58
    go_wp2_with (go_at_call 51; ((with_reducible refine (l01In_any _ _ _ _).mono ?_)); rintro e w' ⟨rfl, rfl⟩)
    go_ret
    exact ⟨ret_bool (by simp [Pl.rectOk, hy]), _, rfl⟩
  cases ha : Pl.inB a 0 1000
  case false =>
    go_enter Try.func58, Try.ntmps58
    go_wp2_with (go_at_call 51; ((with_reducible refine (l01In_any _ _ _ _).mono ?_)); rintro e w' ⟨rfl, rfl⟩)
    go_ret
    exact ⟨ret_bool (by simp [Pl.rectOk, ha]), _, rfl⟩
  go_enter Try.func58, Try.ntmps58
  go_wp2_with (go_at_call 51; ((with_reducible refine (l01In_any _ _ _ _).mono ?_)); rintro e w' ⟨rfl, rfl⟩)
  go_ret
  exact ⟨ret_bool (by simp [Pl.rectOk, hx, hy, ha]), _, rfl⟩
theorem specEmptyB (x y a b : Int) (w : World) : Calls Try.prog 59 #[.agg #[.int .i64 x, .int .i64 y, .int .i64 a, .int .i64 b]] w (Boxed (.bool (Pl.R.empty ⟨x, y, a, b⟩)) w) := by
  go_enter Try.func59, Try.ntmps59
  go_wp2
  all_goals
    go_ret
    exact ⟨ret_bool (by simp [Pl.R.empty, *]), _, rfl⟩
theorem specMoved (x y a b dx dy : Int) (w : World) : Calls Try.prog 22 #[.agg #[.int .i64 x, .int .i64 y, .int .i64 a, .int .i64 b], .int .i64 dx, .int .i64 dy] w fun e w' => e = .returned (.agg #[.int .i64 (Pl.moved ⟨x, y, a, b⟩ dx dy).x, .int .i64 (Pl.moved ⟨x, y, a, b⟩ dx dy).y, .int .i64 (Pl.moved ⟨x, y, a, b⟩ dx dy).w, .int .i64 (Pl.moved ⟨x, y, a, b⟩ dx dy).h]) ∧ Below w.heap.size w w' := by
  cases hr : Pl.rectOk x y a b
  case false =>
    have H := Lib.hid (show Pl.R.mk x y a b = Pl.moved ⟨x, y, a, b⟩ dx dy by simp [Pl.moved, Pl.R.ok, hr])
    go_enter Try.func22, Try.ntmps22
    go_wp2_with (first | (go_at_call 51; ((with_reducible refine (l01In_any _ _ _ _).mono ?_)); rintro e w' ⟨rfl, rfl⟩) | (go_at_call 58; ((with_reducible refine (specRectOkB _ _ _ _ _).mono ?_)); rintro e w' ⟨rfl, o, rfl⟩))
    go_returns
    exact ⟨ret_R H.out, by go_grown⟩
  cases hx : Pl.inB dx (-2000) 2000
  case false =>
    have H := Lib.hid (show Pl.R.mk x y a b = Pl.moved ⟨x, y, a, b⟩ dx dy by simp [Pl.moved, Pl.R.ok, hx])
    go_enter Try.func22, Try.ntmps22
    go_wp2_with (first | (go_at_call 51; ((with_reducible refine (l01In_any _ _ _ _).mono ?_)); rintro e w' ⟨rfl, rfl⟩) | (go_at_call 58; ((with_reducible refine (specRectOkB _ _ _ _ _).mono ?_)); rintro e w' ⟨rfl, o, rfl⟩))
    go_returns
    exact ⟨ret_R H.out, by go_grown⟩
  cases hy : Pl.inB dy (-2000) 2000
  case false =>
    have H := Lib.hid (show Pl.R.mk x y a b = Pl.moved ⟨x, y, a, b⟩ dx dy by simp [Pl.moved, Pl.R.ok, hy])
    go_enter Try.func22, Try.ntmps22
    go_wp2_with (first | (go_at_call 51; ((with_reducible refine (l01In_any _ _ _ _).mono ?_)); rintro e w' ⟨rfl, rfl⟩) | (go_at_call 58; ((with_reducible refine (specRectOkB _ _ _ _ _).mono ?_)); rintro e w' ⟨rfl, o, rfl⟩))
    go_returns
    exact ⟨ret_R H.out, by go_grown⟩
  have ⟨_, _⟩ := Pl.inB_t hx
  have ⟨_, _⟩ := Pl.inB_t hy
  have ⟨_, _, _, _, _, _, _, _⟩ := Pl.rectOk_t hr
  cases hm : Pl.rectOk (x + dx) (y + dy) a b
  case false =>
    have H := Lib.hid (show Pl.R.mk x y a b = Pl.moved ⟨x, y, a, b⟩ dx dy by simp [Pl.moved, Pl.R.ok, hm])
    go_enter Try.func22, Try.ntmps22
    go_wp2_with (first | (go_at_call 51; ((with_reducible refine (l01In_any _ _ _ _).mono ?_)); rintro e w' ⟨rfl, rfl⟩) | (go_at_call 58; ((with_reducible refine (specRectOkB _ _ _ _ _).mono ?_)); rintro e w' ⟨rfl, o, rfl⟩))
    go_returns
    exact ⟨ret_R H.out, by go_grown⟩
  case true =>
    have H := Lib.hid (show Pl.R.mk (x + dx) (y + dy) a b = Pl.moved ⟨x, y, a, b⟩ dx dy by simp [Pl.moved, Pl.R.ok, hr, hx, hy, hm])
    go_enter Try.func22, Try.ntmps22
    go_wp2_with (first | (go_at_call 51; ((with_reducible refine (l01In_any _ _ _ _).mono ?_)); rintro e w' ⟨rfl, rfl⟩) | (go_at_call 58; ((with_reducible refine (specRectOkB _ _ _ _ _).mono ?_)); rintro e w' ⟨rfl, o, rfl⟩))
    go_returns
    exact ⟨ret_R H.out, by go_grown⟩
end Go.Proofs.Ytadghhajegpaiaa
