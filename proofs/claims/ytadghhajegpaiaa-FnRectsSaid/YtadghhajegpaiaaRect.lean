/- Contracts: RectOk, HasPoint, and the laws' conversion of a rectangle. -/
import Derived.Test.YtadghhajegpaiaaBase
import Derived.Test.YtadghhajegpaiaaMem
namespace Go.Proofs.Ytadghhajegpaiaa
open Go.RowKit

theorem toRect_any (x y a b : Int) (w : World) : Calls Try.prog 18 #[.agg #[.int .i64 x, .int .i64 y, .int .i64 a, .int .i64 b]] w fun e w' => e = .returned (.agg #[.int .i64 x, .int .i64 y, .int .i64 a, .int .i64 b]) ∧ Below w.heap.size w w' := by
  go_enter Try.func18, Try.ntmps18
  go_wp2
  go_returns
  exact ⟨rfl, by go_grown⟩
theorem implRectOk (x y a b : Int) (w : World) : Calls Try.prog 33 #[.agg #[.int .i64 x, .int .i64 y, .int .i64 a, .int .i64 b]] w fun e w' => e = .returned (.bool (Pl.rectOk x y a b)) ∧ Below w.heap.size w w' := by
  cases hx : Pl.inB x (-1000) 1000
  case false =>
    go_enter Try.func33, Try.ntmps33
    go_wp2_with (go_at_call 55; ((with_reducible refine (within_any _ _ _ _).mono ?_)); rintro e w' ⟨rfl, rfl⟩)
    go_ret
    exact ⟨ret_bool (by simp [Pl.rectOk, hx]), by go_grown⟩
  cases hy : Pl.inB y (-1000) 1000
  case false =>
    go_enter Try.func33, Try.ntmps33
    go_wp2_with (go_at_call 55; ((with_reducible refine (within_any _ _ _ _).mono ?_)); rintro e w' ⟨rfl, rfl⟩)
    go_ret
    exact ⟨ret_bool (by simp [Pl.rectOk, hy]), by go_grown⟩
  cases ha : Pl.inB a 0 1000
  case false =>
    go_enter Try.func33, Try.ntmps33
    go_wp2_with (go_at_call 55; ((with_reducible refine (within_any _ _ _ _).mono ?_)); rintro e w' ⟨rfl, rfl⟩)
    go_ret
    exact ⟨ret_bool (by simp [Pl.rectOk, ha]), by go_grown⟩
  go_enter Try.func33, Try.ntmps33
  go_wp2_with (go_at_call 55; ((with_reducible refine (within_any _ _ _ _).mono ?_)); rintro e w' ⟨rfl, rfl⟩)
  go_ret
  exact ⟨ret_bool (by simp [Pl.rectOk, hx, hy, ha]), by go_grown⟩
theorem specRectOk (x y a b : Int) (w : World) : Calls Try.prog 58 #[.agg #[.int .i64 x, .int .i64 y, .int .i64 a, .int .i64 b]] w fun e w' => e = .returned (.bool (Pl.rectOk x y a b)) ∧ Below w.heap.size w w' := by
  cases hx : Pl.inB x (-1000) 1000
  case false =>
    go_enter Try.func58, Try.ntmps58
    go_wp2_with (go_at_call 51; ((with_reducible refine (l01In_any _ _ _ _).mono ?_)); rintro e w' ⟨rfl, rfl⟩)
    go_ret
    exact ⟨ret_bool (by simp [Pl.rectOk, hx]), by go_grown⟩
  cases hy : Pl.inB y (-1000) 1000
  case false =>
    go_enter Try.func58, Try.ntmps58
    go_wp2_with (go_at_call 51; ((with_reducible refine (l01In_any _ _ _ _).mono ?_)); rintro e w' ⟨rfl, rfl⟩)
    go_ret
    exact ⟨ret_bool (by simp [Pl.rectOk, hy]), by go_grown⟩
  cases ha : Pl.inB a 0 1000
  case false =>
    go_enter Try.func58, Try.ntmps58
    go_wp2_with (go_at_call 51; ((with_reducible refine (l01In_any _ _ _ _).mono ?_)); rintro e w' ⟨rfl, rfl⟩)
    go_ret
    exact ⟨ret_bool (by simp [Pl.rectOk, ha]), by go_grown⟩
  go_enter Try.func58, Try.ntmps58
  go_wp2_with (go_at_call 51; ((with_reducible refine (l01In_any _ _ _ _).mono ?_)); rintro e w' ⟨rfl, rfl⟩)
  go_ret
  exact ⟨ret_bool (by simp [Pl.rectOk, hx, hy, ha]), by go_grown⟩
theorem implHasPoint (x y a b px py : Int) (w : World) : Calls Try.prog 32 #[.agg #[.int .i64 x, .int .i64 y, .int .i64 a, .int .i64 b], .int .i64 px, .int .i64 py] w fun e w' => e = .returned (.bool (Pl.hasPoint x y a b px py)) ∧ Below w.heap.size w w' := by
  cases hr : Pl.rectOk x y a b
  case false =>
    go_enter Try.func32, Try.ntmps32
    go_wp2_with fail
    refine (implRectOk _ _ _ _ _).mono ?_
    rintro e w1 ⟨rfl, hb1⟩
    obtain ⟨hc, hf⟩ := bcell hb1
    go_wp2
    go_ret
    exact ⟨ret_bool (by simp [Pl.hasPoint, hr]), ((Below.refl _ _).alloc (Nat.le_refl _) _).trans (hb1.mono (by simp))⟩
  case true =>
    have ⟨_, _, _, _, _, _, _, _⟩ := Pl.rectOk_t hr
    go_enter Try.func32, Try.ntmps32
    go_wp2_with fail
    refine (implRectOk _ _ _ _ _).mono ?_
    rintro e w1 ⟨rfl, hb1⟩
    obtain ⟨hc, hf⟩ := bcell hb1
    go_wp2
    all_goals
      go_ret
      exact ⟨ret_bool (by rw [Bool.eq_iff_iff]; (try simp [Pl.hasPoint, hr]) <;> omega), ((Below.refl _ _).alloc (Nat.le_refl _) _).trans (hb1.mono (by simp))⟩
end Go.Proofs.Ytadghhajegpaiaa
