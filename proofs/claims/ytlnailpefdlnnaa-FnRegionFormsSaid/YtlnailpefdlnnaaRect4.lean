/- Contracts: Bounds, Covers, eqRect. -/
import Derived.Test.YtlnailpefdlnnaaRect3
namespace Go.Proofs.Ytlnailpefdlnnaa
open Go.RowKit

theorem eqRect_same (x y a b : Int) (w : World) : Calls Try.prog 32 #[.agg #[.int .i64 x, .int .i64 y, .int .i64 a, .int .i64 b], .agg #[.int .i64 x, .int .i64 y, .int .i64 a, .int .i64 b]] w fun e w' => e = .returned (.bool true) ∧ Below w.heap.size w w' := by
  go_enter Try.func32, Try.ntmps32
  go_wp2
  go_ret
  exact ⟨rfl, by go_grown⟩
set_option maxHeartbeats 4000000 in
theorem implBounds (x y a b x2 y2 a2 b2 : Int) (w : World) : Calls Try.prog 58 #[.agg #[.int .i64 x, .int .i64 y, .int .i64 a, .int .i64 b], .agg #[.int .i64 x2, .int .i64 y2, .int .i64 a2, .int .i64 b2]] w fun e w' => e = .returned (.agg #[.int .i64 (Pl.bounds ⟨x, y, a, b⟩ ⟨x2, y2, a2, b2⟩).x, .int .i64 (Pl.bounds ⟨x, y, a, b⟩ ⟨x2, y2, a2, b2⟩).y, .int .i64 (Pl.bounds ⟨x, y, a, b⟩ ⟨x2, y2, a2, b2⟩).w, .int .i64 (Pl.bounds ⟨x, y, a, b⟩ ⟨x2, y2, a2, b2⟩).h]) ∧ Below w.heap.size w w' := by
  cases hr : Pl.rectOk x y a b
  case false =>
    have H := Lib.hid (show Pl.R.zero = Pl.bounds ⟨x, y, a, b⟩ ⟨x2, y2, a2, b2⟩ by simp [Pl.bounds, Pl.R.ok, hr])
    go_enter Try.func58, Try.ntmps58
    go_wp2_with (first | (go_at_call 49; ((with_reducible refine (implRectOkB _ _ _ _ _).mono ?_)); rintro e w' ⟨rfl, o, rfl⟩) | (go_at_call 64; ((with_reducible refine (implEmptyB _ _ _ _ _).mono ?_)); rintro e w' ⟨rfl, o, rfl⟩))
    go_returns
    exact ⟨ret_R H.out, by go_grown; all_goals (refine below_drewN ?_ _; go_grown)⟩
  cases hr2 : Pl.rectOk x2 y2 a2 b2
  case false =>
    have H := Lib.hid (show Pl.R.zero = Pl.bounds ⟨x, y, a, b⟩ ⟨x2, y2, a2, b2⟩ by simp [Pl.bounds, Pl.R.ok, hr2])
    go_enter Try.func58, Try.ntmps58
    go_wp2_with (first | (go_at_call 49; ((with_reducible refine (implRectOkB _ _ _ _ _).mono ?_)); rintro e w' ⟨rfl, o, rfl⟩) | (go_at_call 64; ((with_reducible refine (implEmptyB _ _ _ _ _).mono ?_)); rintro e w' ⟨rfl, o, rfl⟩))
    go_returns
    exact ⟨ret_R H.out, by go_grown; all_goals (refine below_drewN ?_ _; go_grown)⟩
  cases ea : Pl.R.empty ⟨x, y, a, b⟩ <;> cases eb : Pl.R.empty ⟨x2, y2, a2, b2⟩
  case true.true =>
    have H := Lib.hid (show Pl.R.zero = Pl.bounds ⟨x, y, a, b⟩ ⟨x2, y2, a2, b2⟩ by simp [Pl.bounds, Pl.R.ok, hr, hr2, ea, eb])
    go_enter Try.func58, Try.ntmps58
    go_wp2_with (first | (go_at_call 49; ((with_reducible refine (implRectOkB _ _ _ _ _).mono ?_)); rintro e w' ⟨rfl, o, rfl⟩) | (go_at_call 64; ((with_reducible refine (implEmptyB _ _ _ _ _).mono ?_)); rintro e w' ⟨rfl, o, rfl⟩))
    go_returns
    exact ⟨ret_R H.out, by go_grown; all_goals (refine below_drewN ?_ _; go_grown)⟩
  case true.false =>
    have H := Lib.hid (show Pl.R.mk x2 y2 a2 b2 = Pl.bounds ⟨x, y, a, b⟩ ⟨x2, y2, a2, b2⟩ by simp [Pl.bounds, Pl.R.ok, hr, hr2, ea, eb])
    go_enter Try.func58, Try.ntmps58
    go_wp2_with (first | (go_at_call 49; ((with_reducible refine (implRectOkB _ _ _ _ _).mono ?_)); rintro e w' ⟨rfl, o, rfl⟩) | (go_at_call 64; ((with_reducible refine (implEmptyB _ _ _ _ _).mono ?_)); rintro e w' ⟨rfl, o, rfl⟩))
    go_returns
    exact ⟨ret_R H.out, by go_grown; all_goals (refine below_drewN ?_ _; go_grown)⟩
  case false.true =>
    have H := Lib.hid (show Pl.R.mk x y a b = Pl.bounds ⟨x, y, a, b⟩ ⟨x2, y2, a2, b2⟩ by simp [Pl.bounds, Pl.R.ok, hr, hr2, ea, eb])
    go_enter Try.func58, Try.ntmps58
    go_wp2_with (first | (go_at_call 49; ((with_reducible refine (implRectOkB _ _ _ _ _).mono ?_)); rintro e w' ⟨rfl, o, rfl⟩) | (go_at_call 64; ((with_reducible refine (implEmptyB _ _ _ _ _).mono ?_)); rintro e w' ⟨rfl, o, rfl⟩))
    go_returns
    exact ⟨ret_R H.out, by go_grown; all_goals (refine below_drewN ?_ _; go_grown)⟩
  have ⟨_, _, _, _, _, _, _, _⟩ := Pl.rectOk_t hr
  have ⟨_, _, _, _, _, _, _, _⟩ := Pl.rectOk_t hr2
  cases hm : Pl.rectOk (min x x2) (min y y2) (max (x + a) (x2 + a2) - min x x2) (max (y + b) (y2 + b2) - min y y2)
  case false =>
    have H := Lib.hid (show Pl.R.zero = Pl.bounds ⟨x, y, a, b⟩ ⟨x2, y2, a2, b2⟩ by simp [Pl.bounds, Pl.R.ok, hr, hr2, ea, eb, hm])
    go_enter Try.func58, Try.ntmps58
    go_wp2_with (first | (go_at_call 49; ((with_reducible refine (implRectOkB _ _ _ _ _).mono ?_)); rintro e w' ⟨rfl, o, rfl⟩) | (go_at_call 64; ((with_reducible refine (implEmptyB _ _ _ _ _).mono ?_)); rintro e w' ⟨rfl, o, rfl⟩))
    go_quiet (fail)
    go_wp2_with (first | (go_at_call 49; ((with_reducible refine (implRectOkB _ _ _ _ _).mono ?_)); rintro e w' ⟨rfl, o, rfl⟩) | (go_at_call 64; ((with_reducible refine (implEmptyB _ _ _ _ _).mono ?_)); rintro e w' ⟨rfl, o, rfl⟩))
    go_returns
    exact ⟨ret_R H.out, by go_grown; all_goals (refine below_drewN ?_ _; go_grown)⟩
  case true =>
    have H := Lib.hid (show Pl.R.mk (min x x2) (min y y2) (max (x + a) (x2 + a2) - min x x2) (max (y + b) (y2 + b2) - min y y2) = Pl.bounds ⟨x, y, a, b⟩ ⟨x2, y2, a2, b2⟩ by simp [Pl.bounds, Pl.R.ok, hr, hr2, ea, eb, hm])
    go_enter Try.func58, Try.ntmps58
    go_wp2_with (first | (go_at_call 49; ((with_reducible refine (implRectOkB _ _ _ _ _).mono ?_)); rintro e w' ⟨rfl, o, rfl⟩) | (go_at_call 64; ((with_reducible refine (implEmptyB _ _ _ _ _).mono ?_)); rintro e w' ⟨rfl, o, rfl⟩))
    go_quiet (fail)
    go_wp2_with (first | (go_at_call 49; ((with_reducible refine (implRectOkB _ _ _ _ _).mono ?_)); rintro e w' ⟨rfl, o, rfl⟩) | (go_at_call 64; ((with_reducible refine (implEmptyB _ _ _ _ _).mono ?_)); rintro e w' ⟨rfl, o, rfl⟩))
    go_returns
    exact ⟨ret_R H.out, by go_grown; all_goals (refine below_drewN ?_ _; go_grown)⟩
set_option maxHeartbeats 4000000 in
theorem specBounds (x y a b x2 y2 a2 b2 : Int) (w : World) : Calls Try.prog 57 #[.agg #[.int .i64 x, .int .i64 y, .int .i64 a, .int .i64 b], .agg #[.int .i64 x2, .int .i64 y2, .int .i64 a2, .int .i64 b2]] w fun e w' => e = .returned (.agg #[.int .i64 (Pl.bounds ⟨x, y, a, b⟩ ⟨x2, y2, a2, b2⟩).x, .int .i64 (Pl.bounds ⟨x, y, a, b⟩ ⟨x2, y2, a2, b2⟩).y, .int .i64 (Pl.bounds ⟨x, y, a, b⟩ ⟨x2, y2, a2, b2⟩).w, .int .i64 (Pl.bounds ⟨x, y, a, b⟩ ⟨x2, y2, a2, b2⟩).h]) ∧ Below w.heap.size w w' := by
  cases hr : Pl.rectOk x y a b
  case false =>
    have H := Lib.hid (show Pl.R.zero = Pl.bounds ⟨x, y, a, b⟩ ⟨x2, y2, a2, b2⟩ by simp [Pl.bounds, Pl.R.ok, hr])
    go_enter Try.func57, Try.ntmps57
    go_wp2_with (first | (go_at_call 68; ((with_reducible refine (specRectOkB _ _ _ _ _).mono ?_)); rintro e w' ⟨rfl, o, rfl⟩) | (go_at_call 69; ((with_reducible refine (specEmptyB _ _ _ _ _).mono ?_)); rintro e w' ⟨rfl, o, rfl⟩))
    go_returns
    exact ⟨ret_R H.out, by go_grown; all_goals (refine below_drewN ?_ _; go_grown)⟩
  cases hr2 : Pl.rectOk x2 y2 a2 b2
  case false =>
    have H := Lib.hid (show Pl.R.zero = Pl.bounds ⟨x, y, a, b⟩ ⟨x2, y2, a2, b2⟩ by simp [Pl.bounds, Pl.R.ok, hr2])
    go_enter Try.func57, Try.ntmps57
    go_wp2_with (first | (go_at_call 68; ((with_reducible refine (specRectOkB _ _ _ _ _).mono ?_)); rintro e w' ⟨rfl, o, rfl⟩) | (go_at_call 69; ((with_reducible refine (specEmptyB _ _ _ _ _).mono ?_)); rintro e w' ⟨rfl, o, rfl⟩))
    go_returns
    exact ⟨ret_R H.out, by go_grown; all_goals (refine below_drewN ?_ _; go_grown)⟩
  cases ea : Pl.R.empty ⟨x, y, a, b⟩ <;> cases eb : Pl.R.empty ⟨x2, y2, a2, b2⟩
  case true.true =>
    have H := Lib.hid (show Pl.R.zero = Pl.bounds ⟨x, y, a, b⟩ ⟨x2, y2, a2, b2⟩ by simp [Pl.bounds, Pl.R.ok, hr, hr2, ea, eb])
    go_enter Try.func57, Try.ntmps57
    go_wp2_with (first | (go_at_call 68; ((with_reducible refine (specRectOkB _ _ _ _ _).mono ?_)); rintro e w' ⟨rfl, o, rfl⟩) | (go_at_call 69; ((with_reducible refine (specEmptyB _ _ _ _ _).mono ?_)); rintro e w' ⟨rfl, o, rfl⟩))
    go_returns
    exact ⟨ret_R H.out, by go_grown; all_goals (refine below_drewN ?_ _; go_grown)⟩
  case true.false =>
    have H := Lib.hid (show Pl.R.mk x2 y2 a2 b2 = Pl.bounds ⟨x, y, a, b⟩ ⟨x2, y2, a2, b2⟩ by simp [Pl.bounds, Pl.R.ok, hr, hr2, ea, eb])
    go_enter Try.func57, Try.ntmps57
    go_wp2_with (first | (go_at_call 68; ((with_reducible refine (specRectOkB _ _ _ _ _).mono ?_)); rintro e w' ⟨rfl, o, rfl⟩) | (go_at_call 69; ((with_reducible refine (specEmptyB _ _ _ _ _).mono ?_)); rintro e w' ⟨rfl, o, rfl⟩))
    go_returns
    exact ⟨ret_R H.out, by go_grown; all_goals (refine below_drewN ?_ _; go_grown)⟩
  case false.true =>
    have H := Lib.hid (show Pl.R.mk x y a b = Pl.bounds ⟨x, y, a, b⟩ ⟨x2, y2, a2, b2⟩ by simp [Pl.bounds, Pl.R.ok, hr, hr2, ea, eb])
    go_enter Try.func57, Try.ntmps57
    go_wp2_with (first | (go_at_call 68; ((with_reducible refine (specRectOkB _ _ _ _ _).mono ?_)); rintro e w' ⟨rfl, o, rfl⟩) | (go_at_call 69; ((with_reducible refine (specEmptyB _ _ _ _ _).mono ?_)); rintro e w' ⟨rfl, o, rfl⟩))
    go_returns
    exact ⟨ret_R H.out, by go_grown; all_goals (refine below_drewN ?_ _; go_grown)⟩
  have ⟨_, _, _, _, _, _, _, _⟩ := Pl.rectOk_t hr
  have ⟨_, _, _, _, _, _, _, _⟩ := Pl.rectOk_t hr2
  cases hm : Pl.rectOk (min x x2) (min y y2) (max (x + a) (x2 + a2) - min x x2) (max (y + b) (y2 + b2) - min y y2)
  case false =>
    have H := Lib.hid (show Pl.R.zero = Pl.bounds ⟨x, y, a, b⟩ ⟨x2, y2, a2, b2⟩ by simp [Pl.bounds, Pl.R.ok, hr, hr2, ea, eb, hm])
    go_enter Try.func57, Try.ntmps57
    go_wp2_with (first | (go_at_call 68; ((with_reducible refine (specRectOkB _ _ _ _ _).mono ?_)); rintro e w' ⟨rfl, o, rfl⟩) | (go_at_call 69; ((with_reducible refine (specEmptyB _ _ _ _ _).mono ?_)); rintro e w' ⟨rfl, o, rfl⟩))
    go_returns
    exact ⟨ret_R H.out, by go_grown; all_goals (refine below_drewN ?_ _; go_grown)⟩
  case true =>
    have H := Lib.hid (show Pl.R.mk (min x x2) (min y y2) (max (x + a) (x2 + a2) - min x x2) (max (y + b) (y2 + b2) - min y y2) = Pl.bounds ⟨x, y, a, b⟩ ⟨x2, y2, a2, b2⟩ by simp [Pl.bounds, Pl.R.ok, hr, hr2, ea, eb, hm])
    go_enter Try.func57, Try.ntmps57
    go_wp2_with (first | (go_at_call 68; ((with_reducible refine (specRectOkB _ _ _ _ _).mono ?_)); rintro e w' ⟨rfl, o, rfl⟩) | (go_at_call 69; ((with_reducible refine (specEmptyB _ _ _ _ _).mono ?_)); rintro e w' ⟨rfl, o, rfl⟩))
    go_returns
    exact ⟨ret_R H.out, by go_grown; all_goals (refine below_drewN ?_ _; go_grown)⟩
end Go.Proofs.Ytlnailpefdlnnaa
