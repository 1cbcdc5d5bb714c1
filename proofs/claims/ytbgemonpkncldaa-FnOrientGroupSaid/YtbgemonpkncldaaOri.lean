/- Contracts: Clamp, ScalePoint, UndoOrient, OrientSize, ThenOrient. -/
import Derived.Test.YtbgemonpkncldaaBase
namespace Go.Proofs.Ytbgemonpkncldaa
open Go.RowKit

theorem specScalePoint (f t k : Int) (w : World) : Calls Try.prog 63 #[.int .i64 f, .int .i64 t, .int .i64 k] w fun e w' => e = .returned (.int .i64 (Pl.scalePoint f t k)) ∧ w = w' := by
  cases ha : Pl.inB f 1 16 <;> cases hb : Pl.inB t 1 16
  case true.true =>
    have ⟨_, _⟩ := Pl.inB_t ha; have ⟨_, _⟩ := Pl.inB_t hb
    cases hc : Pl.inB k 0 (t - 1)
    · go_enter Try.func63, Try.ntmps63
      go_wp2_with (go_at_call 48; ((with_reducible refine (l01In_any _ _ _ _).mono ?_)); rintro e w' ⟨rfl, rfl⟩)
      go_ret
      exact ⟨ret_int (by simp [Pl.scalePoint, hc]), rfl⟩
    · have ⟨_, _⟩ := Pl.inB_t hc
      have ⟨_, _⟩ := Pl.mul_bd (a := k) (b := f) (A := 16) (B := 16) (by omega) (by omega) (by omega) (by omega)
      go_enter Try.func63, Try.ntmps63
      go_wp2_with (go_at_call 48; ((with_reducible refine (l01In_any _ _ _ _).mono ?_)); rintro e w' ⟨rfl, rfl⟩)
      go_ret
      exact ⟨ret_int (by simp [Pl.scalePoint, ha, hb, hc]), rfl⟩
  all_goals
    go_enter Try.func63, Try.ntmps63
    go_wp2_with (go_at_call 48; ((with_reducible refine (l01In_any _ _ _ _).mono ?_)); rintro e w' ⟨rfl, rfl⟩)
    all_goals
      go_ret
      exact ⟨ret_int (by simp [Pl.scalePoint, ha, hb]), rfl⟩
theorem implScalePoint (f t k : Int) (w : World) : Calls Try.prog 37 #[.int .i64 f, .int .i64 t, .int .i64 k] w fun e w' => e = .returned (.int .i64 (Pl.scalePoint f t k)) ∧ w = w' := by
  cases ha : Pl.inB f 1 16 <;> cases hb : Pl.inB t 1 16
  case true.true =>
    have ⟨_, _⟩ := Pl.inB_t ha; have ⟨_, _⟩ := Pl.inB_t hb
    cases hc : Pl.inB k 0 (t - 1)
    · go_enter Try.func37, Try.ntmps37
      go_wp2_with (first | (go_at_call 57; ((with_reducible refine (within_any _ _ _ _).mono ?_)); rintro e w' ⟨rfl, rfl⟩) | (go_at_call 51; ((with_reducible refine (isSide_any _ _).mono ?_)); rintro e w' ⟨rfl, rfl⟩))
      go_ret
      exact ⟨ret_int (by simp [Pl.scalePoint, hc]), rfl⟩
    · have ⟨_, _⟩ := Pl.inB_t hc
      have ⟨_, _⟩ := Pl.mul_bd (a := k) (b := f) (A := 16) (B := 16) (by omega) (by omega) (by omega) (by omega)
      go_enter Try.func37, Try.ntmps37
      go_wp2_with (first | (go_at_call 57; ((with_reducible refine (within_any _ _ _ _).mono ?_)); rintro e w' ⟨rfl, rfl⟩) | (go_at_call 51; ((with_reducible refine (isSide_any _ _).mono ?_)); rintro e w' ⟨rfl, rfl⟩))
      go_ret
      exact ⟨ret_int (by simp [Pl.scalePoint, ha, hb, hc]), rfl⟩
  all_goals
    go_enter Try.func37, Try.ntmps37
    go_wp2_with (first | (go_at_call 57; ((with_reducible refine (within_any _ _ _ _).mono ?_)); rintro e w' ⟨rfl, rfl⟩) | (go_at_call 51; ((with_reducible refine (isSide_any _ _).mono ?_)); rintro e w' ⟨rfl, rfl⟩))
    all_goals
      go_ret
      exact ⟨ret_int (by simp [Pl.scalePoint, ha, hb]), rfl⟩
theorem implUndo (o : Int) (w : World) : Calls Try.prog 44 #[.int .i64 o] w fun e w' => e = .returned (.int .i64 (Pl.undoOrient o)) ∧ w = w' := by
  cases ha : Pl.inB o 0 7
  · go_enter Try.func44, Try.ntmps44
    go_wp2_with (go_at_call 77; ((with_reducible refine (isOrient_any _ _).mono ?_)); rintro e w' ⟨rfl, rfl⟩)
    go_ret
    exact ⟨ret_int (by simp [Pl.undoOrient, ha]), rfl⟩
  · have ⟨_, _⟩ := Pl.inB_t ha
    by_cases h4 : 4 ≤ o
    all_goals
      go_enter Try.func44, Try.ntmps44
      go_wp2_with (go_at_call 77; ((with_reducible refine (isOrient_any _ _).mono ?_)); rintro e w' ⟨rfl, rfl⟩)
      go_ret
      exact ⟨ret_int (by simp [Pl.undoOrient, ha]; omega), rfl⟩
theorem implOrientSize (a b o : Int) (w : World) : Calls Try.prog 45 #[.int .i64 a, .int .i64 b, .int .i64 o] w fun e w' => e = .returned (.tuple #[.int .i64 (Pl.orientW a b o), .int .i64 (Pl.orientH a b o)]) ∧ w = w' := by
  cases ha : Pl.inB a 1 16 <;> cases hb : Pl.inB b 1 16 <;> cases hc : Pl.inB o 0 7
  case true.true.true =>
    have ⟨_, _⟩ := Pl.inB_t hc
    by_cases h4 : o % 2 = 1
    all_goals
      go_enter Try.func45, Try.ntmps45
      go_wp2_with (first | (go_at_call 77; ((with_reducible refine (isOrient_any _ _).mono ?_)); rintro e w' ⟨rfl, rfl⟩) | (go_at_call 51; ((with_reducible refine (isSide_any _ _).mono ?_)); rintro e w' ⟨rfl, rfl⟩))
      go_ret2
      exact ⟨ret_ii (by simp [Pl.orientW, ha, hb, hc, h4]) (by simp [Pl.orientH, ha, hb, hc, h4]), rfl⟩
  all_goals
    go_enter Try.func45, Try.ntmps45
    go_wp2_with (first | (go_at_call 77; ((with_reducible refine (isOrient_any _ _).mono ?_)); rintro e w' ⟨rfl, rfl⟩) | (go_at_call 51; ((with_reducible refine (isSide_any _ _).mono ?_)); rintro e w' ⟨rfl, rfl⟩))
    go_ret2
    exact ⟨ret_ii (by simp [Pl.orientW, ha, hb, hc]) (by simp [Pl.orientH, ha, hb, hc]), rfl⟩
theorem specOrientSize (a b o : Int) (w : World) : Calls Try.prog 75 #[.int .i64 a, .int .i64 b, .int .i64 o] w fun e w' => e = .returned (.tuple #[.int .i64 (Pl.orientW a b o), .int .i64 (Pl.orientH a b o)]) ∧ w = w' := by
  cases ha : Pl.inB a 1 16 <;> cases hb : Pl.inB b 1 16 <;> cases hc : Pl.inB o 0 7
  case true.true.true =>
    have ⟨_, _⟩ := Pl.inB_t hc
    by_cases h4 : o % 2 = 1
    all_goals
      go_enter Try.func75, Try.ntmps75
      go_wp2_with (go_at_call 48; ((with_reducible refine (l01In_any _ _ _ _).mono ?_)); rintro e w' ⟨rfl, rfl⟩)
      go_ret2
      exact ⟨ret_ii (by simp [Pl.orientW, ha, hb, hc, h4]) (by simp [Pl.orientH, ha, hb, hc, h4]), rfl⟩
  all_goals
    go_enter Try.func75, Try.ntmps75
    go_wp2_with (go_at_call 48; ((with_reducible refine (l01In_any _ _ _ _).mono ?_)); rintro e w' ⟨rfl, rfl⟩)
    go_ret2
    exact ⟨ret_ii (by simp [Pl.orientW, ha, hb, hc]) (by simp [Pl.orientH, ha, hb, hc]), rfl⟩
theorem implThen (a b : Int) (w : World) : Calls Try.prog 43 #[.int .i64 a, .int .i64 b] w fun e w' => e = .returned (.int .i64 (Pl.thenOrient a b)) ∧ w = w' := by
  cases ha : Pl.inB a 0 7 <;> cases hb : Pl.inB b 0 7
  case true.true =>
    have ⟨_, _⟩ := Pl.inB_t ha
    have ⟨_, _⟩ := Pl.inB_t hb
    by_cases h4 : 4 ≤ b
    · by_cases h5 : a ≤ b
      · go_enter Try.func43, Try.ntmps43
        go_wp2_with (go_at_call 77; ((with_reducible refine (isOrient_any _ _).mono ?_)); rintro e w' ⟨rfl, rfl⟩)
        go_ret
        exact ⟨ret_int (by simp only [Pl.thenOrient, ha, hb, Bool.and_self, if_true]; split <;> omega), rfl⟩
      · have e : (b - a).tmod 4 = - ((a - b) % 4) := by
          rw [show b - a = - (a - b) from by omega, Int.neg_tmod, Int.tmod_eq_emod_of_nonneg (by omega)]
        have ⟨_, _⟩ : -3 ≤ (b - a).tmod 4 ∧ (b - a).tmod 4 ≤ 0 := by omega
        have E := Lib.hid e
        clear e
        go_enter Try.func43, Try.ntmps43
        go_wp2_with (go_at_call 77; ((with_reducible refine (isOrient_any _ _).mono ?_)); rintro e w' ⟨rfl, rfl⟩)
        go_ret
        exact ⟨ret_int (by rw [E.out]; simp only [Pl.thenOrient, ha, hb, Bool.and_self, if_true]; split <;> omega), rfl⟩
    · go_enter Try.func43, Try.ntmps43
      go_wp2_with (go_at_call 77; ((with_reducible refine (isOrient_any _ _).mono ?_)); rintro e w' ⟨rfl, rfl⟩)
      go_ret
      exact ⟨ret_int (by simp only [Pl.thenOrient, ha, hb, Bool.and_self, if_true]; split <;> omega), rfl⟩
  all_goals
    go_enter Try.func43, Try.ntmps43
    go_wp2_with (go_at_call 77; ((with_reducible refine (isOrient_any _ _).mono ?_)); rintro e w' ⟨rfl, rfl⟩)
    go_ret
    exact ⟨ret_int (by simp [Pl.thenOrient, ha, hb]), rfl⟩
end Go.Proofs.Ytbgemonpkncldaa
