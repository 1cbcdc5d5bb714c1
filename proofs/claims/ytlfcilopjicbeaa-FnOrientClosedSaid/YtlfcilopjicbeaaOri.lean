/- Contracts: Clamp, ScalePoint, UndoOrient, OrientSize, ThenOrient. -/
import Derived.Test.YtlfcilopjicbeaaBase
namespace Go.Proofs.Ytlfcilopjicbeaa
open Go.RowKit

theorem implClamp (n lo hi : Int) (w : World) : Calls Try.prog 18 #[.int .i64 n, .int .i64 lo, .int .i64 hi] w fun e w' => e = .returned (.int .i64 (Pl.clamp n lo hi)) ∧ w = w' := by
  go_enter Try.func18, Try.ntmps18
  go_wp2
  all_goals
    go_ret
    exact ⟨ret_int (by unfold Pl.clamp; repeat' split <;> omega), rfl⟩
theorem specClamp (n lo hi : Int) (w : World) : Calls Try.prog 17 #[.int .i64 n, .int .i64 lo, .int .i64 hi] w fun e w' => e = .returned (.int .i64 (Pl.clamp n lo hi)) ∧ w = w' := by
  go_enter Try.func17, Try.ntmps17
  go_wp2
  all_goals
    go_ret
    exact ⟨ret_int (by unfold Pl.clamp; repeat' split <;> omega), rfl⟩
theorem specScalePoint (f t k : Int) (w : World) : Calls Try.prog 19 #[.int .i64 f, .int .i64 t, .int .i64 k] w fun e w' => e = .returned (.int .i64 (Pl.scalePoint f t k)) ∧ w = w' := by
  cases ha : Pl.inB f 1 16 <;> cases hb : Pl.inB t 1 16
  case true.true =>
    have ⟨_, _⟩ := Pl.inB_t ha; have ⟨_, _⟩ := Pl.inB_t hb
    cases hc : Pl.inB k 0 (t - 1)
    · go_enter Try.func19, Try.ntmps19
      go_wp2_with (go_at_call 38; ((with_reducible refine (l01In_any _ _ _ _).mono ?_)); rintro e w' ⟨rfl, rfl⟩)
      go_ret
      exact ⟨ret_int (by simp [Pl.scalePoint, hc]), rfl⟩
    · have ⟨_, _⟩ := Pl.inB_t hc
      have ⟨_, _⟩ := Pl.mul_bd (a := k) (b := f) (A := 16) (B := 16) (by omega) (by omega) (by omega) (by omega)
      go_enter Try.func19, Try.ntmps19
      go_wp2_with (go_at_call 38; ((with_reducible refine (l01In_any _ _ _ _).mono ?_)); rintro e w' ⟨rfl, rfl⟩)
      go_ret
      exact ⟨ret_int (by simp [Pl.scalePoint, ha, hb, hc]), rfl⟩
  all_goals
    go_enter Try.func19, Try.ntmps19
    go_wp2_with (go_at_call 38; ((with_reducible refine (l01In_any _ _ _ _).mono ?_)); rintro e w' ⟨rfl, rfl⟩)
    all_goals
      go_ret
      exact ⟨ret_int (by simp [Pl.scalePoint, ha, hb]), rfl⟩
theorem implScalePoint (f t k : Int) (w : World) : Calls Try.prog 20 #[.int .i64 f, .int .i64 t, .int .i64 k] w fun e w' => e = .returned (.int .i64 (Pl.scalePoint f t k)) ∧ w = w' := by
  cases ha : Pl.inB f 1 16 <;> cases hb : Pl.inB t 1 16
  case true.true =>
    have ⟨_, _⟩ := Pl.inB_t ha; have ⟨_, _⟩ := Pl.inB_t hb
    cases hc : Pl.inB k 0 (t - 1)
    · go_enter Try.func20, Try.ntmps20
      go_wp2_with (first | (go_at_call 39; ((with_reducible refine (within_any _ _ _ _).mono ?_)); rintro e w' ⟨rfl, rfl⟩) | (go_at_call 40; ((with_reducible refine (isSide_any _ _).mono ?_)); rintro e w' ⟨rfl, rfl⟩))
      go_ret
      exact ⟨ret_int (by simp [Pl.scalePoint, hc]), rfl⟩
    · have ⟨_, _⟩ := Pl.inB_t hc
      have ⟨_, _⟩ := Pl.mul_bd (a := k) (b := f) (A := 16) (B := 16) (by omega) (by omega) (by omega) (by omega)
      go_enter Try.func20, Try.ntmps20
      go_wp2_with (first | (go_at_call 39; ((with_reducible refine (within_any _ _ _ _).mono ?_)); rintro e w' ⟨rfl, rfl⟩) | (go_at_call 40; ((with_reducible refine (isSide_any _ _).mono ?_)); rintro e w' ⟨rfl, rfl⟩))
      go_ret
      exact ⟨ret_int (by simp [Pl.scalePoint, ha, hb, hc]), rfl⟩
  all_goals
    go_enter Try.func20, Try.ntmps20
    go_wp2_with (first | (go_at_call 39; ((with_reducible refine (within_any _ _ _ _).mono ?_)); rintro e w' ⟨rfl, rfl⟩) | (go_at_call 40; ((with_reducible refine (isSide_any _ _).mono ?_)); rintro e w' ⟨rfl, rfl⟩))
    all_goals
      go_ret
      exact ⟨ret_int (by simp [Pl.scalePoint, ha, hb]), rfl⟩
theorem implUndo (o : Int) (w : World) : Calls Try.prog 29 #[.int .i64 o] w fun e w' => e = .returned (.int .i64 (Pl.undoOrient o)) ∧ w = w' := by
  cases ha : Pl.inB o 0 7
  · go_enter Try.func29, Try.ntmps29
    go_wp2_with (go_at_call 44; ((with_reducible refine (isOrient_any _ _).mono ?_)); rintro e w' ⟨rfl, rfl⟩)
    go_ret
    exact ⟨ret_int (by simp [Pl.undoOrient, ha]), rfl⟩
  · have ⟨_, _⟩ := Pl.inB_t ha
    by_cases h4 : 4 ≤ o
    all_goals
      go_enter Try.func29, Try.ntmps29
      go_wp2_with (go_at_call 44; ((with_reducible refine (isOrient_any _ _).mono ?_)); rintro e w' ⟨rfl, rfl⟩)
      go_ret
      exact ⟨ret_int (by simp [Pl.undoOrient, ha]; omega), rfl⟩
theorem specUndo (o : Int) (w : World) : Calls Try.prog 28 #[.int .i64 o] w fun e w' => e = .returned (.int .i64 (Pl.undoOrient o)) ∧ w = w' := by
  cases ha : Pl.inB o 0 7
  · go_enter Try.func28, Try.ntmps28
    go_wp2_with (go_at_call 38; ((with_reducible refine (l01In_any _ _ _ _).mono ?_)); rintro e w' ⟨rfl, rfl⟩)
    go_ret
    exact ⟨ret_int (by simp [Pl.undoOrient, ha]), rfl⟩
  · have ⟨_, _⟩ := Pl.inB_t ha
    by_cases h4 : 4 ≤ o
    all_goals
      go_enter Try.func28, Try.ntmps28
      go_wp2_with (go_at_call 38; ((with_reducible refine (l01In_any _ _ _ _).mono ?_)); rintro e w' ⟨rfl, rfl⟩)
      go_ret
      exact ⟨ret_int (by simp [Pl.undoOrient, ha]; omega), rfl⟩
theorem implOrientSize (a b o : Int) (w : World) : Calls Try.prog 31 #[.int .i64 a, .int .i64 b, .int .i64 o] w fun e w' => e = .returned (.tuple #[.int .i64 (Pl.orientW a b o), .int .i64 (Pl.orientH a b o)]) ∧ w = w' := by
  cases ha : Pl.inB a 1 16 <;> cases hb : Pl.inB b 1 16 <;> cases hc : Pl.inB o 0 7
  case true.true.true =>
    have ⟨_, _⟩ := Pl.inB_t hc
    by_cases h4 : o % 2 = 1
    all_goals
      go_enter Try.func31, Try.ntmps31
      go_wp2_with (first | (go_at_call 44; ((with_reducible refine (isOrient_any _ _).mono ?_)); rintro e w' ⟨rfl, rfl⟩) | (go_at_call 40; ((with_reducible refine (isSide_any _ _).mono ?_)); rintro e w' ⟨rfl, rfl⟩))
      go_ret2
      exact ⟨ret_ii (by simp [Pl.orientW, ha, hb, hc, h4]) (by simp [Pl.orientH, ha, hb, hc, h4]), rfl⟩
  all_goals
    go_enter Try.func31, Try.ntmps31
    go_wp2_with (first | (go_at_call 44; ((with_reducible refine (isOrient_any _ _).mono ?_)); rintro e w' ⟨rfl, rfl⟩) | (go_at_call 40; ((with_reducible refine (isSide_any _ _).mono ?_)); rintro e w' ⟨rfl, rfl⟩))
    go_ret2
    exact ⟨ret_ii (by simp [Pl.orientW, ha, hb, hc]) (by simp [Pl.orientH, ha, hb, hc]), rfl⟩
theorem specOrientSize (a b o : Int) (w : World) : Calls Try.prog 30 #[.int .i64 a, .int .i64 b, .int .i64 o] w fun e w' => e = .returned (.tuple #[.int .i64 (Pl.orientW a b o), .int .i64 (Pl.orientH a b o)]) ∧ w = w' := by
  cases ha : Pl.inB a 1 16 <;> cases hb : Pl.inB b 1 16 <;> cases hc : Pl.inB o 0 7
  case true.true.true =>
    have ⟨_, _⟩ := Pl.inB_t hc
    by_cases h4 : o % 2 = 1
    all_goals
      go_enter Try.func30, Try.ntmps30
      go_wp2_with (go_at_call 38; ((with_reducible refine (l01In_any _ _ _ _).mono ?_)); rintro e w' ⟨rfl, rfl⟩)
      go_ret2
      exact ⟨ret_ii (by simp [Pl.orientW, ha, hb, hc, h4]) (by simp [Pl.orientH, ha, hb, hc, h4]), rfl⟩
  all_goals
    go_enter Try.func30, Try.ntmps30
    go_wp2_with (go_at_call 38; ((with_reducible refine (l01In_any _ _ _ _).mono ?_)); rintro e w' ⟨rfl, rfl⟩)
    go_ret2
    exact ⟨ret_ii (by simp [Pl.orientW, ha, hb, hc]) (by simp [Pl.orientH, ha, hb, hc]), rfl⟩
theorem implThen (a b : Int) (w : World) : Calls Try.prog 35 #[.int .i64 a, .int .i64 b] w fun e w' => e = .returned (.int .i64 (Pl.thenOrient a b)) ∧ w = w' := by
  cases ha : Pl.inB a 0 7 <;> cases hb : Pl.inB b 0 7
  case true.true =>
    have ⟨_, _⟩ := Pl.inB_t ha
    have ⟨_, _⟩ := Pl.inB_t hb
    by_cases h4 : 4 ≤ b
    · by_cases h5 : a ≤ b
      · go_enter Try.func35, Try.ntmps35
        go_wp2_with (go_at_call 44; ((with_reducible refine (isOrient_any _ _).mono ?_)); rintro e w' ⟨rfl, rfl⟩)
        go_ret
        exact ⟨ret_int (by simp only [Pl.thenOrient, ha, hb, Bool.and_self, if_true]; split <;> omega), rfl⟩
      · have e : (b - a).tmod 4 = - ((a - b) % 4) := by
          rw [show b - a = - (a - b) from by omega, Int.neg_tmod, Int.tmod_eq_emod_of_nonneg (by omega)]
        have ⟨_, _⟩ : -3 ≤ (b - a).tmod 4 ∧ (b - a).tmod 4 ≤ 0 := by omega
        have E := Lib.hid e
        clear e
        go_enter Try.func35, Try.ntmps35
        go_wp2_with (go_at_call 44; ((with_reducible refine (isOrient_any _ _).mono ?_)); rintro e w' ⟨rfl, rfl⟩)
        go_ret
        exact ⟨ret_int (by rw [E.out]; simp only [Pl.thenOrient, ha, hb, Bool.and_self, if_true]; split <;> omega), rfl⟩
    · go_enter Try.func35, Try.ntmps35
      go_wp2_with (go_at_call 44; ((with_reducible refine (isOrient_any _ _).mono ?_)); rintro e w' ⟨rfl, rfl⟩)
      go_ret
      exact ⟨ret_int (by simp only [Pl.thenOrient, ha, hb, Bool.and_self, if_true]; split <;> omega), rfl⟩
  all_goals
    go_enter Try.func35, Try.ntmps35
    go_wp2_with (go_at_call 44; ((with_reducible refine (isOrient_any _ _).mono ?_)); rintro e w' ⟨rfl, rfl⟩)
    go_ret
    exact ⟨ret_int (by simp [Pl.thenOrient, ha, hb]), rfl⟩
theorem specThen (a b : Int) (w : World) : Calls Try.prog 34 #[.int .i64 a, .int .i64 b] w fun e w' => e = .returned (.int .i64 (Pl.thenOrient a b)) ∧ w = w' := by
  cases ha : Pl.inB a 0 7 <;> cases hb : Pl.inB b 0 7
  case true.true =>
    have ⟨_, _⟩ := Pl.inB_t ha
    have ⟨_, _⟩ := Pl.inB_t hb
    by_cases h4 : 4 ≤ b
    · go_enter Try.func34, Try.ntmps34
      go_wp2_with (go_at_call 38; ((with_reducible refine (l01In_any _ _ _ _).mono ?_)); rintro e w' ⟨rfl, rfl⟩)
      go_ret
      exact ⟨ret_int (by simp only [Pl.thenOrient, ha, hb, Bool.and_self, if_true]; split <;> omega), rfl⟩
    · go_enter Try.func34, Try.ntmps34
      go_wp2_with (go_at_call 38; ((with_reducible refine (l01In_any _ _ _ _).mono ?_)); rintro e w' ⟨rfl, rfl⟩)
      go_ret
      exact ⟨ret_int (by simp only [Pl.thenOrient, ha, hb, Bool.and_self, if_true]; split <;> omega), rfl⟩
  all_goals
    go_enter Try.func34, Try.ntmps34
    go_wp2_with (go_at_call 38; ((with_reducible refine (l01In_any _ _ _ _).mono ?_)); rintro e w' ⟨rfl, rfl⟩)
    go_ret
    exact ⟨ret_int (by simp [Pl.thenOrient, ha, hb]), rfl⟩
end Go.Proofs.Ytlfcilopjicbeaa
