/- Contracts: Part, channel, ChannelOf, MakePixel. -/
import Derived.Test.YtadghhajegpaiaaBase
namespace Go.Proofs.Ytadghhajegpaiaa
open Go.RowKit

theorem specPart (a b : Int) (w : World) : Calls Try.prog 52 #[.int .i64 a, .int .i64 b] w fun e w' => e = .returned (.int .i64 (Pl.part a b)) ∧ w = w' := by
  cases ha : Pl.inB a 0 255 <;> cases hb : Pl.inB b 0 255
  case true.true =>
    have ⟨_, _⟩ := Pl.inB_t ha; have ⟨_, _⟩ := Pl.inB_t hb
    have ⟨_, _⟩ := Pl.mul_bd (a := a) (b := b) (A := 255) (B := 255) (by omega) (by omega) (by omega) (by omega)
    go_enter Try.func52, Try.ntmps52
    go_wp2_with (go_at_call 51; ((with_reducible refine (l01In_any _ _ _ _).mono ?_)); rintro e w' ⟨rfl, rfl⟩)
    go_ret
    exact ⟨ret_int (by simp [Pl.part, ha, hb]), rfl⟩
  all_goals
    go_enter Try.func52, Try.ntmps52
    go_wp2_with (go_at_call 51; ((with_reducible refine (l01In_any _ _ _ _).mono ?_)); rintro e w' ⟨rfl, rfl⟩)
    go_ret
    exact ⟨ret_int (by simp [Pl.part, ha, hb]), rfl⟩
theorem channel_any (p k : Int) (w : World) (hp : Pl.isPix p = true) (hk : Pl.inB k 0 3 = true) : Calls Try.prog 57 #[.int .i64 p, .int .i64 k] w fun e w' => e = .returned (.int .i64 (Pl.chan p k)) ∧ w = w' := by
  have ⟨_, _⟩ := Pl.inB_t hp
  have ⟨_, _⟩ := Pl.inB_t hk
  clear hp hk
  obtain rfl | rfl | rfl | rfl : k = 0 ∨ k = 1 ∨ k = 2 ∨ k = 3 := by omega
  all_goals
    go_enter Try.func57, Try.ntmps57
    go_wp2
    go_ret
    exact ⟨ret_int (by rw [Pl.and255 _ (by omega) (by omega)]; simp [Pl.chan]), rfl⟩
theorem implChannelOf (p k : Int) (w : World) : Calls Try.prog 35 #[.int .i64 p, .int .i64 k] w fun e w' => e = .returned (.int .i64 (Pl.channelOf p k)) ∧ w = w' := by
  cases ha : Pl.isPix p <;> cases hb : Pl.inB k 0 3
  all_goals
    go_enter Try.func35, Try.ntmps35
    go_wp2_with (first | (go_at_call 54; ((with_reducible refine (isPixel_any _ _).mono ?_)); rintro e w' ⟨rfl, rfl⟩) | (go_at_call 55; ((with_reducible refine (within_any _ _ _ _).mono ?_)); rintro e w' ⟨rfl, rfl⟩) | (go_at_call 57; refine (channel_any _ _ _ ha hb).mono ?_; rintro e w' ⟨rfl, rfl⟩))
    go_ret
    exact ⟨ret_int (by simp [Pl.channelOf, ha, hb]), rfl⟩
theorem specChannelOf (p k : Int) (w : World) : Calls Try.prog 53 #[.int .i64 p, .int .i64 k] w fun e w' => e = .returned (.int .i64 (Pl.channelOf p k)) ∧ w = w' := by
  cases ha : Pl.isPix p <;> cases hb : Pl.inB k 0 3
  case true.true =>
    have ⟨_, _⟩ := Pl.inB_t ha
    have ⟨_, _⟩ := Pl.inB_t hb
    obtain rfl | rfl | rfl | rfl : k = 0 ∨ k = 1 ∨ k = 2 ∨ k = 3 := by omega
    all_goals
      go_enter Try.func53, Try.ntmps53
      go_wp2_with (first | (go_at_call 50; ((with_reducible refine (l04Pixel_any _ _).mono ?_)); rintro e w' ⟨rfl, rfl⟩) | (go_at_call 51; ((with_reducible refine (l01In_any _ _ _ _).mono ?_)); rintro e w' ⟨rfl, rfl⟩))
      go_ret
      exact ⟨ret_int (by rw [Pl.and255 _ (by omega) (by omega)]; simp [Pl.channelOf, Pl.chan, ha, hb]), rfl⟩
  all_goals
    go_enter Try.func53, Try.ntmps53
    go_wp2_with (first | (go_at_call 50; ((with_reducible refine (l04Pixel_any _ _).mono ?_)); rintro e w' ⟨rfl, rfl⟩) | (go_at_call 51; ((with_reducible refine (l01In_any _ _ _ _).mono ?_)); rintro e w' ⟨rfl, rfl⟩))
    go_ret
    exact ⟨ret_int (by simp [Pl.channelOf, ha, hb]), rfl⟩
theorem specMakePixel (a r g b : Int) (w : World) : Calls Try.prog 73 #[.int .i64 a, .int .i64 r, .int .i64 g, .int .i64 b] w fun e w' => e = .returned (.int .i64 (Pl.makePixel a r g b)) ∧ w = w' := by
  cases ha : Pl.inB a 0 255
  case false =>
    go_enter Try.func73, Try.ntmps73
    go_wp2_with (go_at_call 51; ((with_reducible refine (l01In_any _ _ _ _).mono ?_)); rintro e w' ⟨rfl, rfl⟩)
    go_ret
    exact ⟨ret_int (by simp [Pl.makePixel, ha]), rfl⟩
  cases hr : Pl.inB r 0 255
  case false =>
    go_enter Try.func73, Try.ntmps73
    go_wp2_with (go_at_call 51; ((with_reducible refine (l01In_any _ _ _ _).mono ?_)); rintro e w' ⟨rfl, rfl⟩)
    go_ret
    exact ⟨ret_int (by simp [Pl.makePixel, hr]), rfl⟩
  cases hg : Pl.inB g 0 255
  case false =>
    go_enter Try.func73, Try.ntmps73
    go_wp2_with (go_at_call 51; ((with_reducible refine (l01In_any _ _ _ _).mono ?_)); rintro e w' ⟨rfl, rfl⟩)
    go_ret
    exact ⟨ret_int (by simp [Pl.makePixel, hg]), rfl⟩
  cases hb : Pl.inB b 0 255
  case false =>
    go_enter Try.func73, Try.ntmps73
    go_wp2_with (go_at_call 51; ((with_reducible refine (l01In_any _ _ _ _).mono ?_)); rintro e w' ⟨rfl, rfl⟩)
    go_ret
    exact ⟨ret_int (by simp [Pl.makePixel, hb]), rfl⟩
  have ⟨_, _⟩ := Pl.inB_t ha
  have ⟨_, _⟩ := Pl.inB_t hr
  have ⟨_, _⟩ := Pl.inB_t hg
  have ⟨_, _⟩ := Pl.inB_t hb
  go_enter Try.func73, Try.ntmps73
  go_wp2_with (go_at_call 51; ((with_reducible refine (l01In_any _ _ _ _).mono ?_)); rintro e w' ⟨rfl, rfl⟩)
  go_ret
  exact ⟨ret_int (by simp [Pl.makePixel, ha, hr, hg, hb]), rfl⟩
theorem implMakePixel (a r g b : Int) (w : World) : Calls Try.prog 36 #[.int .i64 a, .int .i64 r, .int .i64 g, .int .i64 b] w fun e w' => e = .returned (.int .i64 (Pl.makePixel a r g b)) ∧ Below w.heap.size w w' := by
  cases ha : Pl.inB a 0 255
  case false =>
    go_enter Try.func36, Try.ntmps36
    go_wp2_with (go_at_call 55; ((with_reducible refine (within_any _ _ _ _).mono ?_)); rintro e w' ⟨rfl, rfl⟩)
    refine wp_loop_rounds 1 ?_
    rw [rounds_succ]; go_wp2_with (go_at_call 55; ((with_reducible refine (within_any _ _ _ _).mono ?_)); rintro e w' ⟨rfl, rfl⟩)
    go_ret
    exact ⟨ret_int (by simp [Pl.makePixel, ha]), by go_grown⟩
  cases hr : Pl.inB r 0 255
  case false =>
    go_enter Try.func36, Try.ntmps36
    go_wp2_with (go_at_call 55; ((with_reducible refine (within_any _ _ _ _).mono ?_)); rintro e w' ⟨rfl, rfl⟩)
    refine wp_loop_rounds 2 ?_
    rw [rounds_succ]; go_wp2_with (go_at_call 55; ((with_reducible refine (within_any _ _ _ _).mono ?_)); rintro e w' ⟨rfl, rfl⟩)
    rw [rounds_succ]; go_wp2_with (go_at_call 55; ((with_reducible refine (within_any _ _ _ _).mono ?_)); rintro e w' ⟨rfl, rfl⟩)
    go_ret
    exact ⟨ret_int (by simp [Pl.makePixel, hr]), by go_grown⟩
  cases hg : Pl.inB g 0 255
  case false =>
    go_enter Try.func36, Try.ntmps36
    go_wp2_with (go_at_call 55; ((with_reducible refine (within_any _ _ _ _).mono ?_)); rintro e w' ⟨rfl, rfl⟩)
    refine wp_loop_rounds 3 ?_
    rw [rounds_succ]; go_wp2_with (go_at_call 55; ((with_reducible refine (within_any _ _ _ _).mono ?_)); rintro e w' ⟨rfl, rfl⟩)
    rw [rounds_succ]; go_wp2_with (go_at_call 55; ((with_reducible refine (within_any _ _ _ _).mono ?_)); rintro e w' ⟨rfl, rfl⟩)
    rw [rounds_succ]; go_wp2_with (go_at_call 55; ((with_reducible refine (within_any _ _ _ _).mono ?_)); rintro e w' ⟨rfl, rfl⟩)
    go_ret
    exact ⟨ret_int (by simp [Pl.makePixel, hg]), by go_grown⟩
  cases hb : Pl.inB b 0 255
  case false =>
    go_enter Try.func36, Try.ntmps36
    go_wp2_with (go_at_call 55; ((with_reducible refine (within_any _ _ _ _).mono ?_)); rintro e w' ⟨rfl, rfl⟩)
    refine wp_loop_rounds 4 ?_
    rw [rounds_succ]; go_wp2_with (go_at_call 55; ((with_reducible refine (within_any _ _ _ _).mono ?_)); rintro e w' ⟨rfl, rfl⟩)
    rw [rounds_succ]; go_wp2_with (go_at_call 55; ((with_reducible refine (within_any _ _ _ _).mono ?_)); rintro e w' ⟨rfl, rfl⟩)
    rw [rounds_succ]; go_wp2_with (go_at_call 55; ((with_reducible refine (within_any _ _ _ _).mono ?_)); rintro e w' ⟨rfl, rfl⟩)
    rw [rounds_succ]; go_wp2_with (go_at_call 55; ((with_reducible refine (within_any _ _ _ _).mono ?_)); rintro e w' ⟨rfl, rfl⟩)
    go_ret
    exact ⟨ret_int (by simp [Pl.makePixel, hb]), by go_grown⟩
  have ⟨_, _⟩ := Pl.inB_t ha
  have ⟨_, _⟩ := Pl.inB_t hr
  have ⟨_, _⟩ := Pl.inB_t hg
  have ⟨_, _⟩ := Pl.inB_t hb
  go_enter Try.func36, Try.ntmps36
  go_wp2_with (go_at_call 55; ((with_reducible refine (within_any _ _ _ _).mono ?_)); rintro e w' ⟨rfl, rfl⟩)
  refine wp_loop_rounds 5 ?_
  rw [rounds_succ]; go_wp2_with (go_at_call 55; ((with_reducible refine (within_any _ _ _ _).mono ?_)); rintro e w' ⟨rfl, rfl⟩)
  rw [rounds_succ]; go_wp2_with (go_at_call 55; ((with_reducible refine (within_any _ _ _ _).mono ?_)); rintro e w' ⟨rfl, rfl⟩)
  rw [rounds_succ]; go_wp2_with (go_at_call 55; ((with_reducible refine (within_any _ _ _ _).mono ?_)); rintro e w' ⟨rfl, rfl⟩)
  rw [rounds_succ]; go_wp2_with (go_at_call 55; ((with_reducible refine (within_any _ _ _ _).mono ?_)); rintro e w' ⟨rfl, rfl⟩)
  rw [rounds_succ]; go_wp2_with (go_at_call 55; ((with_reducible refine (within_any _ _ _ _).mono ?_)); rintro e w' ⟨rfl, rfl⟩)
  go_ret
  exact ⟨ret_int (by rw [Pl.or_pixel _ _ _ _ (by omega) (by omega) (by omega) (by omega) (by omega) (by omega) (by omega) (by omega)]; simp [Pl.makePixel, ha, hr, hg, hb]), by go_grown⟩
end Go.Proofs.Ytadghhajegpaiaa
