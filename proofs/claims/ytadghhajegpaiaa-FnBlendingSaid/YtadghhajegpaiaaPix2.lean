/- Contracts: Over, Fade. -/
import Derived.Test.YtadghhajegpaiaaPix
import Derived.Test.YtadghhajegpaiaaPlain3
namespace Go.Proofs.Ytadghhajegpaiaa
open Go.RowKit

theorem specChannelOf_ok (p k : Int) (w : World) (hp : Pl.isPix p = true) (hk : Pl.inB k 0 3 = true) : Calls Try.prog 53 #[.int .i64 p, .int .i64 k] w fun e w' => e = .returned (.int .i64 (Pl.chan p k)) ∧ w = w' := by
  have h := specChannelOf p k w
  rwa [show Pl.channelOf p k = Pl.chan p k by simp [Pl.channelOf, hp, hk]] at h
theorem implOver (t b : Int) (w : World) : Calls Try.prog 21 #[.int .i64 t, .int .i64 b] w fun e w' => e = .returned (.int .i64 (Pl.over t b)) ∧ w = w' := by
  cases ha : Pl.isPix t <;> cases hb : Pl.isPix b
  case true.true =>
    have ⟨_, _⟩ := Pl.chan_bd t 0
    have ⟨p1, q1, s1⟩ := Pl.mix_bd t b 1
    have ⟨p2, q2, s2⟩ := Pl.mix_bd t b 2
    have ⟨p3, q3, s3⟩ := Pl.mix_bd t b 3
    have e1 := Pl.or8_255 (Pl.part (Pl.chan t 1) (Pl.chan t 0)) (by omega) (by omega)
    have e2 := Pl.i64_or8 (65280 + Pl.part (Pl.chan t 1) (Pl.chan t 0) + Pl.part (Pl.chan b 1) (255 - Pl.chan t 0)) (Pl.part (Pl.chan t 2) (Pl.chan t 0)) (by omega) (by omega) (by omega) (by omega)
    have e3 := Pl.i64_or8 ((65280 + Pl.part (Pl.chan t 1) (Pl.chan t 0) + Pl.part (Pl.chan b 1) (255 - Pl.chan t 0)) * 256 + Pl.part (Pl.chan t 2) (Pl.chan t 0) + Pl.part (Pl.chan b 2) (255 - Pl.chan t 0)) (Pl.part (Pl.chan t 3) (Pl.chan t 0)) (by omega) (by omega) (by omega) (by omega)
    go_enter Try.func21, Try.ntmps21
    go_wp2_with (first | (first | (go_at_call 54; ((with_reducible refine (isPixel_any _ _).mono ?_)); rintro e w' ⟨rfl, rfl⟩) | (go_at_call 56; ((with_reducible refine (implPart _ _ _).mono ?_)); rintro e w' ⟨rfl, rfl⟩)) | (go_at_call 57; refine (channel_any _ _ _ (by assumption) (by decide)).mono ?_; rintro e w' ⟨rfl, rfl⟩))
    refine wp_loop_rounds 4 ?_
    rw [rounds_succ]; go_wp2_with (first | (first | (go_at_call 54; ((with_reducible refine (isPixel_any _ _).mono ?_)); rintro e w' ⟨rfl, rfl⟩) | (go_at_call 56; ((with_reducible refine (implPart _ _ _).mono ?_)); rintro e w' ⟨rfl, rfl⟩)) | (go_at_call 57; refine (channel_any _ _ _ (by assumption) (by decide)).mono ?_; rintro e w' ⟨rfl, rfl⟩))
    rw [rounds_succ]; go_wp2_with (first | (first | (go_at_call 54; ((with_reducible refine (isPixel_any _ _).mono ?_)); rintro e w' ⟨rfl, rfl⟩) | (go_at_call 56; ((with_reducible refine (implPart _ _ _).mono ?_)); rintro e w' ⟨rfl, rfl⟩)) | (go_at_call 57; refine (channel_any _ _ _ (by assumption) (by decide)).mono ?_; rintro e w' ⟨rfl, rfl⟩))
    rw [rounds_succ]; go_wp2_with (first | (first | (go_at_call 54; ((with_reducible refine (isPixel_any _ _).mono ?_)); rintro e w' ⟨rfl, rfl⟩) | (go_at_call 56; ((with_reducible refine (implPart _ _ _).mono ?_)); rintro e w' ⟨rfl, rfl⟩)) | (go_at_call 57; refine (channel_any _ _ _ (by assumption) (by decide)).mono ?_; rintro e w' ⟨rfl, rfl⟩))
    rw [rounds_succ]; go_wp2
    go_ret
    exact ⟨ret_int (by simp only [Pl.over, Pl.mix, ha, hb, Bool.and_self, if_true]; omega), rfl⟩
  all_goals
    go_enter Try.func21, Try.ntmps21
    go_wp2_with (go_at_call 54; ((with_reducible refine (isPixel_any _ _).mono ?_)); rintro e w' ⟨rfl, rfl⟩)
    go_ret
    exact ⟨ret_int (by simp [Pl.over, ha, hb]), rfl⟩
theorem specOver (t b : Int) (w : World) : Calls Try.prog 20 #[.int .i64 t, .int .i64 b] w fun e w' => e = .returned (.int .i64 (Pl.over t b)) ∧ w = w' := by
  cases ha : Pl.isPix t <;> cases hb : Pl.isPix b
  case true.true =>
    have ⟨_, _⟩ := Pl.chan_bd t 0
    have ⟨p1, q1, s1⟩ := Pl.mix_bd t b 1
    have ⟨p2, q2, s2⟩ := Pl.mix_bd t b 2
    have ⟨p3, q3, s3⟩ := Pl.mix_bd t b 3
    go_enter Try.func20, Try.ntmps20
    go_wp2_with (first | (first | (go_at_call 50; ((with_reducible refine (l04Pixel_any _ _).mono ?_)); rintro e w' ⟨rfl, rfl⟩) | (go_at_call 52; ((with_reducible refine (specPart _ _ _).mono ?_)); rintro e w' ⟨rfl, rfl⟩)) | (go_at_call 53; refine (specChannelOf_ok _ _ _ (by assumption) (by decide)).mono ?_; rintro e w' ⟨rfl, rfl⟩))
    refine wp_loop_rounds 4 ?_
    rw [rounds_succ]; go_wp2_with (first | (first | (go_at_call 50; ((with_reducible refine (l04Pixel_any _ _).mono ?_)); rintro e w' ⟨rfl, rfl⟩) | (go_at_call 52; ((with_reducible refine (specPart _ _ _).mono ?_)); rintro e w' ⟨rfl, rfl⟩)) | (go_at_call 53; refine (specChannelOf_ok _ _ _ (by assumption) (by decide)).mono ?_; rintro e w' ⟨rfl, rfl⟩))
    rw [rounds_succ]; go_wp2_with (first | (first | (go_at_call 50; ((with_reducible refine (l04Pixel_any _ _).mono ?_)); rintro e w' ⟨rfl, rfl⟩) | (go_at_call 52; ((with_reducible refine (specPart _ _ _).mono ?_)); rintro e w' ⟨rfl, rfl⟩)) | (go_at_call 53; refine (specChannelOf_ok _ _ _ (by assumption) (by decide)).mono ?_; rintro e w' ⟨rfl, rfl⟩))
    rw [rounds_succ]; go_wp2_with (first | (first | (go_at_call 50; ((with_reducible refine (l04Pixel_any _ _).mono ?_)); rintro e w' ⟨rfl, rfl⟩) | (go_at_call 52; ((with_reducible refine (specPart _ _ _).mono ?_)); rintro e w' ⟨rfl, rfl⟩)) | (go_at_call 53; refine (specChannelOf_ok _ _ _ (by assumption) (by decide)).mono ?_; rintro e w' ⟨rfl, rfl⟩))
    rw [rounds_succ]; go_wp2
    go_ret
    exact ⟨ret_int (by simp only [Pl.over, Pl.mix, ha, hb, Bool.and_self, if_true]; omega), rfl⟩
  all_goals
    go_enter Try.func20, Try.ntmps20
    go_wp2_with (go_at_call 50; ((with_reducible refine (l04Pixel_any _ _).mono ?_)); rintro e w' ⟨rfl, rfl⟩)
    go_ret
    exact ⟨ret_int (by simp [Pl.over, ha, hb]), rfl⟩
theorem implFade (p a : Int) (w : World) : Calls Try.prog 16 #[.int .i64 p, .int .i64 a] w fun e w' => e = .returned (.int .i64 (Pl.fade p a)) ∧ w = w' := by
  cases ha : Pl.isPix p <;> cases hb : Pl.inB a 0 255
  case true.true =>
    have ⟨_, _⟩ := Pl.inB_t ha
    have ⟨_, _⟩ := Pl.part_bd (Pl.chan_in p 0) hb
    have e1 := Pl.and24 p (by omega) (by omega)
    have e2 := Pl.or24 (Pl.part (Pl.chan p 0) a) (p % 16777216) (by omega) (by omega) (by omega) (by omega)
    go_enter Try.func16, Try.ntmps16
    go_wp2_with (first | (first | (go_at_call 54; ((with_reducible refine (isPixel_any _ _).mono ?_)); rintro e w' ⟨rfl, rfl⟩) | (go_at_call 56; ((with_reducible refine (implPart _ _ _).mono ?_)); rintro e w' ⟨rfl, rfl⟩) | (go_at_call 55; ((with_reducible refine (within_any _ _ _ _).mono ?_)); rintro e w' ⟨rfl, rfl⟩)) | (go_at_call 57; refine (channel_any _ _ _ (by assumption) (by decide)).mono ?_; rintro e w' ⟨rfl, rfl⟩))
    go_ret
    exact ⟨ret_int (by first | (simp only [Pl.fade, ha, hb, Bool.and_self, if_true]; done) | (simp only [Pl.fade, ha, hb, Bool.and_self, if_true]; omega)), rfl⟩
  all_goals
    go_enter Try.func16, Try.ntmps16
    go_wp2_with (first | (go_at_call 54; ((with_reducible refine (isPixel_any _ _).mono ?_)); rintro e w' ⟨rfl, rfl⟩) | (go_at_call 55; ((with_reducible refine (within_any _ _ _ _).mono ?_)); rintro e w' ⟨rfl, rfl⟩))
    go_ret
    exact ⟨ret_int (by simp [Pl.fade, ha, hb]), rfl⟩
theorem specFade (p a : Int) (w : World) : Calls Try.prog 15 #[.int .i64 p, .int .i64 a] w fun e w' => e = .returned (.int .i64 (Pl.fade p a)) ∧ w = w' := by
  cases ha : Pl.isPix p <;> cases hb : Pl.inB a 0 255
  case true.true =>
    have ⟨_, _⟩ := Pl.inB_t ha
    have ⟨_, _⟩ := Pl.part_bd (Pl.chan_in p 0) hb
    have e1 := Pl.and24 p (by omega) (by omega)
    go_enter Try.func15, Try.ntmps15
    go_wp2_with (first | (first | (go_at_call 50; ((with_reducible refine (l04Pixel_any _ _).mono ?_)); rintro e w' ⟨rfl, rfl⟩) | (go_at_call 52; ((with_reducible refine (specPart _ _ _).mono ?_)); rintro e w' ⟨rfl, rfl⟩) | (go_at_call 51; ((with_reducible refine (l01In_any _ _ _ _).mono ?_)); rintro e w' ⟨rfl, rfl⟩)) | (go_at_call 53; refine (specChannelOf_ok _ _ _ (by assumption) (by decide)).mono ?_; rintro e w' ⟨rfl, rfl⟩))
    go_ret
    exact ⟨ret_int (by first | (simp only [Pl.fade, ha, hb, Bool.and_self, if_true]; done) | (simp only [Pl.fade, ha, hb, Bool.and_self, if_true]; omega)), rfl⟩
  all_goals
    go_enter Try.func15, Try.ntmps15
    go_wp2_with (first | (go_at_call 50; ((with_reducible refine (l04Pixel_any _ _).mono ?_)); rintro e w' ⟨rfl, rfl⟩) | (go_at_call 51; ((with_reducible refine (l01In_any _ _ _ _).mono ?_)); rintro e w' ⟨rfl, rfl⟩))
    go_ret
    exact ⟨ret_int (by simp [Pl.fade, ha, hb]), rfl⟩
end Go.Proofs.Ytadghhajegpaiaa
