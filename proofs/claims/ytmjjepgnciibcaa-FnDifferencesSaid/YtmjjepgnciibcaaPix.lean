/- Contracts: Part, channel, ChannelOf, MakePixel. -/
import Derived.Test.YtmjjepgnciibcaaBase
namespace Go.Proofs.Ytmjjepgnciibcaa
open Go.RowKit

theorem specMakePixel (a r g b : Int) (w : World) : Calls Try.prog 82 #[.int .i64 a, .int .i64 r, .int .i64 g, .int .i64 b] w fun e w' => e = .returned (.int .i64 (Pl.makePixel a r g b)) ∧ w = w' := by
  cases ha : Pl.inB a 0 255
  case false =>
    go_enter Try.func82, Try.ntmps82
    go_wp2_with (go_at_call 60; ((with_reducible refine (l01In_any _ _ _ _).mono ?_)); rintro e w' ⟨rfl, rfl⟩)
    go_ret
    exact ⟨ret_int (by simp [Pl.makePixel, ha]), rfl⟩
  cases hr : Pl.inB r 0 255
  case false =>
    go_enter Try.func82, Try.ntmps82
    go_wp2_with (go_at_call 60; ((with_reducible refine (l01In_any _ _ _ _).mono ?_)); rintro e w' ⟨rfl, rfl⟩)
    go_ret
    exact ⟨ret_int (by simp [Pl.makePixel, hr]), rfl⟩
  cases hg : Pl.inB g 0 255
  case false =>
    go_enter Try.func82, Try.ntmps82
    go_wp2_with (go_at_call 60; ((with_reducible refine (l01In_any _ _ _ _).mono ?_)); rintro e w' ⟨rfl, rfl⟩)
    go_ret
    exact ⟨ret_int (by simp [Pl.makePixel, hg]), rfl⟩
  cases hb : Pl.inB b 0 255
  case false =>
    go_enter Try.func82, Try.ntmps82
    go_wp2_with (go_at_call 60; ((with_reducible refine (l01In_any _ _ _ _).mono ?_)); rintro e w' ⟨rfl, rfl⟩)
    go_ret
    exact ⟨ret_int (by simp [Pl.makePixel, hb]), rfl⟩
  have ⟨_, _⟩ := Pl.inB_t ha
  have ⟨_, _⟩ := Pl.inB_t hr
  have ⟨_, _⟩ := Pl.inB_t hg
  have ⟨_, _⟩ := Pl.inB_t hb
  go_enter Try.func82, Try.ntmps82
  go_wp2_with (go_at_call 60; ((with_reducible refine (l01In_any _ _ _ _).mono ?_)); rintro e w' ⟨rfl, rfl⟩)
  go_ret
  exact ⟨ret_int (by simp [Pl.makePixel, ha, hr, hg, hb]), rfl⟩
end Go.Proofs.Ytmjjepgnciibcaa
