/- Contracts: Clamp, ScalePoint, UndoOrient, OrientSize, ThenOrient. -/
import Derived.Test.YtadghhajegpaiaaBase
namespace Go.Proofs.Ytadghhajegpaiaa
open Go.RowKit

theorem implClamp (n lo hi : Int) (w : World) : Calls Try.prog 44 #[.int .i64 n, .int .i64 lo, .int .i64 hi] w fun e w' => e = .returned (.int .i64 (Pl.clamp n lo hi)) ∧ w = w' := by
  go_enter Try.func44, Try.ntmps44
  go_wp2
  all_goals
    go_ret
    exact ⟨ret_int (by unfold Pl.clamp; repeat' split <;> omega), rfl⟩
end Go.Proofs.Ytadghhajegpaiaa
