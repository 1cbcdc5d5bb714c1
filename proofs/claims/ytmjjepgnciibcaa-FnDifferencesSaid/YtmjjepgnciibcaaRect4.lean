/- Contracts: Bounds, Covers, eqRect. -/
import Derived.Test.YtmjjepgnciibcaaRect3
namespace Go.Proofs.Ytmjjepgnciibcaa
open Go.RowKit

theorem eqRect_same (x y a b : Int) (w : World) : Calls Try.prog 64 #[.agg #[.int .i64 x, .int .i64 y, .int .i64 a, .int .i64 b], .agg #[.int .i64 x, .int .i64 y, .int .i64 a, .int .i64 b]] w fun e w' => e = .returned (.bool true) ∧ Below w.heap.size w w' := by
  go_enter Try.func64, Try.ntmps64
  go_wp2
  go_ret
  exact ⟨rfl, by go_grown⟩
end Go.Proofs.Ytmjjepgnciibcaa
