/- Contracts of the laws' own helpers over a byte slice: big, at. -/
import Derived.Test.YtepjjlaipindnaaDoorBase
import Derived.Test.YtepjjlaipindnaaDoorMem
namespace Go.Proofs.YtepjjlaipindnaaDoor
open Go.RowKit

theorem big_any (a : Option Addr) (len cap : Nat) (w : World) (hl : len ≤ 9223372036854775807) : Calls Tryd.prog 9 #[.slice a len cap] w fun e w' => e = .returned (.bool (decide (1048576 < len))) ∧ w = w' := by
  go_enter Tryd.func9, Tryd.ntmps9
  go_wp2
  go_ret
  exact ⟨ret_bool (by rw [Bool.eq_iff_iff]; simp; omega), rfl⟩
end Go.Proofs.YtepjjlaipindnaaDoor
