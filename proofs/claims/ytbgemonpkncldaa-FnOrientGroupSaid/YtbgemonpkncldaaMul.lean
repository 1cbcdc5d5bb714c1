/- Contracts: bits.Mul at small numbers. -/
import Derived.Test.YtbgemonpkncldaaBase
import Derived.Laws.BitsAllLaws
import Derived.Laws.BitsLemmas
namespace Go.Proofs.Ytbgemonpkncldaa
open Go.RowKit
theorem ret_two {k : IntKind} {a b c d : Int} (h : a = b) (h2 : c = d) : Ending.returned (.tuple #[.int k a, .int k c]) = .returned (.tuple #[.int k b, .int k d]) := by rw [h, h2]
theorem and32 (n : Nat) (h : n ≤ 256) : bits .and .u64 n 4294967295 = n := by
  show IntKind.u64.wrap ((BitVec.ofInt 64 (n : Int) &&& BitVec.ofInt 64 4294967295).toNat : Int) = n
  have e : (BitVec.ofInt 64 (n : Int) &&& BitVec.ofInt 64 4294967295).toNat = n := by
    rw [BitVec.toNat_and, BitVec.ofInt_natCast, BitVec.toNat_ofNat, show (BitVec.ofInt 64 4294967295).toNat = 2 ^ 32 - 1 by decide, Nat.mod_eq_of_lt (by omega), Nat.and_two_pow_sub_one_eq_mod, Nat.mod_eq_of_lt (by omega)]
  rw [e, IntKind.wrap_u64]
  omega
theorem mul64_small (n : Nat) (w : World) (hn : n ≤ 256) : Calls Try.prog 88 #[.int .u64 1, .int .u64 n] w fun e w' => e = .returned (.tuple #[.int .u64 0, .int .u64 n]) ∧ w = w' := by
  have hA : bits .and .u64 1 4294967295 = 1 := by decide +kernel
  have hB : bits .and .u64 n 4294967295 = n := and32 n hn
  go_enter Try.func88, Try.ntmps88
  go_wp2
  go_ret2
  refine ⟨ret_two ?_ ?_, rfl⟩
  · have h0 : (n : Int) / 4294967296 = 0 := by omega
    have hC : bits .and .u64 0 4294967295 = 0 := by decide +kernel
    simp [IntKind.wrap_u64, h0, hC]
  · first | rfl | (simp only [IntKind.wrap_u64]; omega) | omega
theorem mul_small (n : Nat) (w : World) (hn : n ≤ 256) : Calls Try.prog 83 #[.int .u64 1, .int .u64 n] w fun e w' => e = .returned (.tuple #[.int .u64 0, .int .u64 n]) ∧ w = w' := by
  go_enter Try.func83, Try.ntmps83
  go_wp2_with (go_at_call 88; ((with_reducible refine (mul64_small n _ hn).mono ?_)); rintro e w' ⟨rfl, rfl⟩)
  go_ret2
  exact ⟨rfl, rfl⟩
end Go.Proofs.Ytbgemonpkncldaa
