/- Contracts: the laws' own sameInts, sameImage. -/
import Derived.Test.YtmjjepgnciibcaaIm
namespace Go.Proofs.Ytmjjepgnciibcaa
open Go.RowKit
set_option linter.unusedVariables false
set_option linter.unusedSimpArgs false
set_option maxHeartbeats 1000000 in
theorem sameImage_any (W1 H1 W2 H2 : Int) (A1 A2 : Option Addr) (n m c1 c2 l1 h1 l2 h2 : Nat) (zs ys : List Int) (w : World) (I1 : Ints w l1 h1 (.slice A1 n c1) zs) (I2 : Ints w l2 h2 (.slice A2 m c2) ys) :
    Calls Try.prog 26 #[.agg #[.int .i64 W1, .int .i64 H1, .slice A1 n c1], .agg #[.int .i64 W2, .int .i64 H2, .slice A2 m c2]] w fun e w' => e = .returned (.bool (decide (Pl.Img.mk W1 H1 zs = Pl.Img.mk W2 H2 ys))) ∧ Below w.heap.size w w' := by
  have G1 := Lib.hid I1
  have G2 := Lib.hid I2
  clear I1 I2
  by_cases hW : W1 = W2
  case neg =>
    have hb : (W1 == W2) = false := by simpa using hW
    go_enter Try.func26, Try.ntmps26
    go_wp2_with fail
    go_ret
    exact ⟨ret_bool (by simp [hW]), by go_grown⟩
  subst hW
  by_cases hH : H1 = H2
  case neg =>
    have hb : (H1 == H2) = false := by simpa using hH
    go_enter Try.func26, Try.ntmps26
    go_wp2_with fail
    go_ret
    exact ⟨ret_bool (by simp [hH]), by go_grown⟩
  subst hH
  obtain ⟨b, hb⟩ : ∃ b, b = decide (zs = ys) := ⟨_, rfl⟩
  have HB := Lib.hid hb
  clear hb
  go_enter Try.func26, Try.ntmps26
  go_wp2_with fail
  refine (sameInts_any _ _ _ _ _ _ l1 h1 l2 h2 zs ys _ (Own.alloc (Own.alloc G1.out _) _) (Own.alloc (Own.alloc G2.out _) _)).mono ?_
  rw [← HB.out]
  rintro e w1 ⟨rfl, hb1⟩
  have B1 : Below w.heap.size w w1 := later (by go_grown) hb1
  cases b <;> (go_wp2_with fail; go_ret; exact ⟨ret_bool (by rw [Bool.eq_iff_iff]; have := HB.out; simp at this ⊢; try exact this), B1⟩)
theorem sameImage_same (W H : Int) (A1 A2 : Option Addr) (n m c1 c2 l1 h1 l2 h2 : Nat) (zs : List Int) (w : World) (I1 : Ints w l1 h1 (.slice A1 n c1) zs) (I2 : Ints w l2 h2 (.slice A2 m c2) zs) :
    Calls Try.prog 26 #[.agg #[.int .i64 W, .int .i64 H, .slice A1 n c1], .agg #[.int .i64 W, .int .i64 H, .slice A2 m c2]] w fun e w' => e = .returned (.bool true) ∧ Below w.heap.size w w' := by
  have h := sameImage_any W H W H A1 A2 n m c1 c2 l1 h1 l2 h2 zs zs w I1 I2
  simpa using h
end Go.Proofs.Ytmjjepgnciibcaa
