/- Plain: where two images differ; a region's pixels copied. No program in sight. -/
import Derived.Test.YtmjjepgnciibcaaBitRow
import Derived.Test.YtmjjepgnciibcaaImg0
namespace Go.Proofs.Ytmjjepgnciibcaa.Pl
set_option linter.unusedVariables false
set_option linter.unusedSimpArgs false
/-- The points in which two pictures of width W and height H differ. -/
def diffG (W H : Nat) (za zb : List Int) : Nat → Nat → Bool := fun y x => decide (x < W) && decide (y < H) && decide (za.getD (y * W + x) 0 ≠ zb.getD (y * W + x) 0)
/-- DifferenceOf. -/
def diffOf (i j : Img) : List R := if imageOk i && imageOk j && decide (i.w = j.w) && decide (i.h = j.h) then canon (diffG i.w.toNat i.h.toNat i.d j.d) else []
/-- The same, as far as the first k pixels go. -/
def diffK (W H : Nat) (za zb : List Int) (k : Nat) : Nat → Nat → Bool := fun y x => decide (y * W + x < k) && diffG W H za zb y x
theorem diffK_zero (W H : Nat) (za zb : List Int) : diffK W H za zb 0 = fun _ _ => false := by
  funext y x
  simp [diffK]
theorem diffK_all {W H : Nat} (za zb : List Int) (h1 : 1 ≤ W) : ∀ y, y < 16 → ∀ x, x < 16 → diffK W H za zb (W * H) y x = diffG W H za zb y x := by
  intro y _ x _
  unfold diffK diffG
  by_cases hx : x < W
  · by_cases hy : y < H
    · have : y * W + x < W * H := by
        have h2 : (y + 1) * W ≤ H * W := Nat.mul_le_mul_right W (by omega)
        rw [Nat.succ_mul] at h2
        rw [Nat.mul_comm W H]
        omega
      simp [hx, hy, this]
    · simp [hy]
  · simp [hx]
theorem divmod_place {W k : Nat} (h : 1 ≤ W) : k / W * W + k % W = k := by
  rw [Nat.mul_comm]; exact Nat.div_add_mod k W
/-- The row of pixel k: its bit is set where the pictures differ. -/
theorem diffK_step {W H : Nat} {za zb : List Int} {k : Nat} (h1 : 1 ≤ W) (h2 : W ≤ 16) (h3 : H ≤ 16) (hk : k < W * H) (y x : Nat) (hy : y < 16) (hx : x < 16) :
    diffK W H za zb (k + 1) y x = (diffK W H za zb k y x || (decide (y = k / W ∧ x = k % W) && decide (za.getD k 0 ≠ zb.getD k 0))) := by
  have hm : k % W < W := Nat.mod_lt _ (by omega)
  have hd : k / W < H := by rw [Nat.div_lt_iff_lt_mul (by omega), Nat.mul_comm H W]; exact hk
  have hp := divmod_place (W := W) (k := k) h1
  unfold diffK diffG
  by_cases hxw : x < W
  · by_cases e : y * W + x = k
    · have e1 : y = k / W := by rw [← e, Nat.mul_comm, Nat.mul_add_div (by omega), Nat.div_eq_of_lt hxw]; omega
      have e2 : x = k % W := by rw [← e, Nat.mul_comm, Nat.mul_add_mod]; exact (Nat.mod_eq_of_lt hxw).symm
      subst e1 e2
      rw [hp]
      simp [hm, hd]
    · have hne : ¬ (y = k / W ∧ x = k % W) := by
        rintro ⟨rfl, rfl⟩
        exact e hp
      by_cases hlt : y * W + x < k
      · simp [hlt, hne, show y * W + x < k + 1 by omega]
      · simp [hlt, hne, show ¬ (y * W + x < k + 1) by omega]
  · have hne : ¬ (y = k / W ∧ x = k % W) := by
      rintro ⟨rfl, rfl⟩
      exact hxw hm
    simp [hxw, hne]
end Go.Proofs.Ytmjjepgnciibcaa.Pl
