/- Plain laws of small rectangles: intersections, bounds, moves. No program in sight. -/
import Derived.Test.YtlnailpefdlnnaaPlain2
namespace Go.Proofs.Ytlnailpefdlnnaa.Pl
theorem rectOk_mk {x y w h : Int} (h1 : -1000 ≤ x ∧ x ≤ 1000) (h2 : -1000 ≤ y ∧ y ≤ 1000) (h3 : 0 ≤ w ∧ w ≤ 1000) (h4 : 0 ≤ h ∧ h ≤ 1000) : rectOk x y w h = true := by
  simp only [rectOk, inB_mk h1, inB_mk h2, inB_mk h3, inB_mk h4, Bool.and_self]
section
variable {x y a b x2 y2 a2 b2 : Int}
def SmallR (x y a b : Int) : Prop := (-4 ≤ x ∧ x ≤ 15) ∧ (-4 ≤ y ∧ y ≤ 11) ∧ (0 ≤ a ∧ a ≤ 11) ∧ (0 ≤ b ∧ b ≤ 9)
theorem SmallR.ok (h : SmallR x y a b) : rectOk x y a b = true := by
  obtain ⟨h1, h2, h3, h4⟩ := h
  exact rectOk_mk (by omega) (by omega) (by omega) (by omega)
theorem inter_small (h : SmallR x y a b) (k : SmallR x2 y2 a2 b2) : ∃ i j m n : Int, inter ⟨x, y, a, b⟩ ⟨x2, y2, a2, b2⟩ = ⟨i, j, m, n⟩ ∧ rectOk i j m n = true ∧
    (∀ p q, hasPoint i j m n p q = (hasPoint x y a b p q && hasPoint x2 y2 a2 b2 p q)) ∧ inter ⟨x2, y2, a2, b2⟩ ⟨x, y, a, b⟩ = ⟨i, j, m, n⟩ ∧ covers ⟨x, y, a, b⟩ ⟨i, j, m, n⟩ = true := by
  have h0 := h.ok
  have k0 := k.ok
  obtain ⟨h1, h2, h3, h4⟩ := h
  obtain ⟨k1, k2, k3, k4⟩ := k
  simp only [inter, R.ok, h0, k0, Bool.not_true, Bool.or_self, Bool.false_eq_true, if_false]
  by_cases c : min (x + a) (x2 + a2) - max x x2 ≤ 0 ∨ min (y + b) (y2 + b2) - max y y2 ≤ 0
  · have c2 : min (x2 + a2) (x + a) - max x2 x ≤ 0 ∨ min (y2 + b2) (y + b) - max y2 y ≤ 0 := by omega
    rw [if_pos c, if_pos c2]
    refine ⟨0, 0, 0, 0, rfl, rectOk_mk (by omega) (by omega) (by omega) (by omega), fun p q => ?_, rfl, ?_⟩
    · have e : rectOk 0 0 0 0 = true := rectOk_mk (by omega) (by omega) (by omega) (by omega)
      rw [Bool.eq_iff_iff]
      simp only [hasPoint, e, h0, k0, Bool.true_and, Bool.and_eq_true, decide_eq_true_eq]
      omega
    · have e : rectOk 0 0 0 0 = true := rectOk_mk (by omega) (by omega) (by omega) (by omega)
      simp [covers, R.ok, h0, e, R.empty]
  · have c2 : ¬ (min (x2 + a2) (x + a) - max x2 x ≤ 0 ∨ min (y2 + b2) (y + b) - max y2 y ≤ 0) := by omega
    rw [if_neg c, if_neg c2]
    have e : rectOk (max x x2) (max y y2) (min (x + a) (x2 + a2) - max x x2) (min (y + b) (y2 + b2) - max y y2) = true := rectOk_mk (by omega) (by omega) (by omega) (by omega)
    refine ⟨_, _, _, _, rfl, e, fun p q => ?_, R.ext' (by simp only; omega) (by simp only; omega) (by simp only; omega) (by simp only; omega), ?_⟩
    · rw [Bool.eq_iff_iff]
      simp only [hasPoint, e, h0, k0, Bool.true_and, Bool.and_eq_true, decide_eq_true_eq]
      omega
    · have e1 : R.empty ⟨x, y, a, b⟩ = false := by simp only [R.empty, Bool.or_eq_false_iff, beq_eq_false_iff_ne]; omega
      simp only [covers, R.ok, h0, e, e1, Bool.true_and, Bool.not_false, Bool.or_eq_true, Bool.and_eq_true, decide_eq_true_eq]
      right
      omega
theorem covers_bounds {i j m n : Int} (h0 : rectOk x y a b = true) (e : rectOk i j m n = true) (c : i ≤ x ∧ j ≤ y ∧ x + a ≤ i + m ∧ y + b ≤ j + n) (ne : m ≠ 0 ∧ n ≠ 0) : covers ⟨i, j, m, n⟩ ⟨x, y, a, b⟩ = true := by
  have e1 : R.empty ⟨i, j, m, n⟩ = false := by simp only [R.empty, Bool.or_eq_false_iff, beq_eq_false_iff_ne]; omega
  simp only [covers, R.ok, h0, e, e1, Bool.true_and, Bool.not_false, Bool.or_eq_true, Bool.and_eq_true, decide_eq_true_eq]
  right
  omega
theorem covers_empty {i j m n : Int} (h0 : rectOk x y a b = true) (e : rectOk i j m n = true) (c : R.empty ⟨x, y, a, b⟩ = true) : covers ⟨i, j, m, n⟩ ⟨x, y, a, b⟩ = true := by
  simp only [covers, R.ok, h0, e, c, Bool.true_and, Bool.true_or]
theorem bounds_small (h : SmallR x y a b) (k : SmallR x2 y2 a2 b2) : ∃ i j m n : Int, bounds ⟨x, y, a, b⟩ ⟨x2, y2, a2, b2⟩ = ⟨i, j, m, n⟩ ∧ rectOk i j m n = true ∧
    covers ⟨i, j, m, n⟩ ⟨x, y, a, b⟩ = true ∧ covers ⟨i, j, m, n⟩ ⟨x2, y2, a2, b2⟩ = true := by
  have h0 := h.ok
  have k0 := k.ok
  obtain ⟨h1, h2, h3, h4⟩ := h
  obtain ⟨k1, k2, k3, k4⟩ := k
  have z0 : rectOk 0 0 0 0 = true := rectOk_mk (by omega) (by omega) (by omega) (by omega)
  simp only [bounds, R.ok, h0, k0, Bool.not_true, Bool.or_self, Bool.false_eq_true, if_false]
  cases ea : R.empty ⟨x, y, a, b⟩
  case true =>
    cases eb : R.empty ⟨x2, y2, a2, b2⟩
    case true => exact ⟨0, 0, 0, 0, rfl, z0, covers_empty h0 z0 ea, covers_empty k0 z0 eb⟩
    case false =>
      simp only [R.empty, Bool.or_eq_false_iff, beq_eq_false_iff_ne] at eb
      exact ⟨x2, y2, a2, b2, rfl, k0, covers_empty h0 k0 ea, covers_bounds k0 k0 (by omega) eb⟩
  case false =>
    have ea' := ea
    simp only [R.empty, Bool.or_eq_false_iff, beq_eq_false_iff_ne] at ea'
    cases eb : R.empty ⟨x2, y2, a2, b2⟩
    case true => exact ⟨x, y, a, b, rfl, h0, covers_bounds h0 h0 (by omega) ea', covers_empty k0 h0 eb⟩
    case false =>
      simp only [R.empty, Bool.or_eq_false_iff, beq_eq_false_iff_ne] at eb
      have e : rectOk (min x x2) (min y y2) (max (x + a) (x2 + a2) - min x x2) (max (y + b) (y2 + b2) - min y y2) = true := rectOk_mk (by omega) (by omega) (by omega) (by omega)
      simp only [Bool.and_self, Bool.false_eq_true, if_false, e, if_true]
      exact ⟨_, _, _, _, rfl, e, covers_bounds h0 e (by omega) (by omega), covers_bounds k0 e (by omega) (by omega)⟩
theorem moved_back (h : SmallR x y a b) : ∃ i j : Int, moved ⟨x, y, a, b⟩ 7 (-3) = ⟨i, j, a, b⟩ ∧ moved ⟨i, j, a, b⟩ (-7) 3 = ⟨x, y, a, b⟩ := by
  have h0 := h.ok
  obtain ⟨h1, h2, h3, h4⟩ := h
  have e : rectOk (x + 7) (y + -3) a b = true := rectOk_mk (by omega) (by omega) (by omega) (by omega)
  refine ⟨x + 7, y + -3, ?_, ?_⟩
  · simp only [moved, R.ok, h0, show inB 7 (-2000) 2000 = true by decide, show inB (-3) (-2000) 2000 = true by decide, e]
    rfl
  · have e2 : x + 7 + -7 = x := by omega
    have e3 : y + -3 + 3 = y := by omega
    simp only [moved, R.ok, e, show inB (-7) (-2000) 2000 = true by decide, show inB 3 (-2000) 2000 = true by decide, e2, e3, h0]
    rfl
end
end Go.Proofs.Ytlnailpefdlnnaa.Pl
