/- Plain: the laws of differences. No program in sight. -/
import Derived.Test.YtmjjepgnciibcaaRegLaw
import Derived.Test.YtmjjepgnciibcaaDiff0
import Derived.Test.YtmjjepgnciibcaaCopyR0
namespace Go.Proofs.Ytmjjepgnciibcaa.Pl
set_option linter.unusedVariables false
set_option linter.unusedSimpArgs false
theorem cnt_small {f : Nat → Bool} {W : Nat} (h : ∀ x, f x = true → x < W) (x : Nat) : cnt f x ≤ W - x := by
  induction x using cnt.induct with
  | case1 x hx ih =>
    rw [cnt, if_pos hx]
    by_cases hf : f x = true
    · have := h x hf
      rw [if_pos hf]
      omega
    · rw [if_neg hf]
      omega
  | case2 x hx => rw [cnt, if_neg hx]; omega
theorem total_small {G : Nat → Nat → Bool} {W H : Nat} (h : ∀ y x, G y x = true → x < W ∧ y < H) (y : Nat) : total G y ≤ (H - y) * W := by
  induction y using total.induct with
  | case1 y hy ih =>
    rw [total, if_pos hy]
    have hc : cnt (G y) 0 ≤ W := by have := cnt_small (fun x hx => (h y x hx).1) 0; omega
    by_cases hH : y < H
    · have e : H - y = (H - (y + 1)) + 1 := by omega
      rw [e, Nat.succ_mul]
      omega
    · have hz : cnt (G y) 0 ≤ 0 - 0 := cnt_small (fun x hx => by have := (h y x hx).2; omega) 0
      have e : H - (y + 1) = 0 := by omega
      rw [e] at ih
      omega
  | case2 y hy => rw [total, if_neg hy]; omega
theorem cnt_none {f : Nat → Bool} {x : Nat} (h : ∀ i, x ≤ i → i < 16 → f i = false) : cnt f x = 0 := by
  induction x using cnt.induct with
  | case1 x hx ih => rw [cnt, if_pos hx, ih fun i h1 h2 => h i (by omega) h2, h x (Nat.le_refl _) hx]; rfl
  | case2 x hx => rw [cnt, if_neg hx]
theorem cnt_zero {f : Nat → Bool} {x : Nat} (h : cnt f x = 0) : ∀ i, x ≤ i → i < 16 → f i = false := by
  induction x using cnt.induct with
  | case1 x hx ih =>
    rw [cnt, if_pos hx] at h
    intro i h1 h2
    by_cases e : i = x
    · subst e
      cases hf : f i
      · rfl
      · rw [hf] at h; simp at h
    · exact ih (by omega) i (by omega) h2
  | case2 x hx => intro i h1 h2; omega
theorem total_none {G : Nat → Nat → Bool} {y : Nat} (h : ∀ j, y ≤ j → j < 16 → ∀ i, i < 16 → G j i = false) : total G y = 0 := by
  induction y using total.induct with
  | case1 y hy ih => rw [total, if_pos hy, ih fun j h1 h2 => h j (by omega) h2, cnt_none fun i _ h2 => h y (Nat.le_refl _) hy i h2]
  | case2 y hy => rw [total, if_neg hy]
theorem total_zero {G : Nat → Nat → Bool} {y : Nat} (h : total G y = 0) : ∀ j, y ≤ j → j < 16 → ∀ i, i < 16 → G j i = false := by
  induction y using total.induct with
  | case1 y hy ih =>
    rw [total, if_pos hy] at h
    intro j h1 h2 i h3
    by_cases e : j = y
    · subst e
      exact cnt_zero (f := G j) (x := 0) (by omega) i (Nat.zero_le _) h3
    · exact ih (by omega) j (by omega) h2 i h3
  | case2 y hy => intro j h1 h2; omega
theorem diffOf_ok {X Y : Nat} {zs ds : List Int} (hi : imageOk ⟨X, Y, zs⟩ = true) (hj : imageOk ⟨X, Y, ds⟩ = true) : diffOf ⟨X, Y, zs⟩ ⟨X, Y, ds⟩ = canon (diffG X Y zs ds) := by simp [diffOf, hi, hj]
theorem dims {X Y : Nat} {zs : List Int} (hi : imageOk ⟨X, Y, zs⟩ = true) : 1 ≤ X ∧ X ≤ 16 ∧ 1 ≤ Y ∧ Y ≤ 16 ∧ zs.length = X * Y := by
  obtain ⟨h1, h2, h3, _⟩ := imageOk_t hi
  simp only at h1 h2 h3
  refine ⟨by omega, by omega, by omega, by omega, ?_⟩
  rw [← Int.natCast_mul] at h3
  exact Int.ofNat.inj h3
theorem place_in {X Y k : Nat} (h1 : 1 ≤ X) (hk : k < X * Y) : k / X < Y ∧ k % X < X ∧ k / X * X + k % X = k := by
  refine ⟨?_, Nat.mod_lt _ (by omega), divmod_place h1⟩
  rw [Nat.div_lt_iff_lt_mul (by omega), Nat.mul_comm Y X]
  exact hk
/-- The points in which two images differ, copied. -/
theorem copy_diff {X Y : Nat} {zs ds : List Int} (hi : imageOk ⟨X, Y, zs⟩ = true) (hj : imageOk ⟨X, Y, ds⟩ = true) : copyRegion ⟨X, Y, zs⟩ ⟨X, Y, ds⟩ (diffOf ⟨X, Y, zs⟩ ⟨X, Y, ds⟩) = ⟨X, Y, ds⟩ := by
  obtain ⟨h1, h2, h3, h4, lz⟩ := dims hi
  obtain ⟨_, _, _, _, ld⟩ := dims hj
  rw [diffOf_ok hi hj]
  unfold copyRegion
  rw [if_pos (by simp [hi, hj, regionOk_canon])]
  refine congrArg (Img.mk X Y) ?_
  refine List.ext_getElem? fun k => ?_
  by_cases hk : k < X * Y
  · obtain ⟨p1, p2, p3⟩ := place_in h1 hk
    simp only [Int.toNat_natCast]
    rw [copyK_get (by rw [lz]; exact hk), gridL_canon _ _ (by omega) _ (by omega), p3]
    simp only [diffG, p3, p1, p2, Nat.min_self, decide_true, Bool.true_and, ne_eq]
    by_cases e : zs.getD k 0 = ds.getD k 0
    · simp only [e, not_true, decide_false, Bool.false_eq_true, if_false]
      rw [List.getD_eq_getElem?_getD, List.getElem?_eq_getElem (by rw [ld]; exact hk)]; rfl
    · simp only [e, not_false_eq_true, decide_true, if_true]
      rw [List.getD_eq_getElem?_getD, List.getElem?_eq_getElem (by rw [ld]; exact hk)]; rfl
  · rw [List.getElem?_eq_none (by rw [copyK_length]; show zs.length ≤ k; omega), List.getElem?_eq_none (by omega)]
/-- An image, cropped by nothing. -/
theorem crop_whole {X Y : Nat} {ds : List Int} (hj : imageOk ⟨X, Y, ds⟩ = true) : cropOk ⟨X, Y, ds⟩ ⟨0, 0, X, Y⟩ = true ∧ crop ⟨X, Y, ds⟩ ⟨0, 0, X, Y⟩ = ⟨X, Y, ds⟩ := by
  obtain ⟨h1, h2, h3, h4, ld⟩ := dims hj
  have hok : cropOk ⟨X, Y, ds⟩ ⟨0, 0, X, Y⟩ = true := by
    have hr : R.ok ⟨0, 0, X, Y⟩ = true := by simp [R.ok, rectOk, inB]; omega
    have he : R.empty ⟨0, 0, X, Y⟩ = false := by simp [R.empty]; omega
    have hc : covers ⟨0, 0, X, Y⟩ ⟨0, 0, X, Y⟩ = true := by simp [covers, hr, he]
    simp [cropOk, hj, he, hc]
  refine ⟨hok, ?_⟩
  unfold crop
  rw [if_pos hok]
  refine congrArg (Img.mk X Y) ?_
  have hn : ((Y : Int) * (X : Int)).toNat = X * Y := by rw [← Int.natCast_mul, Int.toNat_natCast, Nat.mul_comm]
  refine List.ext_getElem? fun k => ?_
  by_cases hk : k < X * Y
  · obtain ⟨p1, p2, p3⟩ := place_in h1 hk
    have e := tabTo_get (w := X) (n := X * Y) (cropAt ⟨X, Y, ds⟩ ⟨0, 0, X, Y⟩) p2 (by rw [p3]; exact hk)
    rw [p3] at e
    show (tabTo X _ _)[k]? = _
    rw [hn, e, List.getElem?_eq_getElem (by rw [ld]; exact hk)]
    have e2 : (((0 : Int) + ((k / X : Nat) : Int)) * (X : Int) + 0 + ((k % X : Nat) : Int)) = (k : Int) := by
      rw [Int.zero_add, Int.add_zero, ← Int.natCast_mul, ← Int.natCast_add, p3]
    show some (ix ds _) = _
    rw [e2]
    exact congrArg some (ix_get (List.getElem?_eq_getElem (by rw [ld]; exact hk)))
  · rw [List.getElem?_eq_none (by show (tabTo X _ _).length ≤ k; rw [tabTo_length, hn]; omega), List.getElem?_eq_none (by omega)]
theorem area_le {X Y : Nat} {zs ds : List Int} (hi : imageOk ⟨X, Y, zs⟩ = true) (hj : imageOk ⟨X, Y, ds⟩ = true) : areaOf (diffOf ⟨X, Y, zs⟩ ⟨X, Y, ds⟩) ≤ ((X * Y : Nat) : Int) ∧ 0 ≤ areaOf (diffOf ⟨X, Y, zs⟩ ⟨X, Y, ds⟩) := by
  rw [diffOf_ok hi hj, areaOf_canon]
  have h := total_small (G := diffG X Y zs ds) (W := X) (H := Y) (fun y x h => by simp only [diffG, Bool.and_eq_true, decide_eq_true_eq] at h; exact h.1) 0
  rw [Nat.sub_zero, Nat.mul_comm] at h
  omega
theorem area_none {X Y : Nat} {zs ds : List Int} (hi : imageOk ⟨X, Y, zs⟩ = true) (hj : imageOk ⟨X, Y, ds⟩ = true) : (areaOf (diffOf ⟨X, Y, zs⟩ ⟨X, Y, ds⟩) == 0) = decide (zs = ds) := by
  obtain ⟨h1, h2, h3, h4, lz⟩ := dims hi
  obtain ⟨_, _, _, _, ld⟩ := dims hj
  rw [diffOf_ok hi hj, areaOf_canon, Bool.eq_iff_iff]
  simp only [beq_iff_eq, decide_eq_true_eq]
  constructor
  · intro h
    have hz := total_zero (G := diffG X Y zs ds) (y := 0) (by omega)
    refine List.ext_getElem? fun k => ?_
    by_cases hk : k < X * Y
    · obtain ⟨p1, p2, p3⟩ := place_in h1 hk
      have := hz (k / X) (Nat.zero_le _) (by omega) (k % X) (by omega)
      simp only [diffG, p1, p2, p3, decide_true, Bool.true_and, decide_eq_false_iff_not, ne_eq, Decidable.not_not] at this
      rw [List.getD_eq_getElem?_getD, List.getD_eq_getElem?_getD, List.getElem?_eq_getElem (by rw [lz]; exact hk), List.getElem?_eq_getElem (by rw [ld]; exact hk)] at this
      rw [List.getElem?_eq_getElem (by rw [lz]; exact hk), List.getElem?_eq_getElem (by rw [ld]; exact hk)]
      exact congrArg some this
    · rw [List.getElem?_eq_none (by omega), List.getElem?_eq_none (by omega)]
  · rintro rfl
    rw [total_none (G := diffG X Y zs zs) (y := 0) fun j _ _ i _ => by simp [diffG]]
    rfl
theorem diffOf_length (i j : Img) : (diffOf i j).length ≤ 256 := by
  unfold diffOf
  split
  · exact canon_length _
  · simp
end Go.Proofs.Ytmjjepgnciibcaa.Pl
